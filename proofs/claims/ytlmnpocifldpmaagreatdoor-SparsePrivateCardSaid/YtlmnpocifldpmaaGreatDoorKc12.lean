/- Texts that the proof rests on, merged: Slk, Sa2, Fd12, Shi, Sh9, KoI, Sfi, Sla, Sn0, PkP, Lits, Slv, Spp1, Spp2. -/
import Derived.Test.YtlmnpocifldpmaaGreatDoorKc11
import Derived.IntWalk
import Derived.RangeFuncBox
import Derived.Shelf.SlicesE.Clone
import Derived.Shelf.SlGeneric
import Derived.Ground.SlgnProg
import Derived.Ground.NamesProg
import Derived.Test.YtlmnpocifldpmaaGreatDoorProg
import Derived.Deep.DeepCutAuto
set_option linter.unusedVariables false
set_option linter.unusedSimpArgs false
set_option linter.unusedSectionVars false
set_option maxRecDepth 100000
set_option maxHeartbeats 8000000
namespace Go.Proofs.YtlmnpocifldpmaaGreatDoor
open Go.RowKit
open Go.Shelf
open Go.Sort
open Go.Lib (decDigits nDigits)
structure NsI (w:World)(G bn:Nat)(a r:ByteArray)(u0 u1:Value)(x0 x1:ByteArray)(L0 L1:List (Int×ByteArray))(W:World):Prop where
 r:Blk W G #[.string a,.string r] 60
 n:Blk W bn #[u0,u1] 64
 s:Blk W (bn+1) #[.string x0,.string x1] 60
 p0:W.ownsRow (bn+1+1) 68 2 u0 L0.length (cpF L0)
 p1:W.ownsRow (bn+1+1) 68 2 u1 L1.length (cpF L1)
 bel:Below w.heap.size w W
theorem NsI.call {w:World}{G bn:Nat}{a r:ByteArray}{u0 u1:Value}{x0 x1:ByteArray}{L0 L1:List (Int×ByteArray)}{W W':World}(h:NsI w G bn a r u0 u1 x0 x1 L0 L1 W)(hb:Below W.heap.size W W'):NsI w G bn a r u0 u1 x0 x1 L0 L1 W':=
 ⟨h.r.call hb,h.n.call hb,h.s.call hb,a0s h.p0 hb,a0s h.p1 hb,a0a h.bel hb⟩
theorem NsI.fst {w:World}{G bn:Nat}{a r:ByteArray}{u0 u1 u:Value}{x0 x1 x:ByteArray}{L0 L1 L:List (Int×ByteArray)}{W:World}(h:NsI w G bn a r u0 u1 x0 x1 L0 L1 W)(hw:w.heap.size≤G)(hG:G<bn)(hu:W.ownsRow (bn+1+1) 68 2 u L.length (cpF L)):
 NsI w G bn a r u u1 x x1 L L1 ((W.setCell ⟨bn,0,none⟩ u).setCell ⟨bn+1,0,none⟩ (.string x)):=by
 refine⟨(h.r.other (by simp;omega) _).other (by simp;omega) _,?_,?_,?_,?_,(h.bel.setCell (by simp;omega) _).setCell (by simp;omega) _⟩
 ·have:=(h.n.set 0 u).other (a:=⟨bn+1,0,none⟩) (by simp) (.string x);simpa using this
 ·have:=(h.s.other (a:=⟨bn,0,none⟩) (by simp) u).set 0 (.string x);simpa using this
 ·exact ownsRow_setCell_below (ownsRow_setCell_below hu (by simp;omega) _) (by simp) _
 ·exact ownsRow_setCell_below (ownsRow_setCell_below h.p1 (by simp;omega) _) (by simp) _
theorem NsI.snd {w:World}{G bn:Nat}{a r:ByteArray}{u0 u1 u:Value}{x0 x1 x:ByteArray}{L0 L1 L:List (Int×ByteArray)}{W:World}(h:NsI w G bn a r u0 u1 x0 x1 L0 L1 W)(hw:w.heap.size≤G)(hG:G<bn)(hu:W.ownsRow (bn+1+1) 68 2 u L.length (cpF L)):
 NsI w G bn a r u0 u x0 x L0 L ((W.setCell ⟨bn,1,none⟩ u).setCell ⟨bn+1,1,none⟩ (.string x)):=by
 refine⟨(h.r.other (by simp;omega) _).other (by simp;omega) _,?_,?_,?_,?_,(h.bel.setCell (by simp;omega) _).setCell (by simp;omega) _⟩
 ·have:=(h.n.set 1 u).other (a:=⟨bn+1,1,none⟩) (by simp) (.string x);simpa using this
 ·have:=(h.s.other (a:=⟨bn,1,none⟩) (by simp) u).set 1 (.string x);simpa using this
 ·exact ownsRow_setCell_below (ownsRow_setCell_below h.p0 (by simp;omega) _) (by simp) _
 ·exact ownsRow_setCell_below (ownsRow_setCell_below hu (by simp;omega) _) (by simp) _
theorem e0A {W:World}{base:Nat}{v:Value}{L:List (Int×ByteArray)}(h:W.ownsRow base 68 2 v L.length (cpF L)):∃ a c,v=.slice a L.length c:=by
 obtain⟨a,c,e,-⟩:=(PRow.of_owns h).ex;exact⟨a,c,e⟩
theorem j0M {a:ByteArray}{n:Nat}(hg:gPE a=0)(hn:n≤32):(chS (glR a (n:Nat) true)).length≤100:=by
 have eA:glR a (n:Nat) true=a0D (glP (gV (bN (cW a)) (bN (qD a)) true n) (2 ^ n) n (gL (bN (cW a)) (bN (qD a)) true n)):=by unfold glR;rw[if_pos (by unfold glE;rw[if_neg (by simpa using hg),if_neg (by omega)]),Int.toNat_natCast]
 rw[eA];generalize gV (bN (cW a)) (bN (qD a)) true n=g
 generalize gL (bN (cW a)) (bN (qD a)) true n=r
 refine Nat.le_trans (h0h _) ?_;rw[e0X];have:(glP g (2 ^ n) n r).length≤2*n+2:=by
  unfold glP glM;rw[List.length_append];have h:=List.length_filterMap_le (fun (j:Nat)=>if g ((j:Int)-n)=0 then none else some (zB ((j:Int)-n),shB (g ((j:Int)-n)) (2 ^ n))) (List.range (2*n+1));rw[List.length_range]at h;have h2:(if r=0 then ([]:List (ByteArray×ByteArray)) else [(a0H,shB r (2 ^ n))]).length≤1:=by split<;>simp
  omega
 omega
theorem w0M {g:Int→Nat}{n r:Nat}{x:Int}(h:x∈chS (a0D (glP g (2 ^ n) n r))) : -(n:Int)≤x∧x≤n:=by
 unfold chS at h;rw[List.mem_filterMap]at h;obtain⟨p,hp,hx⟩:=h;rcases l0Z hp with ⟨v,h1,h2,-,h3,-⟩ | ⟨-,h3⟩
 ·rw[h3]at hx;cases hx;exact⟨h1,h2⟩
 ·rw[h3]at hx;cases hx
theorem i0O (l:List ByteArray)(i:Nat)(s:ByteArray):(b0d l).toArray.setIfInBounds i (.string s)=(b0d (l.set i s)).toArray:=by
 simp[b0d,List.map_set]
theorem n0U (w:World)(v:Value)(c:List Int)(thr:Int)(a r:ByteArray)(n:Nat)(hv:Row w v (zs c))(ha:a.size≤100000)(hr:r.size≤100000)(hq:i0w c thr a r=0)(hn:n≤32)(hm:n*(c.length+1)≤256)(hL:LayB w):
 Calls Tryz.prog 10 #[v,.int .i64 thr,.string a,.string r,.int .i64 (n:Nat)] w fun e w'=>(∃ u,e=.returned (.tuple #[u,.int .i64 0])∧MRow w' u (a0D (sqD (gV (bN (cW a)) (bN (qD a)) true n) (gV (bN (cW r)) (bN (qD r)) true n) n thr c)))∧Below w.heap.size w w':=by
 obtain⟨-,-,hga,hgr⟩:=k0h hq;obtain⟨k1,k2,k3,k4,k5⟩:=l0f hq;have HQ:=fun V hV hLV=>hid (c0D V v c thr a r hV ha hr hLV)
 simp only[hq]at HQ;have PA:=fun V hV=>hid (g0H V a n ha hga hn hV)
 have PC:=fun V hV=>hid (g0H V r n hr hgr hn hV)
 have eA:glR a (n:Nat) true=a0D (glP (gV (bN (cW a)) (bN (qD a)) true n) (2 ^ n) n (gL (bN (cW a)) (bN (qD a)) true n)):=by unfold glR;rw[if_pos (by unfold glE;rw[if_neg (by simpa using hga),if_neg (by omega)]),Int.toNat_natCast]
 have eC:glR r (n:Nat) true=a0D (glP (gV (bN (cW r)) (bN (qD r)) true n) (2 ^ n) n (gL (bN (cW r)) (bN (qD r)) true n)):=by unfold glR;rw[if_pos (by unfold glE;rw[if_neg (by simpa using hgr),if_neg (by omega)]),Int.toNat_natCast]
 have rA:=h0x (gV (bN (cW a)) (bN (qD a)) true n) (2 ^ n) n (gL (bN (cW a)) (bN (qD a)) true n);have rC:=h0x (gV (bN (cW r)) (bN (qD r)) true n) (2 ^ n) n (gL (bN (cW r)) (bN (qD r)) true n);rw[← eA]at rA;rw[← eC]at rC;have zA:zS n (gV (bN (cW a)) (bN (qD a)) true n)≤2 ^ n:=by have:=j0A (b0S hga).2 true n;omega
 have zC:zS n (gV (bN (cW r)) (bN (qD r)) true n)≤2 ^ n:=by have:=j0A (b0S hgr).2 true n;omega
 have lA:(chS (glR a (n:Nat) true)).length≤100:=j0M hga hn;have lC:(chS (glR r (n:Nat) true)).length≤100:=j0M hgr hn;have vA:∀ x∈chS (glR a (n:Nat) true),-(n:Int)≤x∧x≤n:=by rw[eA];exact fun x hx=>w0M hx
 have mA:∀ x,gV (bN (cW a)) (bN (qD a)) true n x≤2 ^ n:=fun x=>r0P (b0S hga).2 true n x
 obtain⟨gA,hgA⟩:∃ g,gV (bN (cW a)) (bN (qD a)) true n=g:=⟨_,rfl⟩;obtain⟨gC,hgC⟩:∃ g,gV (bN (cW r)) (bN (qD r)) true n=g:=⟨_,rfl⟩;obtain⟨kA,hkA⟩:∃ k,chS (glR a (n:Nat) true)=k:=⟨_,rfl⟩;obtain⟨kC,hkC⟩:∃ k,chS (glR r (n:Nat) true)=k:=⟨_,rfl⟩;simp only[hgA,hkA]at PA;simp only[hgC,hkC]at PC;rw[hgA,hkA]at rA;rw[hgC,hkC]at rC;rw[hgA]at zA;rw[hgC]at zC;rw[hkA]at lA vA;rw[hkC]at lC;simp only[hgA]at mA;rw[hgA,hgC];have hT:=q0G (thr:=thr) (c:=c) zA zC mA rA (by omega);obtain⟨LA,hLA⟩:∃ l,(kA.map fun v=>(v,dyB (gA v) n))=l:=⟨_,rfl⟩;obtain⟨LC,hLC⟩:∃ l,(kC.map fun v=>(v,dyB (gC v) n))=l:=⟨_,rfl⟩;have nA:LA.length=kA.length:=by rw[← hLA,List.length_map]
 have gLA:∀ (j:Nat) (x:Int),kA[j]?=some x→LA[j]?=some (x,dyB (gA x) n):=fun j x h=>by rw[← hLA,List.getElem?_map,h];rfl
 rw[hLA]at PA;rw[hLC]at PC;obtain⟨M,hM⟩:∃ M:Int→ByteArray,(fun m=>dyB (blw gC n m) n)=M:=⟨_,rfl⟩;have PB:Hid (∀ (V:World) (bn:Nat) (v1:Value) (most:Int),V.cell? ⟨bn,1,none⟩=some v1→PRow V v1 LC→Lay V→Calls Tryz.prog 33 #[.int .i64 most,.pointer (some ⟨bn,0,none⟩)] V fun e w'=>e=.returned (.string (M most))∧Below V.heap.size V w'):=fun V bn v1 most h1 h2 h3=>by
  rw[← hM];exact q0L V bn v1 most gC n kC hn zC rC lC h1 (by rw[hLC];exact h2) h3
 obtain⟨P,hP⟩:∃ P:Int→Nat→ByteArray,(fun (x:Int) (i:Nat)=>dyB (sqP gA gC n thr x c i) (n*(i+1)))=P:=⟨_,rfl⟩;obtain⟨D1,hD1⟩:∃ P:Int→Nat→ByteArray,(fun (x:Int) (i:Nat)=>b0b (· - ·) (dyB (zS n gC) n) (dyB (blw gC n (thr+x-c.getD i 0)) n))=P:=⟨_,rfl⟩;obtain⟨D2,hD2⟩:∃ P:Int→Nat→ByteArray,(fun (x:Int) (i:Nat)=>b0b (· * ·) (dyB (sqP gA gC n thr x c i) (n*(i+1))) (b0b (· - ·) (dyB (zS n gC) n) (dyB (blw gC n (thr+x-c.getD i 0)) n)))=P:=⟨_,rfl⟩;obtain⟨H,hH⟩:∃ P:Int→Nat→ByteArray,(fun (x:Int) (i:Nat)=>dyB (gA x*sqF gC n (thr+x) i 0 c) (n*(c.length+1)))=P:=⟨_,rfl⟩;obtain⟨F,hF⟩:∃ P:Nat→Nat→ByteArray,(fun (i j:Nat)=>dyB (sqS gA gC n thr c kA i j) (n*(c.length+1)))=P:=⟨_,rfl⟩;obtain⟨AF,hAF⟩:∃ P:Nat→ByteArray,(fun (i:Nat)=>dyB (zS n gC ^ i) (n*i))=P:=⟨_,rfl⟩;rw[hM,hP,hD1,hD2,hH,hF,hAF]at hT;obtain⟨Z0,hZ0⟩:∃ s,b0b (· * ·) (dyB (zS n gA) n) (dyB (zS n gC ^ c.length) (n*c.length))=s:=⟨_,rfl⟩;obtain⟨SA,hSA⟩:∃ s,dyB (zS n gA) n=s:=⟨_,rfl⟩;obtain⟨SC,hSC⟩:∃ s,dyB (zS n gC) n=s:=⟨_,rfl⟩;obtain⟨LT,hLT⟩:∃ s,dyB (sqL gA gC n c.length) (n*(c.length+1))=s:=⟨_,rfl⟩;rw[hSA]at PA;rw[hSC]at PC;have HT:=hid (hT.conv hZ0 hSA hSC hLT);have ND:=hid (s0w gA gC n thr c);have DN:=hid (s0y gA gC n thr c);have WS:=hid (fun i (hi:i≤c.length)=>n0L (gA:=gA) (gC:=gC) (thr:=thr) (n:=n) HT.out i hi);have W0:=hid (m0s (gA:=gA) (gC:=gC) (thr:=thr) (n:=n) HT.out);have DD:Hid (sqD gA gC n thr c=(sqW gA gC n thr c c.length).filter fun x => !(!s0J x)):=by
  show sqD gA gC n thr c=_
  unfold sqD;refine List.filter_congr fun x _=>?_
  rw[Bool.not_not]
 have hDl:(sqD gA gC n thr c).length≤c.length+2:=by
  unfold sqD;refine Nat.le_trans (List.length_filter_le _ _) ?_;unfold sqW;rw[List.length_append,i0R];simp;omega
 have HDL:=hid hDl;obtain⟨WW,hWW⟩:∃ f,sqW gA gC n thr c=f:=⟨_,rfl⟩;obtain⟨DF,hDF⟩:∃ f,sqD gA gC n thr c=f:=⟨_,rfl⟩;rw[hWW]at ND WS W0 DD;rw[hDF]at DN DD HDL ⊢;obtain⟨L,hLL⟩:∃ L,c.length=L:=⟨_,rfl⟩;have HLL:=hid hLL;obtain⟨NA,hNA⟩:∃ L,kA.length=L:=⟨_,rfl⟩;have HNA:=hid hNA;have HV:=hid hv;have HL:=hid hL;obtain⟨s,cp,rfl,q1,q2,q3⟩:=hv.openZ;have Q3:=hid q3;have RG:=hid k3;have TH:=hid (show -1125899906842624≤thr∧thr≤1125899906842624 from⟨k4,k5⟩);have VA:=hid vA;have HN32:=hid hn;have GLA:=hid gLA;rw[hLL]at k1 k2 q1 HV WS HDL DD ND ⊢;simp only[hLL]at HQ;rw[hNA]at nA lA;have K1:=hid k1;have K2:=hid k2;have NAH:=hid nA;have LA100:=hid lA;obtain⟨i0,hi,hz0,hz1,hz2⟩:=info_parts j0x;have s1:decide ((n:Int)<0)=false:=by simp
 have s2:decide ((32:Int)<(n:Int))=false:=by simp;omega
 obtain⟨L1,hL1⟩:∃ L1,L1=L+1:=⟨_,rfl⟩;have wl:IntKind.i64.wrap ((L:Int)+1)=(L1:Int):=by rw[IntWalk.i64_in _ ⟨by omega,by omega⟩];omega
 obtain⟨Mm,hMm⟩:∃ M:Int,(n:Int)*(L1:Int)=M:=⟨_,rfl⟩;have hM2:Mm≤256:=by
  rw[← hMm,hL1];have:((n*(L+1):Nat):Int)≤256:=by rw[← hLL];omega
  rwa[Int.natCast_mul]at this
 have hM0:0≤Mm:=by rw[← hMm];exact Int.mul_nonneg (by omega) (by omega)
 have wm:IntKind.i64.wrap ((n:Int)*(L1:Int))=Mm:=by rw[hMm,IntWalk.i64_in _ ⟨by omega,by omega⟩]
 have s3:decide (256<Mm)=false:=by simp;omega
 have A1:=hid ((Below.refl w.heap.size w).alloc (Nat.le_refl _) (.cells #[.string a,.string r] 60));have X1:=hid (Blk.new w #[.string a,.string r] 60);clear hv ha hr hq hn hm hL k3 k4 k5 hga hgr eA eC rA rC zA zC lC vA mA hgA hgC hkA hkC hT hLA hLC gLA hM hP hD1 hD2 hH hF hAF hZ0 hSA hSC hLT hWW hDF hDl hLL hNA q3 hL1 hMm hM2 hM0 k1 k2 nA lA;go_enter Tryz.func10,Tryz.ntmps10;go_wp2_with fail;refine (HQ _ (HV.out.call A1.out) (HL.out.call A1.out).l).out.mono ?_;rintro e w1 ⟨rfl,hb1⟩;have y1:=hid (a0a A1.out hb1);have X2:=hid (X1.out.call hb1);clear hb1;go_wp2_with fail;obtain⟨bn,hbn⟩:∃ b,w1.heap.size=b:=⟨_,rfl⟩;have N0:Hid (NsI w w.heap.size bn a r (.slice none 0 0) (.slice none 0 0) ⟨#[]⟩ ⟨#[]⟩ [] [] ((w1.alloc (.cells #[.slice none 0 0,.slice none 0 0] 64)).alloc (.cells #[.string ⟨#[]⟩,.string ⟨#[]⟩] 60))):=by
  subst hbn;exact⟨(X2.out.alloc _).alloc _,(Blk.new w1 _ _).alloc _,Blk.made _ _ _ (by simp),World.ownsRow_nil _ _ _ _,World.ownsRow_nil _ _ _ _,(y1.out.alloc y1.out.size _).alloc (y1.out.alloc y1.out.size (.cells #[.slice none 0 0,.slice none 0 0] 64)).size _⟩
 have GB:Hid (w.heap.size<bn):=by show _<bn;rw[← hbn];exact X2.out.lt
 rw[hbn];have HBN:=hid hbn;clear hbn
 go_loopw [16,58,61] (fun s16 s58 s61 wr=>(s58=.int .i64 0∧Hid (NsI w w.heap.size bn a r (.slice none 0 0) (.slice none 0 0) ⟨#[]⟩ ⟨#[]⟩ [] [] wr))∨(s58=.int .i64 1∧Hid (∃ u0,NsI w w.heap.size bn a r u0 (.slice none 0 0) SA ⟨#[]⟩ LA [] wr))∨(s58=.int .i64 2∧Hid (∃ u0 u1,NsI w w.heap.size bn a r u0 u1 SA SC LA LC wr))) (fun s16 s58 s61 wr=>2-(intOf s58).toNat)
 case atStart=>exact .inl ⟨rfl,N0⟩
 case round=>
  rcases hrel with ⟨rfl,hN⟩ | ⟨rfl,hN⟩ | ⟨rfl,hN⟩
  ·have r0:=hN.out.r.cell 0;simp at r0;go_wp2_with fail;refine (PA _ (HL.out.call hN.out.bel)).out.mono ?_;rintro e w3 ⟨⟨u,rfl,hu⟩,hb3⟩;have N3:=hid (hN.out.call hb3);have HUo:=hid (f0U hu (show bn+1+1≤wr.heap.size from hN.out.s.lt));obtain⟨au,cu,rfl⟩:=e0A hu;have m0:=N3.out.n.cell 0;have m1:=N3.out.n.free 0;have m2:=(N3.out.s.other (a:=⟨bn,0,none⟩) (by simp) (.slice au LA.length cu)).cell 0;have m3:=(N3.out.s.other (a:=⟨bn,0,none⟩) (by simp) (.slice au LA.length cu)).free 0;simp at m0 m2;clear hb3 hu r0;go_wp2_with fail;go_roundw
   case rel=>exact .inr (.inl ⟨by go_num,hid ⟨_,N3.out.fst (Nat.le_refl _) GB.out HUo.out⟩⟩)
   case measure=>simp[intOf]
  ·obtain⟨u0,hN1⟩:=hN.out;have r1:=hN1.r.cell 1;simp at r1;have HN1:=hid hN1;clear hN hN1;go_wp2_with fail;refine (PC _ (HL.out.call HN1.out.bel)).out.mono ?_;rintro e w3 ⟨⟨u,rfl,hu⟩,hb3⟩;have N3:=hid (HN1.out.call hb3);have HUo:=hid (f0U hu (show bn+1+1≤wr.heap.size from HN1.out.s.lt));obtain⟨au,cu,rfl⟩:=e0A hu;have m0:=N3.out.n.cell 1;have m1:=N3.out.n.free 1;have m2:=(N3.out.s.other (a:=⟨bn,1,none⟩) (by simp) (.slice au LC.length cu)).cell 1;have m3:=(N3.out.s.other (a:=⟨bn,1,none⟩) (by simp) (.slice au LC.length cu)).free 1;simp at m0 m2;clear hb3 hu r1;go_wp2_with fail;go_roundw
   case rel=>exact .inr (.inr ⟨by go_num,hid ⟨_,_,N3.out.snd (Nat.le_refl _) GB.out HUo.out⟩⟩)
   case measure=>simp[intOf]
  ·obtain⟨u0,u1,hN2⟩:=hN.out;obtain⟨W2,hW2⟩:∃ x,x=wr:=⟨_,rfl⟩;subst hW2;obtain⟨a0,c0,rfl⟩:=e0A hN2.p0;obtain⟨a1,c1,rfl⟩:=e0A hN2.p1;rw[NAH.out]at hN2;have HN2:=hid hN2;have HM1:=g0P L (by have:=K2.out;omega) W2;have XT:Hid (Blk (W2.alloc (.cells (madeCells #[.string ⟨#[]⟩] L) 22)) W2.heap.size (b0d (tlS AF L 0)).toArray 22):=by
    show Blk _ _ _ _
    rw[q0B,← g0Q];exact Blk.new _ _ _
   have BT:=hid ((Below.refl W2.heap.size W2).alloc (Nat.le_refl _) (.cells (madeCells #[.string ⟨#[]⟩] L) 22));have LB:=hid hN2.s.lt;clear hN hN2;go_wp2_with fail
   go_loopw [18,20,80] (fun s18 s20 s80 wr=>∃ i:Nat,s80=.int .i64 (i:Nat)∧i≤L∧s18=.string (AF i)∧Hid (Blk wr W2.heap.size (b0d (tlS AF L i)).toArray 22)∧Hid (Below W2.heap.size W2 wr)) (fun s18 s20 s80 wr=>L-(intOf s80).toNat)
   case atStart=>exact⟨0,rfl,Nat.zero_le _,by rw[HT.out.one],XT,BT⟩
   case round=>
    clear HM1 XT BT;obtain⟨i,rfl,hi',rfl,hX,hB⟩:=hrel;have hl2:=K2.out;by_cases hlt:i<L
    ·obtain⟨K,hK⟩:∃ K,K=L-1-i:=⟨_,rfl⟩;obtain⟨P1,hP1⟩:∃ P,P=L-1:=⟨_,rfl⟩;have hKL:K<L:=by omega
     have wp1:IntKind.i64.wrap ((L:Int)-1)=(P1:Int):=by rw[IntWalk.i64_in _ ⟨by omega,by omega⟩];omega
     have wp2:IntKind.i64.wrap ((P1:Int)-(i:Int))=(K:Int):=by rw[IntWalk.i64_in _ ⟨by omega,by omega⟩];omega
     have f0:(0:Int)≤(K:Int):=by omega
     have f1:(K:Int)<(L:Int):=by omega
     have wi:IntKind.i64.wrap ((i:Int)+1)=((i+1:Nat):Int):=by rw[IntWalk.i64_in _ ⟨by omega,by omega⟩];omega
     obtain⟨old,hold⟩:∃ s,(tlS AF L i)[K]?=some s:=⟨_,f0J hKL⟩;have m0:wr.cell? ⟨W2.heap.size,K,none⟩=some (.string old):=(hX.out.cell K).trans (by rw[List.getElem?_toArray];exact c0s hold);have m1:=hX.out.free K;have N2:=hid (HN2.out.call hB.out);have k1:=(N2.out.s.other (a:=⟨W2.heap.size,K,none⟩) (by have:=LB.out;simp;omega) (.string (AF i))).cell 1;simp at k1;have PAF:=fun V hV=>hid (HT.out.after V i (by rw[HLL.out];exact hlt) hV)
     have hnx:=q0C (AF:=AF) hlt;rw[← hK]at hnx;have YB:=hX.out.set K (.string (AF i));rw[i0O,hnx]at YB;have YB:=hid YB;have BB:=hid (hB.out.setCell (p:=⟨W2.heap.size,K,none⟩) (Nat.le_refl _) (.string (AF i)));obtain⟨F0,hF0⟩:∃ s,AF i=s:=⟨_,rfl⟩;obtain⟨F1,hF1⟩:∃ s,AF (i+1)=s:=⟨_,rfl⟩;rw[hF0]at k1 YB BB ⊢;simp only[hF0,hF1]at PAF;have HF1:=hid hF1;have HLT:=hid hlt;clear hK hP1 hKL hold hnx hF0 hF1 hlt hi' hl2;go_wp2_with fail;refine (PAF _ (HL.out.call (a0a HN2.out.bel BB.out)).l).out.mono ?_;rintro e w5 ⟨rfl,hb5⟩;have Y5:=hid (YB.out.call hb5);have B5:=hid (a0a BB.out hb5);clear hb5;go_wp2_with fail;go_roundw
     case rel=>exact⟨i+1,by go_num,HLT.out,by rw[HF1.out],Y5,B5⟩
     case measure=>simp[intOf]<;>(have:=HLT.out;omega)
    ·obtain rfl:L=i:=by omega
     have q1:decide ((L:Int)<(L:Int))=false:=by simp
     obtain⟨V0,hV0⟩:∃ V,V=wr.alloc (.cells #[.string ⟨#[48]⟩] 22):=⟨_,rfl⟩;obtain⟨bf,hbf⟩:∃ b,V0.heap.size=b:=⟨_,rfl⟩;have HSR:=h0v V0 wr.heap.size L ⟨#[48]⟩ K1.out (by omega) (by rw[hV0];simp);rw[hbf]at HSR;have HBF:=hid hbf;have BV:Below wr.heap.size wr V0:=by rw[hV0];exact (Below.refl _ _).alloc (Nat.le_refl _) _
     have NV:=hid ((HN2.out.call hB.out).call BV);have TV:=hid (hX.out.call BV);have BW2:=hid (a0a hB.out BV);obtain⟨FL,hFL⟩:∃ s,AF L=s:=⟨_,rfl⟩;have HFL:=hid hFL;have HSR:=hid HSR;rw[hFL];clear hlt hi' hl2 hbf BV hX hB hFL;go_wp2_with fail;rw[← hV0];refine HSR.out.mono ?_;rintro e w6 ⟨rfl,hblk,hb6⟩;have X6:Hid (Blk w6 bf (b0d (fnS F L 0 0)).toArray 22):=by
      show Blk _ _ _ _
      rw[r0S L HT.out.zero];exact hblk
     have B6:Hid (Below V0.heap.size V0 w6):=by show Below _ _ _;rw[HBF.out];exact hb6
     have c6:=(NV.out.n.call B6.out).cell 0;simp at c6;clear hblk hb6 hV0 HSR;go_wp2_with fail
     go_loopw [22,24,25,26,27,28,103] (fun s22 s24 s25 s26 s27 s28 s103 wr=>∃ j:Nat,s103=.int .i64 (j:Nat)∧j≤NA∧s22=.string (F L j)∧Hid (Blk wr bf (b0d (fnS F L j 0)).toArray 22)∧Hid (Below V0.heap.size V0 wr)) (fun s22 s24 s25 s26 s27 s28 s103 wr=>NA-(intOf s103).toNat)
     case atStart=>exact⟨0,rfl,Nat.zero_le _,by rw[HT.out.zero],X6,B6⟩
     case round=>
      clear c6 X6 B6;obtain⟨j,rfl,hj',rfl,hX,hB⟩:=hrel;obtain⟨W4,hW4⟩:∃ x,x=wr:=⟨_,rfl⟩;subst hW4;have N4:=hid (NV.out.call hB.out);have hna:=LA100.out;by_cases hlt:j<NA
      ·obtain⟨xv,hxv⟩:∃ x,kA[j]?=some x:=⟨_,List.getElem?_eq_getElem (by rw[HNA.out];exact hlt)⟩;have hla:=GLA.out j xv hxv;have hxb:=VA.out xv (List.mem_of_getElem? hxv);obtain⟨ap,cp2,e2,-,-,hcell⟩:=(PRow.of_owns N4.out.p0).ex;simp only[Value.slice.injEq]at e2;obtain⟨rfl,-,rfl⟩:=e2;obtain⟨gd,od,rfl,hgd,m1,m2⟩:=hcell j _ hla;dsimp only at m1 m2;rw[← HT.out.start xv]at m2;obtain⟨Px,hPx⟩:∃ f,P xv=f:=⟨_,rfl⟩;have TLESS:=fun (V:World) (i:Nat) (hi:i<c.length) (hV:Lay V)=>hid (HT.out.less V xv i hi hV)
       have TTM1:=fun (V:World) (i:Nat) (hi:i<c.length) (hV:Lay V)=>hid (HT.out.times1 V xv i hi hV)
       have TTM2:=fun (V:World) (i:Nat) (hi:i<c.length) (hV:Lay V)=>hid (HT.out.times2 V xv i hi hV)
       have TPLU:=fun (V:World) (i:Nat) (hi:i<c.length) (hV:Lay V)=>hid (HT.out.plus V xv i j hi hxv hV)
       have TNXT:=fun (V:World) (i:Nat) (hi:i<c.length) (hV:Lay V)=>hid (HT.out.next V xv i hi hV)
       have TNON:=fun (V:World) (hV:Lay V)=>hid (HT.out.none V xv j hxv hV)
       obtain⟨d1,hd1⟩:∃ f,D1 xv=f:=⟨_,rfl⟩;obtain⟨d2,hd2⟩:∃ f,D2 xv=f:=⟨_,rfl⟩;obtain⟨hx,hhx⟩:∃ f,H xv=f:=⟨_,rfl⟩;rw[hPx]at m2;simp only[hPx,hd1,hd2,hhx]at TLESS TTM1 TTM2 TPLU TNXT TNON;rw[HLL.out]at TLESS TTM1 TTM2 TPLU TNXT TNON;have HXB:=hid hxb;have HJT:=hid hlt;have f1:(0:Int)≤(j:Int):=by omega
       have f2:(j:Int)<(NA:Int):=by omega
       have wj:IntKind.i64.wrap ((j:Int)+1)=((j+1:Nat):Int):=by rw[IntWalk.i64_in _ ⟨by omega,by omega⟩];omega
       have AM:=hid ((Below.refl W4.heap.size W4).alloc (Nat.le_refl _) (.cells #[.int .i64 xv,.string (Px 0)] 68));have XM:=hid (Blk.new W4 #[.int .i64 xv,.string (Px 0)] 68);have X4:=hid (hX.out.call AM.out);have B4:=hid (a0a hB.out AM.out);have BF4:=hid (show bf<W4.heap.size from hX.out.lt);obtain⟨b24,hb24⟩:∃ b,W4.heap.size=b:=⟨_,rfl⟩;rw[hb24]at XM BF4;have HB24:=hid hb24;have g0:=XM.out.cell 0;have g1:=XM.out.cell 1;simp at g0 g1;clear hxv hla hxb hcell hgd hPx hd1 hd2 hhx hlt hj' hna hX N4;go_wp2_with fail
       go_loopw [25,26,27,28,111] (fun s25 s26 s27 s28 s111 wr=>∃ i:Nat,s111=.int .i64 (i:Nat)∧i≤L∧s25=.string (Px i)∧Hid (Blk wr bf (b0d (fnS F L j i)).toArray 22)∧Hid (Blk wr b24 #[.int .i64 xv,.string (Px 0)] 68)∧Hid (Below V0.heap.size V0 wr)) (fun s25 s26 s27 s28 s111 wr=>L-(intOf s111).toNat)
       case atStart=>exact⟨0,rfl,Nat.zero_le _,rfl,X4,XM,B4⟩
       case round=>
        clear X4 XM B4 AM g0 g1 hb24;obtain⟨i,rfl,hi',rfl,hX,hXB,hB⟩:=hrel;have hl2:=K2.out;by_cases hlt:i<L
        ·obtain⟨ci,hci⟩:∃ x,c[i]?=some x:=⟨_,List.getElem?_eq_getElem (by rw[HLL.out];exact hlt)⟩;have hcd:c.getD i 0=ci:=by rw[List.getD_eq_getElem?_getD,hci];rfl
         obtain⟨gc,oc,rfl,hgc,hcc⟩:=Q3.out i ci hci;have hN:=NV.out.call hB.out;have r1:=(hN.bel.cell (p:=⟨gc,oc+i,none⟩) hgc).trans hcc;have x0:=hXB.out.cell 0;simp at x0;have hrg:=RG.out ci (List.mem_of_getElem? hci);have hth:=TH.out;have hxb:=HXB.out;have hn32:=HN32.out;have wa:IntKind.i64.wrap (thr+xv)=thr+xv:=by rw[IntWalk.i64_in _ ⟨by omega,by omega⟩]
         obtain⟨G,hG⟩:∃ G,thr+xv-ci=G:=⟨_,rfl⟩;have wg:IntKind.i64.wrap (thr+xv-ci)=G:=by rw[hG,IntWalk.i64_in _ ⟨by omega,by omega⟩]
         have f3:(0:Int)≤(i:Int):=by omega
         have f4:(i:Int)<(L:Int):=by omega
         have wi:IntKind.i64.wrap ((i:Int)+1)=((i+1:Nat):Int):=by rw[IntWalk.i64_in _ ⟨by omega,by omega⟩];omega
         have PBi:=PB.out wr bn _ G (hN.n.cell 1) (PRow.of_owns hN.p1) (HL.out.call hN.bel).l;have PL1:=fun V hV=>TLESS V i hlt hV
         have PT1:=fun V hV=>TTM1 V i hlt hV
         have PT2:=fun V hV=>TTM2 V i hlt hV
         have PPL:=fun V hV=>TPLU V i hlt hV
         have PNX:=fun V hV=>TNXT V i hlt hV
         rw[hcd,hG]at PL1 PNX;obtain⟨Mg,hMg⟩:∃ s,M G=s:=⟨_,rfl⟩;rw[hMg]at PBi PL1 PNX;obtain⟨p0,hp0⟩:∃ s,Px i=s:=⟨_,rfl⟩;obtain⟨p1,hp1⟩:∃ s,Px (i+1)=s:=⟨_,rfl⟩;obtain⟨e1,he1⟩:∃ s,d1 i=s:=⟨_,rfl⟩;obtain⟨e2,he2⟩:∃ s,d2 i=s:=⟨_,rfl⟩;obtain⟨e3,he3⟩:∃ s,hx i=s:=⟨_,rfl⟩;obtain⟨e4,he4⟩:∃ s,AF (L-1-i)=s:=⟨_,rfl⟩;obtain⟨e5,he5⟩:∃ s,F i j=s:=⟨_,rfl⟩;obtain⟨e6,he6⟩:∃ s,F i (j+1)=s:=⟨_,rfl⟩;rw[he1]at PL1;rw[hp0,he1,he2]at PT1;rw[he2,he4,he3]at PT2;rw[he5,he3,he6]at PPL;rw[hp0,hp1]at PNX;rw[hp0];have hfi:=w0C (F:=F) (j:=j) hlt;rw[he5]at hfi;have hnx:=r0T (F:=F) (j:=j) hlt;rw[he6]at hnx;have htl:=t0k (AF:=AF) hlt;rw[he4]at htl;have HNX:=hid hnx;have HFI:=hid hfi;have HTL:=hid htl;have HLT:=hid hlt;have HP1:=hid hp1;have PBi:=hid PBi;clear hci hcd hgc hcc hN hrg hth hxb hn32 hG hMg hp0 hp1 he1 he2 he3 he4 he5 he6 hfi hnx htl hlt hi' hl2;go_wp2_with fail;refine PBi.out.mono ?_;rintro e w5 ⟨rfl,hb5⟩;have X5:=hid (hX.out.call hb5);have XB5:=hid (hXB.out.call hb5);have B5:=hid (a0a hB.out hb5);have KK:Hid (∀ V,Below w5.heap.size w5 V→V.cell? ⟨bf,i,none⟩=some (.string e5)∧V.cell? ⟨bn+1,1,none⟩=some (.string SC)∧V.cell? ⟨W2.heap.size,i,none⟩=some (.string e4)):=fun V hV=>by
          refine⟨((X5.out.call hV).cell i).trans ?_,?_,((TV.out.call (a0a B5.out hV)).cell i).trans ?_⟩
          ·rw[List.getElem?_toArray];exact c0s HFI.out
          ·have:=(NV.out.call (a0a B5.out hV)).s.cell 1;simpa using this
          ·rw[List.getElem?_toArray];exact c0s HTL.out
         clear hb5 r1 x0 PBi;go_wp2_with fail;refine c0a 18 2 [0,1,2,3,4,5,6,7,8,9,12,13,14,15] 4 (fun V=>V.cell? ⟨bf,i,none⟩=some (.string e5)∧V.cell? ⟨bn+1,1,none⟩=some (.string SC)∧V.cell? ⟨W2.heap.size,i,none⟩=some (.string e4)) (by kernel_rfl) rfl (by kernel_rfl) (by kernel_rfl) (by kernel_rfl) (by kernel_rfl) (KK.out _ (Below.refl _ _).drew) ?_
         iterate 14
          refine⟨_,rfl,?_⟩;apply Exists.intro
          refine⟨.inl ⟨by rfl,?_⟩,?_⟩
          ·(intro W' hW';obtain⟨z1,z2,z3⟩:=hW';go_simp;try (with_reducible rfl))
          (dsimp only[Act.put];try simp only[List.setIfInBounds_toArray,List.set_cons_zero,List.set_cons_succ])
         have LY:=hid (HL.out.call (a0a NV.out.bel B5.out));refine a0c (i:=10) (by kernel_rfl) (by rfl) (by rfl) ?_;go_wp2_with fail;refine (PL1 _ (LY.out.call (Below.refl _ _).drew).l).out.mono ?_;rintro e w6 ⟨rfl,hb6⟩;have y6:=hid (show Below w5.heap.size w5 w6 from (Below.refl _ _).drew.trans hb6);clear hb6;go_wp2_with fail;refine⟨KK.out _ y6.out,?_⟩;refine a0c (i:=11) (by kernel_rfl) (by rfl) (by rfl) ?_;go_wp2_with fail;refine (PT1 _ (LY.out.call y6.out).l).out.mono ?_;rintro e w7 ⟨rfl,hb7⟩;have y7:=hid (a0a y6.out hb7);clear hb7;go_wp2_with fail;refine⟨KK.out _ y7.out,?_⟩;refine a0c (i:=16) (by kernel_rfl) (by rfl) (by rfl) ?_;go_wp2_with fail;refine (PT2 _ (LY.out.call y7.out).l).out.mono ?_;rintro e w8 ⟨rfl,hb8⟩;have y8:=hid (a0a y7.out hb8);clear hb8;go_wp2_with fail;refine⟨KK.out _ y8.out,?_⟩;refine a0c (i:=17) (by kernel_rfl) (by rfl) (by rfl) ?_;go_wp2_with fail;refine (PPL _ (LY.out.call y8.out).l).out.mono ?_;rintro e w9 ⟨rfl,hb9⟩;have y9:=hid (a0a y8.out hb9);clear hb9;go_wp2_with fail;refine⟨KK.out _ y9.out,?_⟩;refine wpAnyH_done (by kernel_rfl) ?_ _;simp only[b0l,c0R,List.drop_succ_cons,List.drop_zero];have kf:=(X5.out.call y9.out).free i;have kc:=(KK.out _ y9.out).1;have X9:=(X5.out.call y9.out).set i (.string e6);rw[i0O,HNX.out]at X9;have X9:=hid X9;have XB9:=hid ((XB5.out.call y9.out).other (a:=⟨bf,i,none⟩) (by have:=BF4.out;simp;omega) (.string e6));have B9:=hid ((a0a B5.out y9.out).setCell (p:=⟨bf,i,none⟩) (Nat.le_of_eq HBF.out) (.string e6));go_wp2_with fail
         try simp only[b0l]
         refine (PNX _ (HL.out.call (a0a NV.out.bel B9.out)).l).out.mono ?_;rintro e w10 ⟨rfl,hb10⟩;have X10:=hid (X9.out.call hb10);have XB10:=hid (XB9.out.call hb10);have B10:=hid (a0a B9.out hb10);clear hb10 kf kc;go_wp2_with fail;go_roundw
         case rel=>exact⟨i+1,by go_num,HLT.out,by rw[HP1.out],X10,XB10,B10⟩
         case measure=>simp[intOf]<;>(have:=HLT.out;omega)
        ·obtain rfl:L=i:=by omega
         have q1:decide ((L:Int)<(L:Int))=false:=by simp
         have PNi:=fun V hV=>TNON V hV
         obtain⟨n0,hn0⟩:∃ s,F L j=s:=⟨_,rfl⟩;obtain⟨n1,hn1⟩:∃ s,F L (j+1)=s:=⟨_,rfl⟩;obtain⟨pl,hpl⟩:∃ s,Px L=s:=⟨_,rfl⟩;rw[hn0,hpl,hn1]at PNi;rw[hn0,hpl];have HN1:=hid hn1;clear hlt hi' hl2 hn0 hn1 hpl;go_wp2_with fail;refine (PNi _ (HL.out.call (a0a NV.out.bel hB.out)).l).out.mono ?_;rintro e w10 ⟨rfl,hb10⟩;have X10:=hid (hX.out.call hb10);have B10:=hid (a0a hB.out hb10);clear hb10;go_wp2_with fail;go_roundw
         case rel=>exact⟨j+1,by go_num,HJT.out,by rw[HN1.out],hid (by rw[← u0D];exact X10.out),B10⟩
         case measure=>simp[intOf]<;>(have:=HJT.out;omega)
      ·obtain rfl:NA=j:=by omega
       have q1:decide ((NA:Int)<(NA:Int))=false:=by simp
       have k0:=N4.out.s.cell 0;simp at k0;have P1:=fun V hV=>hid (HT.out.last1 V hV)
       have P2:=fun V hV=>hid (HT.out.last2 V hV)
       rw[HLL.out,HFL.out]at P1;obtain⟨nn,hnn⟩:∃ s,F L NA=s:=⟨_,rfl⟩;have HNN:=hid hnn;rw[hnn];clear hlt hj' hnn hna;go_wp2_with fail;refine (P1 _ (HL.out.call N4.out.bel).l).out.mono ?_;rintro e w10 ⟨rfl,hb10⟩;have B10:=hid (a0a hB.out hb10);have X10:=hid (hX.out.call hb10);clear hb10 k0;go_wp2_with fail;refine (P2 _ (HL.out.call (a0a NV.out.bel B10.out)).l).out.mono ?_;rintro e w11 ⟨rfl,hb11⟩;have B11:=hid (a0a B10.out hb11);have X11:=hid (X10.out.call hb11);have O0:Hid ((w11.alloc (.cells #[.string ⟨#[45,49]⟩,.string nn,.string ⟨#[108,97,116,101]⟩,.string LT] 39)).ownsRow w11.heap.size 39 2 (.slice (some ⟨w11.heap.size,0,none⟩) 2 2) 2 (b0B (WW 0))):=by
        have h:=World.ownsRow_lit (e:=39) (size:=2) (base:=w11.heap.size) w11 #[.string ⟨#[45,49]⟩,.string nn,.string ⟨#[108,97,116,101]⟩,.string LT] 2 (Nat.le_refl _) (by unfold maxLen;omega) rfl;have e0:=W0.out;rw[HLL.out,HNA.out,HNN.out]at e0;rw[e0];exact h
       have A11:=hid ((Below.refl w11.heap.size w11).alloc (Nat.le_refl _) (.cells #[.string ⟨#[45,49]⟩,.string nn,.string ⟨#[108,97,116,101]⟩,.string LT] 39));have LW:=hid (a0a NV.out.bel B11.out);clear hb11;go_wp2_with fail
       go_loopw [30,31,32,163] (fun s30 s31 s32 s163 wr=>∃ i:Nat,s163=.int .i64 (i:Nat)∧i≤L∧Hid (wr.ownsRow w11.heap.size 39 2 s30 (i+2) (b0B (WW i)))∧Hid (Below w11.heap.size w11 wr)) (fun s30 s31 s32 s163 wr=>L-(intOf s163).toNat)
       case atStart=>exact⟨0,rfl,Nat.zero_le _,O0,A11⟩
       case round=>
        clear O0 A11;obtain⟨i,rfl,hi',hO,hB5⟩:=hrel;obtain⟨ad,cd,rfl⟩:=a0p hO.out;have hl2:=K2.out;by_cases hlt:i<L
        ·have hfi:(fnS F L NA 0)[i]?=some (F i NA):=by rw[e0c hlt,if_neg (by omega)]
         obtain⟨fi,hfe⟩:∃ s,F i NA=s:=⟨_,rfl⟩;rw[hfe]at hfi;have r1:wr.cell? ⟨bf,i,none⟩=some (.string fi):=((X11.out.call hB5.out).cell i).trans (by rw[List.getElem?_toArray];exact c0s hfi);have PI:=fun V hV=>hid (v0E V i (by omega) hV)
         have WSi:=WS.out i (Nat.le_of_lt hlt);obtain⟨I,hIi⟩:∃ s,a0f i=s:=⟨_,rfl⟩;rw[HNA.out,hIi,hfe]at WSi;rw[hIi]at PI;have HWS:=hid WSi;have HLT:=hid hlt;have f3:(0:Int)≤(i:Int):=by omega
         have f4:(i:Int)<(L:Int):=by omega
         have wi:IntKind.i64.wrap ((i:Int)+1)=((i+1:Nat):Int):=by rw[IntWalk.i64_in _ ⟨by omega,by omega⟩];omega
         clear hfi hfe hIi WSi hlt hi' hl2;go_wp2_with fail;refine (PI _ (HL.out.call (a0a LW.out hB5.out)).l).out.mono ?_;rintro e w12 ⟨rfl,hb12⟩;have O12:=hid (a0s hO.out hb12);have B12:=hid (a0a hB5.out hb12);have b3:=B12.out.size;clear hb12 r1
         go_wp2_with (at_builtin;refine wpList_append_own _ rfl _ _ 26 rfl w11.heap.size 39 i0 (.agg #[.string ⟨#[]⟩,.string ⟨#[]⟩]) 2 32 Tryz.underlying26 hi hz0 hz1 hz2 rfl (by decide) _ (i+2) _ rfl (O12.out.alloc _) ⟨w12.heap.size,0,none⟩ 1 1 [.string I,.string fi] rfl rfl (cell_two_new w12 (.string I) (.string fi) 39) (by simp[Value.oneCell']) (by have:=HLT.out;have:=K2.out;unfold maxLen;omega) (by have:=HLT.out;have:=K2.out;omega) (by simp;omega) ?_
                      intro v' w13 hown hgrow _;have B13:=hid (b0e (O12.out.alloc _) (B12.out.alloc B12.out.size (.cells #[.string I,.string fi] 39)) hgrow);have O13:=hid hown;clear hown hgrow)
         go_roundw
         case rel=>exact⟨i+1,by go_num,HLT.out,hid (by rw[HWS.out,d0e];exact O13.out),B13⟩
         case measure=>simp[intOf]<;>(have:=HLT.out;omega)
        ·obtain rfl:L=i:=by omega
         have q1:decide ((L:Int)<(L:Int))=false:=by simp
         have O5:=hO.out;obtain⟨gd,cap,e5,hgB,hglt⟩:=O5.form (Nat.succ_pos (L+1));simp only[Value.slice.injEq,true_and]at e5;obtain⟨rfl,rfl⟩:=e5;have hFWl:(WW L).length=L+2:=by have:=O5.1;rw[b0f]at this;omega
         have PD:=hid (v0F wr 40 (fun x => !s0J x) gd cd w11.heap.size (L+2) (WW L) O5 hFWl (by omega) hB5.out.size (enters_of Tryz.func40 (by kernel_rfl) rfl) (fun W x=>v0z W x));rw[← DD.out]at PD;have Y1:=hid LW.out.size;have BW:=hid (a0a LW.out hB5.out);clear hlt hi' hO O5 hgB hglt hFWl hl2;go_wp2_with fail;refine PD.out.mono ?_;rintro e w6 ⟨⟨m,hm,rfl,O6⟩,hb6⟩;have B6:=hid (BW.out.trans (hb6.mono Y1.out));rcases O6.2 with ⟨e1,_⟩ | ⟨g',cap',cur,e1,hgb,hgh,h1,h2,h3,h4⟩
         ·simp at e1
         simp only[Value.slice.injEq,Option.some.injEq,Addr.mk.injEq,and_true,true_and]at e1;obtain⟨rfl,rfl⟩:=e1;have hdl:=HDL.out;have hk2:=K2.out;have hSM:=o0h 42 gd cd w11.heap.size DF.toArray w6 cur hgb hgh (by simp;omega) h2 h3 (by simp;rw[← hm];exact h4) (by simp;omega) (by simpa using DN.out) (enters_of Tryz.func42 (by kernel_rfl) rfl) (fun x y W=>q0K x y W);simp only[List.size_toArray]at hSM;rw[← hm]at hSM;have HSM:=hid hSM;clear hSM h1 h2 h3 h4 hgh hdl hk2 O6 hb6 PD hm;go_wp2_with fail;refine HSM.out.mono ?_;rintro e w8 ⟨rfl,ho8,hb8⟩;have B8:=hid (B6.out.trans (hb8.mono Y1.out));have M8:=hid (MRow.of_owns ho8);clear ho8 hb8;go_wp2_with fail;go_ret2
         exact⟨⟨_,rfl,M8.out⟩,B8.out⟩
end Go.Proofs.YtlmnpocifldpmaaGreatDoor
namespace Go.Proofs.YtlmnpocifldpmaaGreatDoor
open Go.RowKit
open Go.Shelf
open Go.Lib (decDigits nDigits)
theorem l0j (w:World)(v:Value)(l:List ByteArray)(m:Int)(h:Row w v (n0J l))(hsz:∀ b∈l,b.size≤100000000):
 Calls Tryz.prog 45 #[v,.int .i64 m] w fun e w'=>e=.returned (.int .i64 (wdE l m))∧Below w.heap.size w w':=by
 obtain⟨a,c,rfl,h1,h2,h3⟩:=h.openS;obtain⟨n,hn⟩:∃ n,l.length=n:=⟨_,rfl⟩;unfold wdE;rw[hn]at h1 ⊢;by_cases hm:(n:Int)=m
 ·rw[if_pos hm];have H3:=hid h3;have HN:=hid hn;have HSZ:=hid hsz;have q0:((n:Int)==m)=true:=by rw[beq_iff_eq];exact hm
  obtain⟨X,hX⟩:∃ X:Int,bsE l=X:=⟨_,rfl⟩;have HX:=hid hX;rw[hX];subst hm;clear h h3 hn hX hsz q0;go_enter Tryz.func45,Tryz.ntmps45;go_wp2_with fail
  go_loopw [14] (fun ii wr=>∃ i:Nat,ii=.int .i64 i∧i≤n∧Hid (∀ (j:Nat) (b:ByteArray),j<i→l[j]?=some b→d0l b=0)∧Hid (Below w.heap.size w wr)) (fun ii wr=>n-(intOf ii).toNat)
  case atStart=>exact⟨0,rfl,Nat.zero_le _,fun j b hj=>absurd hj (by omega),Below.refl _ _⟩
  case round=>
   obtain⟨i,rfl,hi,hI,hB⟩:=hrel;by_cases hlt:i<n
   ·obtain⟨x,hx⟩:∃ x,l[i]?=some x:=⟨_,List.getElem?_eq_getElem (by rw[HN.out];exact hlt)⟩;obtain⟨g,o,rfl,hg,hc⟩:=H3.out i x hx;have d0:=(hB.out.cell (p:=⟨g,o+i,none⟩) hg).trans hc;have b1:(0:Int)≤(i:Int):=by omega
    have b2:(i:Int)<(n:Int):=by omega
    have wi:IntKind.i64.wrap ((i:Int)+1)=(i:Int)+1:=by rw[IntWalk.i64_in _ ⟨by omega,by omega⟩]
    have PN:=fun W=>hid (k0T W x (HSZ.out x (List.mem_of_getElem? hx)))
    have hce:=s0h x;obtain⟨y,hy⟩:∃ y,q0h x=y:=⟨_,rfl⟩;rw[hy]at PN hce;have HXX:=hid hx;have HC:=hid hce;have hdrop:l.drop i=x::l.drop (i+1):=by
     have hil:i<l.length:=by rw[HN.out];exact hlt
     rw[List.drop_eq_getElem_cons hil];have:=List.getElem?_eq_getElem hil;rw[hx]at this;rw[Option.some.inj this]
    have HD:=hid hdrop;clear hx hy hc hdrop hce;by_cases hy0:y=0
    ·subst hy0;by_cases hl:256<x.size
     ·have q2:decide ((256:Int)<(x.size:Int))=true:=by simp;omega
      have HE:Hid (X=4):=by
       show X=4
       have e:d0l x=4:=by rw[HC.out,if_neg (by simp),if_pos hl]
       rw[← HX.out,m0e hI.out,HD.out,bsE,e,if_pos (by decide)]
      clear hl;go_wp2_with fail;refine (PN _).out.mono ?_;rintro e w1 ⟨rfl,hb1⟩;have y1:=hid (a0a hB.out hb1);clear hb1;go_wp2_with fail;go_ret
      exact⟨by rw[HE.out];rfl,y1.out⟩
     ·have q2:decide ((256:Int)<(x.size:Int))=false:=by simp;omega
      have HE:Hid (d0l x=0):=by
       show d0l x=0
       rw[HC.out,if_neg (by simp),if_neg hl]
      clear hl;go_wp2_with fail;refine (PN _).out.mono ?_;rintro e w1 ⟨rfl,hb1⟩;have y1:=hid (a0a hB.out hb1);clear hb1;go_wp2_with fail;go_roundw
      case rel=>exact⟨i+1,rfl,by omega,fun j b hj hjb=>by
       by_cases e:j=i
       ·subst e;rw[HXX.out]at hjb;cases hjb;exact HE.out
       ·exact hI.out j b (by omega) hjb,y1.out⟩
      case measure=>simp[intOf]<;>omega
    ·have q3:(y==0)=false:=by rw[beq_eq_false_iff_ne];exact hy0
     have HE:Hid (X=y):=by
      show X=y
      have e:d0l x=y:=by rw[HC.out,if_pos hy0]
      rw[← HX.out,m0e hI.out,HD.out,bsE,e,if_pos hy0]
     clear hy0;go_wp2_with fail;refine (PN _).out.mono ?_;rintro e w1 ⟨rfl,hb1⟩;have y1:=hid (a0a hB.out hb1);clear hb1;go_wp2_with fail;go_ret
     exact⟨by rw[HE.out];rfl,y1.out⟩
   ·obtain rfl:i=n:=by omega
    have HE:Hid (X=0):=by
     show X=0
     have hd:l.drop i = []:=List.drop_eq_nil_of_le (by rw[HN.out];exact Nat.le_refl _);rw[← HX.out,m0e hI.out,hd];rfl
    go_wp2_with fail;go_ret
    exact⟨by rw[HE.out];rfl,hB.out⟩
 ·rw[if_neg hm];have q0:((n:Int)==m)=false:=by rw[beq_eq_false_iff_ne];exact hm
  clear h h3 hn hsz hm;go_enter Tryz.func45,Tryz.ntmps45;go_wp2_with fail;go_ret
  exact⟨rfl,Below.refl _ _⟩
end Go.Proofs.YtlmnpocifldpmaaGreatDoor
namespace Go.Proofs.YtlmnpocifldpmaaGreatDoor
open Go.RowKit
open Go.Shelf
attribute [local go_sem] Oper.semAt_some
structure KpC (n0:Nat)(W W':World):Prop where
 size:W.heap.size≤W'.heap.size
 rest:n0≤W.heap.size→Below n0 W W'
theorem KpC.refl (n0:Nat)(W:World):KpC n0 W W:=⟨Nat.le_refl _,fun _=>Below.refl _ _⟩
theorem KpC.trans {n0:Nat}{A B C:World}(h:KpC n0 A B)(k:KpC n0 B C):KpC n0 A C:=⟨Nat.le_trans h.size k.size,fun h1=>(h.rest h1).trans (k.rest (Nat.le_trans h1 h.size))⟩
theorem KpC.of_below {n0:Nat}{W W':World}(h:Below W.heap.size W W'):KpC n0 W W':=⟨h.size,fun h1=>h.mono h1⟩
theorem KpC.put {n0:Nat}{w:World}(h1:n0≤w.heap.size)(W:World)(l:Nat)(o o':Obj)(hl:w.heap.size≤l)(h:W.heap[l]?=some o)(hc:o.isCells=false)(hw:o.isWalk=false):KpC n0 W (W.putObj l o'):=by
 have hs:W.heap.size≤(W.putObj l o').heap.size:=by simp[World.putObj]
 exact⟨hs,fun _=>⟨rfl,rfl,rfl,hs,fun k hk=>World.putObj_heap_other (by omega)⟩⟩
open Go.Lib (decDigits nDigits)
attribute [local go_sem] Oper.semAt_some
theorem t0w (w:World)(s:Option Addr)(n k:Nat)(m:Int):
 Calls Tryz.prog 48 #[.slice s n k,.int .i64 m] w fun e w'=>e=.returned (.func (.func 105) #[] #[.pointer (some ⟨w.heap.size,0,none⟩),.pointer (some ⟨w.heap.size+1,0,none⟩)])∧w'=(w.alloc (.cells #[.slice s n k] 24)).alloc (.cells #[.int .i64 m] 3):=by
 go_enter Tryz.func48,Tryz.ntmps48;go_wp2_with fail;go_ret
 exact⟨rfl,rfl⟩
def hOk (t:Int)(l:List Int)(pre:List Int)(x:Int):Prop:=pre = []→x=(h0Z t l:Nat)∧h0Z t l<l.length
def x0R (t:Int)(l:List Int)(xs:List Int):Prop:=xs = []→h0Z t l=l.length
theorem m0T {Kp:World→World→Prop}(n:Nat)(hn:1≤n)(w:World)(bl bm:Nat)(v:Value)(c:List Int)(m:Int)(hcl:c.length≤256)
 (hKr:∀ W,Kp W W) (hKt:∀ {A B C:World},Kp A B→Kp B C→Kp A C)
 (hread:∀ W1 W2,Below w.heap.size w W1→Kp W1 W2→W2.cell? ⟨bl,0,none⟩=some v∧W2.cell? ⟨bm,0,none⟩=some (.int .i64 m)∧Row W2 v (zs c)) (hKb:∀ W1 W2,Below W1.heap.size W1 W2→Kp W1 W2):
 v0f n Tryz.prog 105 #[.pointer (some ⟨bl,0,none⟩),.pointer (some ⟨bm,0,none⟩)] (fun x:Int=>#[.int .i64 x]) Kp (hOk m c) (x0R m c) (fun _=>True) w:=by
 intro l J Jx W hW hJ hJx hY h0;have HR:=hid hread;have HY:=hid hY;have HW:=hid hW;have HJ:=hid hJ;have HJx:=hid hJx;have HKr:=hid hKr;have HKt:Hid (∀ A B C:World,Kp A B→Kp B C→Kp A C):=fun A B C h k=>hKt h k
 have HKb:=hid hKb;obtain⟨c0,-,r0⟩:=hread W W hW (hKr W);obtain⟨s,cp,rfl,q1,q2,-⟩:=r0.openZ;obtain⟨N,hN⟩:∃ N,c.length=N:=⟨_,rfl⟩;have HN:=hid hN;rw[hN]at HR c0 q1 hcl;clear hread hY hW hJ hJx hKr hKt hKb r0 hN;refine callsIn_of_wp Tryz.func105 rfl trivial ?_ rfl;simp only[Tryz.ntmps105,List.size_toArray,List.length_cons,List.length_nil,Nat.reduceAdd,Nat.reduceSub,Array.replicate_succ,Array.replicate_zero,List.push_toArray,List.append_toArray,List.nil_append,List.cons_append]
 gi_wp2
 gi_loopw [8] (fun ii wr=>∃ (i:Nat) (p:List Int),ii=.int .i64 (i:Nat)∧i≤N∧Hid (p = []→∀ (j:Nat) (y:Int),j<i→c[j]?=some y→y<m)∧Hid (J p wr)∧Hid (Kp W wr)) (fun ii wr=>N-(intOf ii).toNat)
 case atStart=>exact⟨0,[],rfl,Nat.zero_le _,fun _ j y hj=>absurd hj (by omega),h0,HKr.out W⟩
 case round=>
  obtain⟨i,pre,rfl,hp,hO,hJ,hK⟩:=hrel;by_cases hlt:i<N
  ·obtain⟨x,hx⟩:∃ x,c[i]?=some x:=⟨_,List.getElem?_eq_getElem (by rw[HN.out];exact hlt)⟩;obtain⟨-,c1,hrow⟩:=HR.out W wr HW.out hK.out;obtain⟨a',c',e,-,-,hcell⟩:=hrow.openZ;simp only[Value.slice.injEq]at e;obtain⟨rfl,-,rfl⟩:=e;obtain⟨g,o,rfl,hg,hc⟩:=hcell i x hx;have HX:=hid hx;have b1:(0:Int)≤(i:Int):=by omega
   have b2:(i:Int)<(N:Int):=by omega
   have wi:IntKind.i64.wrap ((i:Int)+1)=(i:Int)+1:=by rw[IntWalk.i64_in _ ⟨by omega,by omega⟩]
   have HLT:=hid hlt;clear hx hrow hcell hg hlt hp;by_cases hm:m≤x
   ·have t0:decide (m≤x)=true:=decide_eq_true hm;have hok:hOk m c pre (i:Nat):=fun e=>by
     have:=u0t HX.out hm (fun j y hj hy=>by have:=hO.out e j y hj hy;omega);exact⟨by rw[this],by rw[this,HN.out];exact HLT.out⟩
    have HOK:=hid hok;obtain⟨fn,tmps,assign,body,hy,hR⟩:=HY.out pre (i:Nat) wr hok hJ.out;have HYR:=hid hR;clear hok hR hm
    gi_wp2_with fail
    refine HYR.out.mono ?_;rintro e W3 (⟨rfl,hJ3,hk3⟩ | ⟨rfl,hJx3⟩)
    ·have HJ3:=hid hJ3;have HK3:=hid (HKt.out _ _ _ hK.out hk3);clear hJ3 hk3 hy
     gi_wp2_with fail
     go_roundw
     case rel=>exact⟨i+1,pre ++ [((i:Nat):Int)],rfl,HLT.out,fun e=>by simp at e,HJ3,HK3⟩
     case measure=>simp[intOf]<;>(have:=HLT.out;omega)
    ·clear hy
     gi_wp2_with fail
     refine bodyPost_ret (results_none rfl _ _ _) rfl ?_;exact⟨⟨_,rfl⟩,.inr ⟨_,trivial,hJx3⟩⟩
   ·have t0:decide (m≤x)=false:=decide_eq_false hm;have HM:=hid (show x<m by omega);clear hm
    gi_wp2_with fail
    refine⟨fun f hf=>(by cases hf),?_⟩
    gi_wp2_with fail
    go_roundw
    case rel=>exact⟨i+1,pre,rfl,HLT.out,fun e j y hj hy=>by
     rcases Nat.lt_or_ge j i with h | h
     ·exact hO.out e j y h hy
     ·obtain rfl:j=i:=by omega
      rw[HX.out]at hy;cases hy;exact HM.out,hJ,hK⟩
    case measure=>simp[intOf]<;>(have:=HLT.out;omega)
  ·obtain rfl:i=N:=by omega
   gi_wp2_with fail
   refine bodyPost_end (results_none rfl _ _ _) rfl ?_;exact⟨⟨_,rfl⟩,.inl ⟨pre,fun e=>p0l fun j y hj hy=>by have:=hO.out e j y (by rw[← HN.out];exact hj) hy;omega,hJ.out⟩⟩
end Go.Proofs.YtlmnpocifldpmaaGreatDoor
namespace Go.Proofs
open Go.Shelf
def Tryz.cloneI_ren:Go.Shelf.Ren:=⟨fun | 41=>47 | n=>n,fun | 22=>24 | 23=>3 | 4=>4 | n=>n,fun | n=>n⟩
theorem Tryz.cloneI:Go.Proofs.SlLaysE0.n41 Tryz.prog Tryz.cloneI_ren:={
 mixed:=by kernel_rfl
 f41:=⟨Tryz.f47.name,by decide,Tryz.func47.trans (congrArg some (by kernel_rfl))⟩
 t4:=Tryz.underlying4
 a4:=Tryz.isAgg4
 z4:=Tryz.sizeOf4
 v4:=Tryz.zeroValue4
 t22:=Tryz.underlying24
 a22:=Tryz.isAgg24
 z22:=Tryz.sizeOf24
 v22:=Tryz.zeroValue24 }
end Go.Proofs
namespace Go.Proofs.YtlmnpocifldpmaaGreatDoor
open Go.RowKit
open Go.Shelf
open Go.Lib (decDigits nDigits)
theorem j0y:(Tryz.prog.info? 3).map (fun i=>(i.zero,i.size,i.bytes))=some (some (.int .i64 0),1,8):=by kernel_rfl
attribute [local go_sem] Oper.semAt_some
theorem o0X {n:Nat}{P:Program}{fn:Func}{R:Ending→World→Prop}{tmps:Array Value}{W:World}{v:Value}(hv:(results fn tmps).run P W=.ok v W)(hR:R (.returned v) W):
 bodyPostM Fence.wide n P fn R .ret { tmps:=tmps,defers:=[] } W:=⟨v,hv,hR⟩
theorem q0V (w:World)(v:Value)(l:List Int)(hv:Row w v (zs l))(h1:1≤l.length)(hl:l.length≤1000):
 Calls Tryz.prog 47 #[v] w fun e w'=>(∃ g cap,e=.returned (.slice (some ⟨g,0,none⟩) l.length cap)∧w'.ownsRow w.heap.size 3 1 (.slice (some ⟨g,0,none⟩) l.length cap) l.length (zs l))∧Below w.heap.size w w':=by
 obtain⟨a,c,rfl,q1,q2,q3⟩:=hv.openZ;obtain⟨i0,hi,hz0,hz1,hz2⟩:=info_parts j0y;obtain⟨x0,hx0⟩:∃ x,l[0]?=some x:=⟨_,List.getElem?_eq_getElem (by omega)⟩;obtain⟨g,o,rfl,hg,-⟩:=q3 0 x0 hx0;have hcell:∀ j u,(zs l)[j]?=some u→w.cell? ⟨g,o+j,none⟩=some u:=fun j u hu=>by
  obtain⟨g',o',e,-,h⟩:=hv.at hu;simp at e;obtain⟨rfl,rfl⟩:=e;exact h
 have PC:Calls Tryz.prog 47 #[.slice (some ⟨g,o,none⟩) l.length c] w fun e w'=>∃ v',e=.returned v'∧w'.ownsRow w.heap.size 3 1 v' l.length (zs l)∧v' ≠ .slice none 0 0∧RowKit.Below w.heap.size w w':=
  AnyE.slices_Clone Tryz.cloneI i0 (.int .i64 0) 1 8 hi hz0 hz1 hz2 rfl (by decide) Tryz.sizeOf3 g o l.length c (zs l) w (by rw[zs_length,Nat.mul_one]) (by unfold maxLen;omega) (by omega) hcell (fun u hu=>by
  unfold zs at hu;obtain⟨x,-,rfl⟩:=List.mem_map.1 hu
  rfl)
 refine PC.mono ?_;rintro e w1 ⟨u,rfl,hown,-,hb1⟩;refine⟨?_,hb1⟩;obtain⟨m,hm⟩:∃ m,l.length=m+1:=⟨l.length-1,by omega⟩;rw[hm]at hown ⊢;obtain⟨g1,cap1,rfl⟩:=ownsRow_succ hown;exact⟨g1,cap1,rfl,hown⟩
theorem i0T (w:World)(v u:Value)(c:List Int)(thr:Int)(a r:ByteArray)(b:List ByteArray)(hv:Row w v (zs c))(hu:Row w u (n0J b))(ha:a.size≤100000)(hr:r.size≤100000)(hb:∀ x∈b,x.size≤100000000)(hL:Lay w)(h0:fsE c thr a r b≠0):
 Calls Tryz.prog 12 #[v,.int .i64 thr,.string a,.string r,u] w fun e w'=>e=.returned (.tuple #[.int .i64 (fsA c thr a r b).1,.bool (fsA c thr a r b).2,.int .i64 (fsE c thr a r b)])∧Below w.heap.size w w':=by
 have HQ:=fun V hV hLV=>hid (c0D V v c thr a r hV ha hr hLV)
 have HW:=fun V h=>hid (l0j V u b (IntKind.i64.wrap ((c.length:Int)+1)) h hb)
 have HV:=hid hv;have HU:=hid hu;have HL:=hid hL;obtain⟨s,cp,rfl,q1,q2,q3⟩:=hv.openZ;obtain⟨t,cq,rfl,p1,p2,p3⟩:=hu.openS;have CO:=fun V v h=>hid (o0i V v [i0w c thr a r,wdE b (IntKind.i64.wrap ((c.length:Int)+1))] h)
 rw[f0W]at CO;rw[show fsA c thr a r b=(0,false) from if_neg h0];have e1:(if i0w c thr a r≠0 then i0w c thr a r else wdE b (IntKind.i64.wrap ((c.length:Int)+1)))=fsE c thr a r b:=by
  unfold fsE;by_cases h:i0w c thr a r=0
  ·rw[if_neg (by simpa using h),if_neg (by simpa using h)];obtain⟨-,k2,-⟩:=l0f h;rw[IntWalk.i64_in _ ⟨by omega,by omega⟩]
   congr 1
  ·rw[if_pos h,if_pos h]
 rw[e1]at CO;obtain⟨z,hz⟩:∃ z,fsE c thr a r b=z:=⟨_,rfl⟩;obtain⟨qe,hqe⟩:∃ z,i0w c thr a r=z:=⟨_,rfl⟩;obtain⟨K,hK⟩:∃ z,IntKind.i64.wrap ((c.length:Int)+1)=z:=⟨_,rfl⟩;simp only[hK]at HW;rw[hK]at CO;obtain⟨we,hwe⟩:∃ z,wdE b K=z:=⟨_,rfl⟩;obtain⟨n,hn⟩:∃ n,c.length=n:=⟨_,rfl⟩;obtain⟨n2,hn2⟩:∃ n,b.length=n:=⟨_,rfl⟩;rw[hz,hqe,hwe]at CO;rw[hz]at h0 ⊢;simp only[hqe]at HQ;simp only[hwe]at HW;rw[hn]at HV q1 ⊢;simp only[hn]at HQ HW;simp only[hn2]at HW;rw[hn2]at HU p1 ⊢;have t0:(z != 0)=true:=by simpa using h0
 have t0':(z==0)=false:=by simpa using h0
 rw[hn]at hK;have A3:=hid ((((Below.refl w.heap.size w).alloc (Nat.le_refl _) (.cells #[.int .i64 0] 3)).alloc (by simp) (.cells #[.bool false] 4)).alloc (by simp<;>omega) (.cells #[.int .i64 0] 27));have X0:=hid (((Blk.new w #[.int .i64 0] 3).alloc (.cells #[.bool false] 4)).alloc (.cells #[.int .i64 0] 27));have X1:=hid ((Blk.made (w.alloc (.cells #[.int .i64 0] 3)) #[.bool false] 4 (n:=w.heap.size+1) (by simp)).alloc (.cells #[.int .i64 0] 27));have X2:=hid (Blk.made ((w.alloc (.cells #[.int .i64 0] 3)).alloc (.cells #[.bool false] 4)) #[.int .i64 0] 27 (n:=w.heap.size+1+1) (by simp));clear hv hu q3 p3 hz hn hn2 h0 hqe hwe e1 ha hr hb hL;go_enter Tryz.func12,Tryz.ntmps12;go_wp2_with fail;refine (HQ _ (HV.out.call A3.out) (HL.out.call A3.out)).out.mono ?_;rintro e w1 ⟨rfl,hb1⟩;have y1:=hid (a0a A3.out hb1);have X0:=hid (X0.out.call hb1);have X1:=hid (X1.out.call hb1);have X2:=hid (X2.out.call hb1);clear hb1;go_wp2_with fail;refine (HW _ (HU.out.call y1.out)).out.mono ?_;rintro e w2 ⟨rfl,hb2⟩;have y2:=hid (a0a y1.out hb2);have X0:=hid (X0.out.call hb2);have X1:=hid (X1.out.call hb2);have X2:=hid (X2.out.call hb2);clear hb2;go_wp2_with fail;refine (CO _ _ (b0r _ _ _ _)).out.mono ?_;rintro e w3 ⟨rfl,rfl⟩;have y3:=hid (y2.out.alloc y2.out.size (.cells #[.int .i64 qe,.int .i64 we] 27));have Y0:=hid (X0.out.alloc (.cells #[.int .i64 qe,.int .i64 we] 27));have Y1:=hid (X1.out.alloc (.cells #[.int .i64 qe,.int .i64 we] 27));have Y2:=hid (X2.out.alloc (.cells #[.int .i64 qe,.int .i64 we] 27));obtain⟨W,hW⟩:∃ W,w2.alloc (.cells #[.int .i64 qe,.int .i64 we] 27)=W:=⟨_,rfl⟩;rw[hW]at y3 Y0 Y1 Y2 ⊢;clear hW;have c0:=Y0.out.cell 0;have c1:=Y1.out.cell 0;have c2:=Y2.out.cell 0;have f0:=Y0.out.free 0;have f1:=Y1.out.free 0;have f2:=Y2.out.free 0;simp at c0 c1 c2;go_wp2_with fail;have p0:=(((Y0.out.set 0 (.int .i64 0)).other (a:=⟨w.heap.size+1,0,none⟩) (by simp) (.bool false)).other (a:=⟨w.heap.size+1+1,0,none⟩) (by simp<;>omega) (.int .i64 z)).cell 0;have p1:=(((Y1.out.other (a:=⟨w.heap.size,0,none⟩) (by simp) (.int .i64 0)).set 0 (.bool false)).other (a:=⟨w.heap.size+1+1,0,none⟩) (by simp) (.int .i64 z)).cell 0;have p2:=(((Y2.out.other (a:=⟨w.heap.size,0,none⟩) (by simp<;>omega) (.int .i64 0)).other (a:=⟨w.heap.size+1,0,none⟩) (by simp) (.bool false)).set 0 (.int .i64 z)).cell 0;simp at p0 p1 p2;refine bodyPost_ret (v:=.tuple #[.int .i64 0,.bool false,.int .i64 z]) (by simp[results,Tryz.results12,go_sem,p0,p1,p2]) rfl ⟨rfl,?_⟩;exact ((y3.out.setCell (by simp) _).setCell (by simp) _).setCell (by simp<;>omega) _
theorem t0g (l:List Int)(i:Nat)(x:Int):(zs l).set i (.int .i64 x)=zs (l.set i x):=by simp[zs,List.map_set]
structure FsI (G g9 cap:Nat)(w B:World)(N D1:Nat)(r:ByteArray)(c:List Int)(bs:List ByteArray)(d0:Bool)(xd:Value×Value×Value)(i k:Nat)(W:World):Prop where
 r0:Blk W G #[.int .i64 0] 3
 r1:Blk W (G+1) #[.bool (d0 && dnL r (bs.take i))] 4
 r2:Blk W (G+1+1) #[.int .i64 0] 27
 own:W.ownsRow B.heap.size 3 1 (.slice (some ⟨g9,0,none⟩) N cap) N (zs (nzP r c bs k))
 x:Blk W D1 #[xd.1,xd.2.1,xd.2.2] 82
 bel:Below w.heap.size w W
 big:B.heap.size≤W.heap.size
theorem FsI.call {G g9 cap:Nat}{w B:World}{N D1:Nat}{r:ByteArray}{c:List Int}{bs:List ByteArray}{d0:Bool}{xd:Value×Value×Value}{i k:Nat}{W W':World}(h:FsI G g9 cap w B N D1 r c bs d0 xd i k W)(hb:Below W.heap.size W W'):FsI G g9 cap w B N D1 r c bs d0 xd i k W':=
 ⟨h.r0.call hb,h.r1.call hb,h.r2.call hb,a0s h.own hb,h.x.call hb,a0a h.bel hb,Nat.le_trans h.big hb.size⟩
theorem FsI.set9 {G g9 cap:Nat}{w B:World}{N D1:Nat}{r:ByteArray}{c:List Int}{bs:List ByteArray}{d0:Bool}{xd:Value×Value×Value}{i k:Nat}{W:World}(h:FsI G g9 cap w B N D1 r c bs d0 xd i k W)(y:Int)(he:(nzP r c bs k).set k y=nzP r c bs (k+1))(hw:w.heap.size≤G)(hG:G+1+1<B.heap.size)(hD:D1<B.heap.size):
 FsI G g9 cap w B N D1 r c bs d0 xd i (k+1) (W.setCell ⟨g9,k,none⟩ (.int .i64 y)):=by
 have hg:B.heap.size≤g9:=(h.own.lt g9 rfl).1;refine⟨h.r0.other (by simp;omega) _,h.r1.other (by simp;omega) _,h.r2.other (by simp;omega) _,?_,h.x.other (by simp;omega) _,h.bel.setCell (by simp;omega) _,by rw[World.size_setCell];exact h.big⟩;have:=o0z h.own k (.int .i64 y);rw[t0g,he]at this;exact this
theorem FsI.set1 {G g9 cap:Nat}{w B:World}{N D1:Nat}{r:ByteArray}{c:List Int}{bs:List ByteArray}{d0:Bool}{xd:Value×Value×Value}{i k:Nat}{W:World}(h:FsI G g9 cap w B N D1 r c bs d0 xd i k W)(q:Bool)(he:(d0 && dnL r (bs.take (i+1)))=q)(hw:w.heap.size≤G)(hG:G+1+1<B.heap.size)(hD:G+1+1<D1):
 FsI G g9 cap w B N D1 r c bs d0 xd (i+1) k (W.setCell ⟨G+1,0,none⟩ (.bool q)):=by
 refine⟨h.r0.other (by simp) _,?_,h.r2.other (by simp) _,ownsRow_setCell_below h.own (by simp;omega) _,h.x.other (by simp;omega) _,h.bel.setCell (by simp;omega) _,by rw[World.size_setCell];exact h.big⟩;have:=h.r1.set 0 (.bool q);rw[he];simpa using this
theorem k0j (w:World)(v u:Value)(c:List Int)(thr:Int)(a r:ByteArray)(b0:ByteArray)(bs:List ByteArray)(hv:Row w v (zs c))(hu:Row w u (n0J (b0::bs)))(ha:a.size≤100000)(hr:r.size≤100000)(hb:∀ x∈b0::bs,x.size≤100000000)(hL:Lay w)(h0:fsE c thr a r (b0::bs)=0):
 Calls Tryz.prog 12 #[v,.int .i64 thr,.string a,.string r,u] w fun e w'=>e=.returned (.tuple #[.int .i64 (fsA c thr a r (b0::bs)).1,.bool (fsA c thr a r (b0::bs)).2,.int .i64 0])∧Below w.heap.size w w':=by
 have OK:=p0s h0;have hbl:bs.length=c.length:=by have:=OK.len;rw[List.length_cons]at this;omega
 have HQ:=fun V hV hLV=>hid (c0D V v c thr a r hV ha hr hLV)
 have HW:=fun V h=>hid (l0j V u (b0::bs) ((c.length+1:Nat):Int) h hb)
 have hq0:i0w c thr a r=0:=by
  unfold fsE at h0
  split at h0
  ·rename_i h1;exact absurd h0 h1
  ·rename_i h1;exact Classical.byContradiction h1
 have hw0:wdE (b0::bs) ((c.length+1:Nat):Int)=0:=by
  unfold fsE at h0;rw[if_neg (by simpa using hq0)]at h0;exact h0
 have CO:=fun V v h=>hid (o0i V v [0,0] h)
 rw[f0W,if_neg (by simp)]at CO;simp only[hq0]at HQ;simp only[hw0]at HW;rw[w0y h0];have HV:=hid hv;have HU:=hid hu;have HL:=hid hL;obtain⟨s,cp,rfl,q1,q2,q3⟩:=hv.openZ;obtain⟨t,cq,rfl,p1,p2,p3⟩:=hu.openS;have hsz0:=f0w (OK.b b0 (List.mem_cons_self ..));have hszs:∀ x∈bs,x.size≤256:=fun x hx=>f0w (OK.b x (List.mem_cons_of_mem _ hx))
 have PT:=fun V hV=>hid (w0v V a b0 ha (by omega) hV)
 have PN:=fun V x (hx:x∈bs) hV=>hid (w0v V r x hr (by have:=hszs x hx;omega) hV)
 have hv0:=h0j a b0 hsz0;have HRG:=hid (u0a (r:=r) OK.rng hszs);have HSZ:=hid hszs;have HOK:=hid OK;have HBL:=hid hbl;obtain⟨z,hz⟩:∃ z,(if ((wT a b0).1 && dnL r bs)=true then fsV c.length (some (h0Z (thr+(wT a b0).2.1) (nzL r c bs))) else (0,false))=z:=⟨_,rfl⟩;have HZ:=hid hz;rw[hz];obtain⟨T,hT⟩:∃ T,wT a b0=T:=⟨_,rfl⟩;obtain⟨ge,hge⟩:∃ y,gE a b0=y:=⟨_,rfl⟩;rw[hT]at HZ hv0;simp only[hT,hge]at PT;obtain⟨d0,v0,u0⟩:=T;simp only[d3]at PT;dsimp only at HZ hv0;obtain⟨gb,ob,rfl,hgb,hcb⟩:=p3 0 b0 rfl;rw[Nat.add_zero]at hcb;obtain⟨n,hn⟩:∃ n,c.length=n:=⟨_,rfl⟩;have HN:=hid hn;have hn2:(b0::bs).length=n+1:=by rw[List.length_cons,hbl,hn]
 have PCL:=fun V hV=>hid (q0V V (.slice s c.length cp) c hV OK.pos (by have:=OK.le;omega))
 rw[hn]at HV q1 HZ ⊢;simp only[hn]at HQ HW PCL;simp only[hn2]at HW;rw[hn2]at HU p1 ⊢;have hn256:n≤256:=by have:=OK.le;omega
 have hn1:1≤n:=by have:=OK.pos;omega
 have HN1:=hid hn1;have HN256:=hid hn256;have HTH:=hid OK.thr;have HV0:=hid hv0;have wn:IntKind.i64.wrap ((n:Int)+1)=((n+1:Nat):Int):=by rw[IntWalk.i64_in _ ⟨by omega,by omega⟩];omega
 have A3:=hid ((((Below.refl w.heap.size w).alloc (Nat.le_refl _) (.cells #[.int .i64 0] 3)).alloc (by simp) (.cells #[.bool false] 4)).alloc (by simp<;>omega) (.cells #[.int .i64 0] 27));have X0:=hid (((Blk.new w #[.int .i64 0] 3).alloc (.cells #[.bool false] 4)).alloc (.cells #[.int .i64 0] 27));have X1:=hid ((Blk.made (w.alloc (.cells #[.int .i64 0] 3)) #[.bool false] 4 (n:=w.heap.size+1) (by simp)).alloc (.cells #[.int .i64 0] 27));have X2:=hid (Blk.made ((w.alloc (.cells #[.int .i64 0] 3)).alloc (.cells #[.bool false] 4)) #[.int .i64 0] 27 (n:=w.heap.size+1+1) (by simp));have HGB:=hid hgb;have HCB:=hid hcb;have P3:=hid p3;clear hv hu q3 p3 hz hn hn2 h0 hq0 hw0 hT hge ha hr hb hL OK hbl hszs hsz0 hv0 hgb hcb hn256 hn1;refine (callsIn_wide (n:=9)).1 ?_;refine callsIn_of_wp_marks Tryz.func12 rfl trivial ?_ rfl;simp only[Tryz.ntmps12,List.size_toArray,List.length_cons,List.length_nil,Nat.reduceAdd,Nat.reduceSub,Array.replicate_succ,Array.replicate_zero,List.push_toArray,List.append_toArray,List.nil_append,List.cons_append]
 gi_wp2_with fail
 refine⟨trivial,?_⟩;refine (callsIn_wide.2 (HQ _ (HV.out.call A3.out) (HL.out.call A3.out)).out).mono ?_;rintro e w1 ⟨rfl,hb1⟩;have y1:=hid (a0a A3.out hb1);have X0:=hid (X0.out.call hb1);have X1:=hid (X1.out.call hb1);have X2:=hid (X2.out.call hb1);clear hb1
 gi_wp2_with fail
 refine⟨trivial,?_⟩;refine (callsIn_wide.2 (HW _ (HU.out.call y1.out)).out).mono ?_;rintro e w2 ⟨rfl,hb2⟩;have y2:=hid (a0a y1.out hb2);have X0:=hid (X0.out.call hb2);have X1:=hid (X1.out.call hb2);have X2:=hid (X2.out.call hb2);clear hb2
 gi_wp2_with fail
 refine⟨trivial,?_⟩;refine (callsIn_wide.2 (CO _ _ (b0r _ _ _ _)).out).mono ?_;rintro e w3 ⟨rfl,rfl⟩;have y3:=hid (y2.out.alloc y2.out.size (.cells #[.int .i64 0,.int .i64 0] 27));have X0:=hid (X0.out.alloc (.cells #[.int .i64 0,.int .i64 0] 27));have X1:=hid (X1.out.alloc (.cells #[.int .i64 0,.int .i64 0] 27));have X2:=hid (X2.out.alloc (.cells #[.int .i64 0,.int .i64 0] 27));obtain⟨w3,hw3⟩:∃ W,w2.alloc (.cells #[.int .i64 0,.int .i64 0] 27)=W:=⟨_,rfl⟩;rw[hw3]at y3 X0 X1 X2 ⊢;clear hw3;have c3:=(y3.out.cell (p:=⟨gb,ob,none⟩) HGB.out).trans HCB.out;have b1:(0:Int)<(n:Int)+1:=by omega
 gi_wp2_with fail
 refine⟨trivial,?_⟩;refine (callsIn_wide.2 (PT _ (HL.out.call y3.out)).out).mono ?_;rintro e w4 ⟨rfl,hb4⟩;have y4:=hid (a0a y3.out hb4);have X2l:=hid ((X2.out.call hb4).lt);have X0:=hid ((X0.out.call hb4).alloc (.cells #[.bool d0,.int .i64 v0,.int .i64 u0] 82));have X1:=hid ((X1.out.call hb4).alloc (.cells #[.bool d0,.int .i64 v0,.int .i64 u0] 82));have X2:=hid ((X2.out.call hb4).alloc (.cells #[.bool d0,.int .i64 v0,.int .i64 u0] 82));have XD:=hid (Blk.new w4 #[.bool d0,.int .i64 v0,.int .i64 u0] 82);have y5:=hid (y4.out.alloc y4.out.size (.cells #[.bool d0,.int .i64 v0,.int .i64 u0] 82));have lt4:=hid X0.out.lt;have lt4':=hid X1.out.lt;have lt4b:=hid X2.out.lt;have k1:=X1.out.cell 0;have k2:=X1.out.free 0;simp at k1;clear hb4 c3 b1
 gi_wp2_with fail
 obtain⟨D1,hD1⟩:∃ G,w4.heap.size=G:=⟨_,rfl⟩;rw[hD1]at XD X2l ⊢;have B6:=hid (y5.out.setCell (p:=⟨w.heap.size+1,0,none⟩) (Nat.le_succ _) (.bool d0));have Z0:=hid (X0.out.other (a:=⟨w.heap.size+1,0,none⟩) (by simp) (.bool d0));have Z1:=hid (X1.out.set 0 (.bool d0));have Z2:=hid (X2.out.other (a:=⟨w.heap.size+1,0,none⟩) (by simp) (.bool d0));have ZD:=hid (XD.out.other (a:=⟨w.heap.size+1,0,none⟩) (by have:=X2l.out;simp;omega) (.bool d0));obtain⟨W6,hW6⟩:∃ W,(w4.alloc (.cells #[.bool d0,.int .i64 v0,.int .i64 u0] 82)).setCell ⟨w.heap.size+1,0,none⟩ (.bool d0)=W:=⟨_,rfl⟩;rw[hW6]at B6 Z0 Z1 Z2 ZD ⊢;clear hW6 X0 X1 X2 XD k1 k2 hD1;refine⟨trivial,?_⟩;refine (callsIn_wide.2 (PCL _ (HV.out.call B6.out)).out).mono ?_;rintro e w7 ⟨⟨g9,cap,rfl,hown⟩,hb7⟩;have F0:Hid (FsI w.heap.size g9 cap w W6 n D1 r c bs d0 (.bool d0,.int .i64 v0,.int .i64 u0) 0 0 w7):=by
  refine⟨Z0.out.call hb7,?_,Z2.out.call hb7,?_,ZD.out.call hb7,a0a B6.out hb7,hb7.size⟩
  ·have h:=Z1.out.call hb7;rw[List.take_zero];show Blk _ _ #[.bool (d0 && true)] _
   rw[Bool.and_true];simpa using h
  ·rw[r0s];exact hown
 have l26:=hid Z2.out.lt;have lD6:=hid ZD.out.lt;clear hb7 hown Z0 Z1 Z2 ZD
 gi_wp2_with fail
 gi_loopw [17,18,19,51] (fun s17 s18 s19 s51 wr=>∃ i:Nat,s51=.int .i64 (i:Nat)∧i≤n∧Hid (FsI w.heap.size g9 cap w W6 n D1 r c bs d0 (.bool d0,.int .i64 v0,.int .i64 u0) i i wr)) (fun s17 s18 s19 s51 wr=>n-(intOf s51).toNat)
 case atStart=>exact⟨0,rfl,Nat.zero_le _,F0⟩
 case round=>
  clear F0;obtain⟨i,rfl,hi',hI⟩:=hrel;by_cases hlt:i<n
  ·obtain⟨x,hx⟩:∃ x,c[i]?=some x:=⟨_,List.getElem?_eq_getElem (by rw[HN.out];exact hlt)⟩;obtain⟨bi,hbi⟩:∃ x,bs[i]?=some x:=⟨_,List.getElem?_eq_getElem (by rw[HBL.out,HN.out];exact hlt)⟩;obtain⟨gb2,ob2,e2,-,hc2⟩:=P3.out (i+1) bi (by rw[List.getElem?_cons_succ];exact hbi);simp only[Option.some.injEq,Addr.mk.injEq,and_true]at e2;obtain⟨rfl,rfl⟩:=e2;have c1:=(hI.out.bel.cell (p:=⟨gb,ob+(i+1),none⟩) HGB.out).trans hc2;have hn256:=HN256.out;have f0:(0:Int)≤(i:Int):=by omega
   have f1:(i:Int)<(n:Int):=by omega
   have g0:(0:Int)≤((i+1:Nat):Int):=by omega
   have g1:((i+1:Nat):Int)<(n:Int)+1:=by omega
   have g2:((i+1:Nat):Int)<((n+1:Nat):Int):=by omega
   have wi:IntKind.i64.wrap ((i:Int)+1)=((i+1:Nat):Int):=by rw[IntWalk.i64_in _ ⟨by omega,by omega⟩];omega
   have PNi:=fun V hV=>PN V bi (List.mem_of_getElem? hbi) hV
   have hvb:=h0j r bi (HSZ.out bi (List.mem_of_getElem? hbi));have hxr:=HOK.out.rng x (List.mem_of_getElem? hx);have hdn:=s0d (r:=r) hbi;have hnx:=r0t (r:=r) HBL.out hx hbi;have hat:=v0Z (r:=r) HBL.out hx;obtain⟨T,hT⟩:∃ T,wT r bi=T:=⟨_,rfl⟩;obtain⟨ge2,hge2⟩:∃ y,gE r bi=y:=⟨_,rfl⟩;simp only[hT,hge2]at PNi;rw[hT]at hvb hdn hnx;obtain⟨d,v1,u1⟩:=T;simp only[d3]at PNi;dsimp only at hvb hdn hnx;have wx:IntKind.i64.wrap (x+v1)=x+v1:=by rw[IntWalk.i64_in _ ⟨by omega,by omega⟩]
   have HDN:=hid hdn;have HNX:=hid hnx;have HAT:=hid hat;have HLT:=hid hlt;clear hx hbi hc2 hvb hxr hdn hnx hat hT hge2 hi' hlt hn256
   gi_wp2_with fail
   refine⟨trivial,?_⟩;refine (callsIn_wide.2 (PNi _ (HL.out.call hI.out.bel)).out).mono ?_;rintro e w8 ⟨rfl,hb8⟩;have I8:=hid ((hI.out.call hb8).call ((Below.refl w8.heap.size w8).alloc (Nat.le_refl _) (.cells #[.bool d,.int .i64 v1,.int .i64 u1] 82)));have XB:=hid (Blk.new w8 #[.bool d,.int .i64 v1,.int .i64 u1] 82);have lt8:=hid (show w8.heap.size > g9∧w8.heap.size > w.heap.size+1 from⟨(h0J (a0s hI.out.own hb8)).2.1,((hI.out.call hb8).r1).lt⟩);clear hb8 c1;obtain⟨o1,o2,o3,o4,-,-,-⟩:=h0J I8.out.own;have m0:=o4 i _ (k0V HAT.out);have m1:=o3 i;have m2:=XB.out.cell 1;have m3:=XB.out.cell 0;simp at m2 m3;have O1:=hid o1;clear o1 o2 o3 o4;have ne1:(g9=w8.heap.size)=False:=eq_false (by have:=lt8.out;omega);have ne2:(w8.heap.size=g9)=False:=eq_false (by have:=lt8.out;omega)
   gi_wp2_with fail
   gi_region
   have J9:=hid ((I8.out.set9 (x+v1) HNX.out (Nat.le_refl _) l26.out lD6.out).call (Below.refl _ _).drew);have XB9:=hid ((XB.out.other (a:=⟨g9,i,none⟩) (by have:=lt8.out;simp;omega) (.int .i64 (x+v1))).call (Below.refl _ _).drew);obtain⟨w9,hw9⟩:∃ W,((w8.alloc (.cells #[.bool d,.int .i64 v1,.int .i64 u1] 82)).setCell ⟨g9,i,none⟩ (.int .i64 (x+v1))).drew=W:=⟨_,rfl⟩;rw[hw9]at J9 XB9 ⊢;clear hw9 m0 m1 m2 m3 ne1 ne2;obtain⟨q,hq⟩:∃ q,(d0 && dnL r (bs.take i))=q:=⟨_,rfl⟩;have m0:=J9.out.r1.cell 0;have m1:=J9.out.r1.free 0;have m3:=XB9.out.cell 0;simp at m0 m3;rw[hq]at m0;have HQ2:Hid ((d0 && dnL r (bs.take (i+1)))=(q && d)):=by
    show _=_
    rw[HDN.out,← Bool.and_assoc,hq]
   clear hq;cases q
   ·gi_wp2_with fail
    go_roundw
    case rel=>exact⟨i+1,by go_num,HLT.out,J9.out.set1 false HQ2.out (Nat.le_refl _) l26.out X2l.out⟩
    case measure=>simp[intOf]<;>(have:=HLT.out;omega)
   ·gi_wp2_with fail
    go_roundw
    case rel=>exact⟨i+1,by go_num,HLT.out,J9.out.set1 d (HQ2.out.trans (Bool.true_and d)) (Nat.le_refl _) l26.out X2l.out⟩
    case measure=>simp[intOf]<;>(have:=HLT.out;omega)
  ·obtain rfl:i=n:=by omega
   have hnl:bs.take i=bs:=List.take_of_length_le (by rw[HBL.out,HN.out];exact Nat.le_refl _);have hI1:=hI.out.r1;rw[hnl]at hI1;have hne:nzP r c bs i=nzL r c bs:=by rw[← HN.out];exact t0Z HBL.out
   have hrow:Row wr (.slice (some ⟨g9,0,none⟩) i cap) (zs (nzL r c bs)):=by rw[← hne];exact Row.of_owns hI.out.own
   have HROW:=hid hrow;obtain⟨q,hq⟩:∃ q,(d0 && dnL r bs)=q:=⟨_,rfl⟩;rw[hq]at hI1;have HZ2:=HZ.out;rw[hq]at HZ2;have e0:=hI1.cell 0;have e1:=hI1.free 0;have e2:=hI.out.r0.cell 0;have e3:=hI.out.r0.free 0;have e4:=hI.out.r2.cell 0;have e5:=hI.out.r2.free 0;simp at e0 e2 e4;have q1:decide ((i:Int)<(i:Int))=false:=by simp
   have HI1:=hid hI1;clear hlt hi' hnl hne hrow hq hI1;cases q
   ·have hz:z=(0,false):=by rw[← HZ2];rfl
    have HZZ:=hid hz;clear HZ2 hz
    gi_wp2_with fail
    have p0:=(((hI.out.r0.set 0 (.int .i64 0)).other (a:=⟨w.heap.size+1,0,none⟩) (by simp) (.bool false)).other (a:=⟨w.heap.size+1+1,0,none⟩) (by simp<;>omega) (.int .i64 0)).cell 0;have p1:=(((HI1.out.other (a:=⟨w.heap.size,0,none⟩) (by simp) (.int .i64 0)).set 0 (.bool false)).other (a:=⟨w.heap.size+1+1,0,none⟩) (by simp) (.int .i64 0)).cell 0;have p2:=(((hI.out.r2.other (a:=⟨w.heap.size,0,none⟩) (by simp<;>omega) (.int .i64 0)).other (a:=⟨w.heap.size+1,0,none⟩) (by simp) (.bool false)).set 0 (.int .i64 0)).cell 0;simp at p0 p1 p2;refine o0X (v:=.tuple #[.int .i64 0,.bool false,.int .i64 0]) (by simp[results,Tryz.results12,go_sem,p0,p1,p2]) ⟨by rw[HZZ.out],?_⟩;exact ((hI.out.bel.setCell (by simp) _).setCell (by simp) _).setCell (by simp<;>omega) _
   ·have hz:z=fsV i (some (h0Z (thr+v0) (nzL r c bs))):=by rw[← HZ2];rfl
    have HZZ:=hid hz;have x1:=hI.out.x.cell 1;simp at x1;have wt:IntKind.i64.wrap (thr+v0)=thr+v0:=by have:=HTH.out;have:=HV0.out;rw[IntWalk.i64_in _ ⟨by omega,by omega⟩]
    have hln:(nzL r c bs).length=i:=by rw[d0v HBL.out,HN.out]
    have HLN:=hid hln;clear HZ2 hz q1 hln
    gi_wp2_with fail
    refine⟨trivial,?_⟩;refine (callsIn_wide.2 (t0w _ _ _ _ _)).mono ?_;rintro e w' ⟨rfl,rfl⟩
    gi_wp2_with fail
    obtain⟨W0,hW0⟩:∃ W0,(wr.alloc (.cells #[.slice (some ⟨g9,0,none⟩) i cap] 24)).alloc (.cells #[.int .i64 (thr+v0)] 3)=W0:=⟨_,rfl⟩;have d0:Below wr.heap.size wr W0:=by rw[← hW0];exact ((Below.refl _ _).alloc (Nat.le_refl _) _).alloc (by simp) _
    have d1:Blk W0 wr.heap.size #[.slice (some ⟨g9,0,none⟩) i cap] 24:=by rw[← hW0];exact (Blk.new wr _ _).alloc _
    have d2:Blk W0 (wr.heap.size+1) #[.int .i64 (thr+v0)] 3:=by rw[← hW0];exact Blk.made _ _ _ (by simp)
    rw[hW0];have E0:=hid (hI.out.r0.call d0);have E1:=hid (HI1.out.call d0);have E2:=hid (hI.out.r2.call d0);have B0:=hid (a0a hI.out.bel d0);have RW:=hid (HROW.out.call d0);have Y1:=hid d1;have Y2:=hid d2;obtain⟨B,hB⟩:∃ B,wr.heap.size=B:=⟨_,rfl⟩;rw[hB]at Y1 Y2 ⊢;obtain⟨hh,hhh⟩:∃ h,h0Z (thr+v0) (nzL r c bs)=h:=⟨_,rfl⟩;rw[hhh]at HZZ;have HHH:=hid hhh;have LG:=hid E2.out.lt;clear d0 d1 d2 hW0 hB hhh e0 e1 e2 e3 e4 e5 x1 wt;have hread:∀ W1 W2,Below W0.heap.size W0 W1→KpC W0.heap.size W1 W2→W2.cell? ⟨B,0,none⟩=some (.slice (some ⟨g9,0,none⟩) i cap)∧W2.cell? ⟨B+1,0,none⟩=some (.int .i64 (thr+v0))∧Row W2 (.slice (some ⟨g9,0,none⟩) i cap) (zs (nzL r c bs)):=fun W1 W2 b1 b2=>by
     have b3:Below W0.heap.size W0 W2:=b1.trans (b2.rest b1.size);exact⟨(Y1.out.call b3).cell 0,(Y2.out.call b3).cell 0,RW.out.call b3⟩
    refine e0v (by omega) (gf:=105) (lb:=#[.pointer (some ⟨B,0,none⟩),.pointer (some ⟨B+1,0,none⟩)]) rfl (enters_of Tryz.func105 (by kernel_rfl) rfl)
     (m0T (Kp:=KpC W0.heap.size) 8 (by omega) W0 B (B+1) (.slice (some ⟨g9,0,none⟩) i cap) (nzL r c bs) (thr+v0) (by rw[HLN.out];exact HN256.out) (KpC.refl _) KpC.trans hread (fun _ _=>KpC.of_below)) KpC.trans (KpC.put (Nat.le_refl _)) (Below.refl _ _) (fun _=>rfl)
     (fun p W=>(p = []∧Blk W w.heap.size #[.int .i64 0] 3∧Blk W (w.heap.size+1) #[.bool true] 4∧Blk W (w.heap.size+1+1) #[.int .i64 0] 27)∧Below w.heap.size w W)
     (fun c p W=>(c=.ret∧hh<i∧Blk W w.heap.size #[.int .i64 (hh:Nat)] 3∧Blk W (w.heap.size+1) #[.bool true] 4∧Blk W (w.heap.size+1+1) #[.int .i64 0] 27)∧Below w.heap.size w W)
     (OwnFrom.and (fun s X Y row hs hg hr=>⟨hs.1,hs.2.1.kept hg (fun r e=>(hr r e).2),hs.2.2.1.kept hg (fun r e=>(hr r e).2),hs.2.2.2.kept hg (fun r e=>(hr r e).2)⟩) (ownFrom_below (Nat.le_refl _) (by have:=LG.out;omega)))
     (fun c=>OwnFrom.and (fun s X Y row hs hg hr=>⟨hs.1,hs.2.1,hs.2.2.1.kept hg (fun r e=>(hr r e).2),hs.2.2.2.1.kept hg (fun r e=>(hr r e).2),hs.2.2.2.2.kept hg (fun r e=>(hr r e).2)⟩) (ownFrom_below (Nat.le_refl _) (by have:=LG.out;omega)))
     ⟨⟨rfl,E0.out,E1.out,E2.out⟩,B0.out⟩ ?act ?assign ?body ?done ?stop
    case assign=>
     intro l x W K hK
     gi_wp2
     exact hK
    case body=>
     rintro l p x W hOk ⟨⟨rfl,r0,r1,r2⟩,hB⟩;obtain⟨hx,hlt⟩:=hOk rfl;rw[HHH.out]at hx hlt;rw[HLN.out]at hlt;subst hx;have e0:=r0.cell 0;have e1:=r0.free 0;have e2:=r1.cell 0;have e3:=r1.free 0;have e4:=r2.cell 0;have e5:=r2.free 0;simp at e0 e2 e4;have R0:=hid r0;have R1:=hid r1;have R2:=hid r2;have HB2:=hid hB;have HLT:=hid hlt;clear r0 r1 r2 hB hlt hOk
     gi_wp2_with fail
     refine⟨(((KeepsOthers.setCell _ _ _).trans (KeepsOthers.setCell _ _ _)).trans (KeepsOthers.setCell _ _ _)).from _,⟨rfl,HLT.out,?_,?_,?_⟩,?_⟩
     ·exact ((R0.out.set 0 _).other (by simp) _).other (by simp<;>omega) _
     ·exact ((R1.out.other (by simp) _).set 0 _).other (by simp) _
     ·exact ((R2.out.other (by simp<;>omega) _).other (by simp) _).set 0 _
     ·exact ((HB2.out.setCell (by simp) _).setCell (by simp) _).setCell (by simp<;>omega) _
    case done=>
     rintro D' xs W hD hS ⟨⟨hx,r0,r1,r2⟩,hB⟩ hK;have hz:=hS hx;rw[HHH.out,HLN.out]at hz;have HZ3:Hid (z=(-1,true)):=by
      show z=_
      rw[HZZ.out];unfold fsV;dsimp only;rw[if_pos hz]
     have e0:=r0.cell 0;have e1:=r0.free 0;have e2:=r1.cell 0;have e3:=r1.free 0;have e4:=r2.cell 0;have e5:=r2.free 0;simp at e0 e2 e4;have R0:=hid r0;have R1:=hid r1;have R2:=hid r2;have HB2:=hid hB;have HK:=hid hK;have HDD:=hid hD;clear r0 r1 r2 hB hx hS hz hK hD
     gi_wp2_with fail
     have q1:=((R0.out.set 0 (.int .i64 (-1))).other (a:=⟨w.heap.size+1,0,none⟩) (by simp) (.bool true)).other (a:=⟨w.heap.size+1+1,0,none⟩) (by simp<;>omega) (.int .i64 0);have q2:=((R1.out.other (a:=⟨w.heap.size,0,none⟩) (by simp) (.int .i64 (-1))).set 0 (.bool true)).other (a:=⟨w.heap.size+1+1,0,none⟩) (by simp) (.int .i64 0);have q3:=((R2.out.other (a:=⟨w.heap.size,0,none⟩) (by simp<;>omega) (.int .i64 (-1))).other (a:=⟨w.heap.size+1,0,none⟩) (by simp) (.bool true)).set 0 (.int .i64 0);have hk3:=((((KeepsOthers.setCell W ⟨w.heap.size,0,none⟩ (.int .i64 (-1))).trans (KeepsOthers.setCell _ ⟨w.heap.size+1,0,none⟩ (.bool true))).trans (KeepsOthers.setCell _ ⟨w.heap.size+1+1,0,none⟩ (.int .i64 0)))).same D' _ HK.out rfl;have p1:=(q1.put hk3 (.deferred none)).cell 0;have p2:=(q2.put hk3 (.deferred none)).cell 0;have p3:=(q3.put hk3 (.deferred none)).cell 0;simp at p1 p2 p3;have h9:=HDD.out;have h8:=LG.out;refine b0C hk3 (v:=.tuple #[.int .i64 (-1),.bool true,.int .i64 0]) (by simp[results,Tryz.results12,go_sem,p1,p2,p3]) ⟨by rw[HZ3.out],?_⟩;exact (((HB2.out.setCell (by simp) _).setCell (by simp) _).setCell (by simp<;>omega) _).trans (belowK_b (w:=w) (Nat.le_refl _) _ D' _ _ (by omega) hk3 rfl rfl)
    case stop=>
     rintro D' c p W hD-⟨⟨rfl,hlt,r0,r1,r2⟩,hB⟩ hK;have HZ3:Hid (z=((hh:Int),true)):=by
      show z=_
      rw[HZZ.out];unfold fsV;dsimp only;rw[if_neg (by omega)]
     have p1:=(r0.put hK (.deferred none)).cell 0;have p2:=(r1.put hK (.deferred none)).cell 0;have p3:=(r2.put hK (.deferred none)).cell 0;simp at p1 p2 p3;have HB2:=hid hB;have HK:=hid hK;have HDD:=hid hD;clear r0 r1 r2 hB hlt hK hD
     gi_wp2_with fail
     have h9:=HDD.out;have h8:=LG.out;refine b0C HK.out (v:=.tuple #[.int .i64 (hh:Nat),.bool true,.int .i64 0]) (by simp[results,Tryz.results12,go_sem,p1,p2,p3]) ⟨by rw[HZ3.out],?_⟩;exact HB2.out.trans (belowK_b (w:=w) (Nat.le_refl _) _ D' _ _ (by omega) HK.out rfl rfl)
theorem q0M (w:World)(v u:Value)(c:List Int)(thr:Int)(a r:ByteArray)(b:List ByteArray)(hv:Row w v (zs c))(hu:Row w u (n0J b))(ha:a.size≤100000)(hr:r.size≤100000)(hb:∀ x∈b,x.size≤100000000)(hL:Lay w):
 Calls Tryz.prog 12 #[v,.int .i64 thr,.string a,.string r,u] w fun e w'=>e=.returned (.tuple #[.int .i64 (fsA c thr a r b).1,.bool (fsA c thr a r b).2,.int .i64 (fsE c thr a r b)])∧Below w.heap.size w w':=by
 by_cases h0:fsE c thr a r b=0
 ·cases b with
  | nil=>exact absurd (p0s h0).len (by simp)
  | cons b0 bs=>
   rw[h0];exact k0j w v u c thr a r b0 bs hv hu ha hr hb hL h0
 ·exact i0T w v u c thr a r b hv hu ha hr hb hL h0
theorem MRow.nilP (w:World):MRow w (.slice none 0 0) []:=MRow.nil w
theorem s0A (w:World)(v:Value)(c:List Int)(thr:Int)(a r:ByteArray)(n:Int)(hv:Row w v (zs c))(ha:a.size≤100000)(hr:r.size≤100000)(hL:LayB w):
 Calls Tryz.prog 10 #[v,.int .i64 thr,.string a,.string r,.int .i64 n] w fun e w'=>(∃ u,e=.returned (.tuple #[u,.int .i64 (slE c thr a r n)])∧MRow w' u (slR c thr a r n))∧Below w.heap.size w w':=by
 by_cases h0:slE c thr a r n=0
 ·have hE:=h0;unfold slE at h0
  split at h0
  ·rename_i h1;exact absurd h0 h1
  ·rename_i h1
   split at h0
   ·cases h0
   ·rename_i h2
    split at h0
    ·cases h0
    ·rename_i h3
     obtain⟨m,rfl⟩:∃ m:Nat,n=(m:Nat):=⟨n.toNat,by omega⟩;rw[hE];have e2:slR c thr a r (m:Nat)=a0D (sqD (gV (bN (cW a)) (bN (qD a)) true m) (gV (bN (cW r)) (bN (qD r)) true m) m thr c):=by unfold slR;rw[if_pos hE,Int.toNat_natCast]
     rw[e2];refine n0U w v c thr a r m hv ha hr (Classical.byContradiction h1) (by omega) ?_ hL;have:¬ (256:Int)<((m*(c.length+1):Nat):Int):=by rwa[Int.natCast_mul,Int.natCast_add]
     omega
 ·have e2:slR c thr a r n = []:=if_neg h0;rw[e2];have HQ:=fun V hV hLV=>hid (c0D V v c thr a r hV ha hr hLV)
  have HV:=hid hv;have HL:=hid hL;obtain⟨s,cp,rfl,q1,q2,q3⟩:=hv.openZ;obtain⟨L,hLL⟩:∃ L,c.length=L:=⟨_,rfl⟩;unfold slE at h0 ⊢;obtain⟨z,hz⟩:∃ z,i0w c thr a r=z:=⟨_,rfl⟩;have hz0:=hz;simp only[hz]at HQ;rw[hz]at h0 ⊢;rw[hLL]at HV h0 q1 ⊢;simp only[hLL]at HQ;have A1:=hid ((Below.refl w.heap.size w).alloc (Nat.le_refl _) (.cells #[.string a,.string r] 60));have X1:=hid (Blk.new w #[.string a,.string r] 60);by_cases c0:z=0
  case neg=>
   rw[if_pos c0];have t0:(z==0)=false:=by rw[beq_eq_false_iff_ne];exact c0
   have t0':(z != 0)=true:=by simpa using c0
   clear hv q3 hLL hz hz0 h0 c0 ha hr hL;go_enter Tryz.func10,Tryz.ntmps10;go_wp2_with fail;refine (HQ _ (HV.out.call A1.out) (HL.out.call A1.out).l).out.mono ?_;rintro e w0 ⟨rfl,hb0⟩;go_wp2_with fail;go_ret2
   exact⟨⟨_,rfl,MRow.nilP _⟩,a0a A1.out hb0⟩
  simp only[c0]at HQ;rw[if_neg (by rw[c0];simp)]at h0 ⊢;by_cases c1:n<0∨32<n
  ·rw[if_pos c1];obtain⟨p,hp⟩:∃ p,decide (n<0)=p:=⟨_,rfl⟩;obtain⟨q,hq⟩:∃ q,decide (32<n)=q:=⟨_,rfl⟩;have hpq:(p || q)=true:=by rw[← hp,← hq];simpa using c1
   clear hv q3 hLL hz hz0 h0 c0 c1 ha hr hL;cases p
   ·obtain rfl:q=true:=by simpa using hpq
    clear hpq;go_enter Tryz.func10,Tryz.ntmps10;go_wp2_with fail;refine (HQ _ (HV.out.call A1.out) (HL.out.call A1.out).l).out.mono ?_;rintro e w0 ⟨rfl,hb0⟩;go_wp2_with fail;go_ret2
    exact⟨⟨_,rfl,MRow.nilP _⟩,a0a A1.out hb0⟩
   ·clear hpq hq;go_enter Tryz.func10,Tryz.ntmps10;go_wp2_with fail;refine (HQ _ (HV.out.call A1.out) (HL.out.call A1.out).l).out.mono ?_;rintro e w0 ⟨rfl,hb0⟩;go_wp2_with fail;go_ret2
    exact⟨⟨_,rfl,MRow.nilP _⟩,a0a A1.out hb0⟩
  ·rw[if_neg c1]at h0 ⊢;obtain⟨-,k2,-⟩:=l0f (hz0.trans c0);rw[hLL]at k2;obtain⟨m,rfl⟩:∃ m:Nat,n=(m:Nat):=⟨n.toNat,by omega⟩;by_cases c2:256<((m:Nat):Int)*(((L:Nat):Int)+1)
   ·rw[if_pos c2];have t1:decide ((m:Int)<0)=false:=by simp
    have t2:decide ((32:Int)<(m:Int))=false:=by simp;omega
    obtain⟨L1,hL1⟩:∃ L1,L1=L+1:=⟨_,rfl⟩;have wl:IntKind.i64.wrap ((L:Int)+1)=(L1:Int):=by rw[IntWalk.i64_in _ ⟨by omega,by omega⟩];omega
    have e1:((L:Nat):Int)+1=(L1:Int):=by omega
    rw[e1]at c2;obtain⟨M,hM⟩:∃ M:Int,(m:Int)*(L1:Int)=M:=⟨_,rfl⟩;have hM2:M≤100000:=by
     rw[← hM];have h5:m*L1≤32*257:=Nat.mul_le_mul (by omega) (by omega);have:((m*L1:Nat):Int)≤100000:=by omega
     rwa[Int.natCast_mul]at this
    rw[hM]at c2;have wm:IntKind.i64.wrap ((m:Int)*(L1:Int))=M:=by rw[hM,IntWalk.i64_in _ ⟨by omega,by omega⟩]
    have t3:decide (256<M)=true:=decide_eq_true c2;clear hv q3 hLL hz hz0 h0 c0 c1 c2 ha hr hL hM hM2 k2 e1 hL1;go_enter Tryz.func10,Tryz.ntmps10;go_wp2_with fail;refine (HQ _ (HV.out.call A1.out) (HL.out.call A1.out).l).out.mono ?_;rintro e w0 ⟨rfl,hb0⟩;go_wp2_with fail;go_ret2
    exact⟨⟨_,rfl,MRow.nilP _⟩,a0a A1.out hb0⟩
   ·rw[if_neg c2]at h0;exact absurd rfl h0
end Go.Proofs.YtlmnpocifldpmaaGreatDoor
namespace Go.Proofs.YtlmnpocifldpmaaGreatDoor
open Go.RowKit
open Go.Lib (decDigits nDigits)
def h12:ByteArray:=⟨#[49,47,50]⟩
def x11:ByteArray:=⟨#[49,49]⟩
theorem x0I:fsA [3,8,9] 5 h12 h12 [x11,x11,x11,x11]=(1,true)∧fsE [3,8,9] 5 h12 h12 [x11,x11,x11,x11]=0:=by decide +kernel
theorem i0t:a0D [((⟨#[108,97,116,101]⟩,⟨#[49,53,47,49,54]⟩):ByteArray×ByteArray),(⟨#[48]⟩,⟨#[49,47,49,54]⟩)] = [(⟨#[48]⟩,⟨#[49,47,49,54]⟩),(⟨#[108,97,116,101]⟩,⟨#[49,53,47,49,54]⟩)]:=by
 have h:=q0l (L:=[((⟨#[108,97,116,101]⟩,⟨#[49,53,47,49,54]⟩):ByteArray×ByteArray)]) (key:=⟨#[48]⟩) (p:=⟨#[49,47,49,54]⟩) (by decide) (by intro x hx;simp at hx;subst hx;decide) (List.pairwise_singleton _ _);have e:a0D [((⟨#[108,97,116,101]⟩,⟨#[49,53,47,49,54]⟩):ByteArray×ByteArray)] = [(⟨#[108,97,116,101]⟩,⟨#[49,53,47,49,54]⟩)]:=List.mergeSort_singleton _;rw[e]at h;refine Eq.trans h.symm ?_
 decide +kernel
theorem x0J:slE [5] 5 h12 h12 2=0∧slR [5] 5 h12 h12 2 = [(⟨#[48]⟩,⟨#[49,47,49,54]⟩),(⟨#[108,97,116,101]⟩,⟨#[49,53,47,49,54]⟩)]:=by
 have h:slE [5] 5 h12 h12 2=0:=by decide +kernel
 refine⟨h,?_⟩;unfold slR;rw[if_pos h];have e:sqD (gV (bN (cW h12)) (bN (qD h12)) true (2:Int).toNat) (gV (bN (cW h12)) (bN (qD h12)) true (2:Int).toNat) (2:Int).toNat 5 [5] = [(⟨#[108,97,116,101]⟩,⟨#[49,53,47,49,54]⟩),(⟨#[48]⟩,⟨#[49,47,49,54]⟩)]:=by decide +kernel
 rw[e];exact i0t
open Go.Shelf
theorem u0l (x:Int)(n:Nat)(h0:0<n)(hn:n≤1000000)(h1 : -9223372036854775808≤x)(h2:x≤9223372036854775807):
 ∃ i:Nat,i<n∧∀ w,Calls Tryz.prog 18 #[.int .i64 x,.int .i64 (n:Nat)] w fun e w'=>e=.returned (.int .i64 (i:Nat))∧w=w':=by
 have r1:=Int.tmod_lt_of_pos x (show (0:Int)<n by omega);have r2:=Int.lt_tmod_of_pos x (show (0:Int)<n by omega);obtain⟨r,hr⟩:∃ r,x.tmod (n:Int)=r:=⟨_,rfl⟩;rw[hr]at r1 r2;have e0:IntKind.i64.wrap r=r:=by rw[IntWalk.i64_in _ ⟨by omega,by omega⟩]
 have hz:((n:Int)==0)=false:=by rw[beq_eq_false_iff_ne];omega
 by_cases hneg:r<0
 ·have q0:decide (r<0)=true:=by simp;omega
  obtain⟨i,hi⟩:∃ i:Nat,r+(n:Int)=i:=⟨(r+n).toNat,by omega⟩;have e1:IntKind.i64.wrap (r+(n:Int))=r+(n:Int):=by rw[IntWalk.i64_in _ ⟨by omega,by omega⟩]
  refine⟨i,by omega,fun w=>?_⟩;rw[← hi];clear hi hneg;go_enter Tryz.func18,Tryz.ntmps18;go_wp2_with fail;go_ret
  exact⟨rfl,rfl⟩
 ·have q0:decide (r<0)=false:=by simp;omega
  obtain⟨i,hi⟩:∃ i:Nat,r=i:=⟨r.toNat,by omega⟩;refine⟨i,by omega,fun w=>?_⟩;rw[← hi];clear hi hneg;go_enter Tryz.func18,Tryz.ntmps18;go_wp2_with fail;go_ret
  exact⟨rfl,rfl⟩
theorem w0o (w:World)(x:Int)(n:Nat)(h0:0<n)(hn:n≤1000000)(h1 : -9223372036854775808≤x)(h2:x≤9223372036854775807):
 ∃ i:Nat,i<n∧Calls Tryz.prog 18 #[.int .i64 x,.int .i64 (n:Nat)] w fun e w'=>e=.returned (.int .i64 (i:Nat))∧w=w':=by
 obtain⟨i,h3,h4⟩:=u0l x n h0 hn h1 h2;exact⟨i,h3,h4 w⟩
end Go.Proofs.YtlmnpocifldpmaaGreatDoor
namespace Go.Proofs.YtlmnpocifldpmaaGreatDoor
open Go.RowKit
open Go.Shelf
theorem r0D (w:World)(L:List (ByteArray×ByteArray))(n:Nat)(hn:L.length=n)(hL:n≤1000):MRow (w.alloc (.cells (b0B L).toArray 39)) (.slice (some ⟨w.heap.size,0,none⟩) n n) L:=by
 subst hn;refine⟨some ⟨w.heap.size,0,none⟩,L.length,rfl,Nat.le_refl _,by omega,fun i x h=>⟨w.heap.size,0,rfl,by simp,?_,?_⟩⟩
 ·rw[Nat.zero_add,(Blk.new w _ _).cell,List.getElem?_toArray];exact (c0t h).1
 ·rw[Nat.zero_add,(Blk.new w _ _).cell,List.getElem?_toArray];exact (c0t h).2
theorem q0Y (w:World)(L:List Int)(n:Nat)(hn:L.length=n)(hL:n≤1000):Row (w.alloc (.cells (zs L).toArray 3)) (.slice (some ⟨w.heap.size,0,none⟩) n n) (zs L):=
 Row.of_blk (Blk.new w _ _) (by rw[zs_length];exact hn) (by unfold maxLen;omega) (fun i x h=>by rw[List.getElem?_toArray];exact h) (Nat.le_refl _) (by unfold maxLen;omega)
open Go.Lib (decDigits nDigits)
theorem l0r (w:World)(L:List Int)(cs:Array Value)(n b:Nat)(hc:cs=(zs L).toArray)(hb:w.heap.size=b)(hn:L.length=n)(hL:n≤1000):Row (w.alloc (.cells cs 3)) (.slice (some ⟨b,0,none⟩) n n) (zs L):=by
 subst hc hb;exact q0Y w L n hn hL
theorem q0Z (w:World)(L:List ByteArray)(cs:Array Value)(n b:Nat)(hc:cs=(n0J L).toArray)(hb:w.heap.size=b)(hn:L.length=n)(hL:n≤1000):Row (w.alloc (.cells cs 33)) (.slice (some ⟨b,0,none⟩) n n) (n0J L):=by
 subst hc hb;exact Row.of_blk (Blk.new w _ _) (by rw[strs_length];exact hn) (by unfold maxLen;omega) (fun i x h=>by rw[List.getElem?_toArray];exact h) (Nat.le_refl _) (by unfold maxLen;omega)
theorem i0E (w:World)(hL:LayB w):
 Calls Tryz.prog 9 #[] w fun e w'=>e=.returned (.bool true)∧Below w.heap.size w w':=by
 have HL:=hid hL;have PP:=fun V v u hv hu hV=>hid (q0M V v u [3,8,9] 5 h12 h12 [x11,x11,x11,x11] hv hu (by decide) (by decide) (by decide) hV)
 have PL:=fun V v hv hV=>hid (s0A V v [5] 5 h12 h12 2 hv (by decide) (by decide) hV)
 rw[x0I.1,x0I.2]at PP;rw[x0J.1,x0J.2]at PL;unfold h12 x11 at PP;unfold h12 at PL;have PS:=fun V u v hu hv=>hid (u0k V u v [(⟨#[48]⟩,⟨#[49,47,49,54]⟩),(⟨#[108,97,116,101]⟩,⟨#[49,53,47,49,54]⟩)] [(⟨#[48]⟩,⟨#[49,47,49,54]⟩),(⟨#[108,97,116,101]⟩,⟨#[49,53,47,49,54]⟩)] hu hv)
 rw[decide_eq_true rfl]at PS;clear hL;have A1:=(Below.refl w.heap.size w).alloc (Nat.le_refl _) (.cells #[.int .i64 3,.int .i64 8,.int .i64 9] 3);have A2:=hid (A1.alloc A1.size (.cells #[.string ⟨#[49,49]⟩,.string ⟨#[49,49]⟩,.string ⟨#[49,49]⟩,.string ⟨#[49,49]⟩] 33));have R1:=hid ((l0r w [3,8,9] _ 3 w.heap.size rfl rfl rfl (by omega)).call ((Below.refl _ _).alloc (Nat.le_refl _) (.cells #[.string ⟨#[49,49]⟩,.string ⟨#[49,49]⟩,.string ⟨#[49,49]⟩,.string ⟨#[49,49]⟩] 33)));have R2:=hid (q0Z (w.alloc (.cells #[.int .i64 3,.int .i64 8,.int .i64 9] 3)) [⟨#[49,49]⟩,⟨#[49,49]⟩,⟨#[49,49]⟩,⟨#[49,49]⟩] _ 4 (w.heap.size+1) rfl (by simp) rfl (by omega));clear A1;go_enter Tryz.func9,Tryz.ntmps9;go_wp2_with fail;refine (PP _ _ _ R1.out R2.out (HL.out.call A2.out).l).out.mono ?_;rintro e w1 ⟨rfl,hb1⟩;have y1:=hid (a0a A2.out hb1);clear hb1;go_wp2_with fail;have A3:=hid ((Below.refl w1.heap.size w1).alloc (Nat.le_refl _) (.cells #[.int .i64 5] 3));have R3:=hid (l0r w1 [5] _ 1 w1.heap.size rfl rfl rfl (by omega));refine (PL _ _ R3.out (HL.out.call (a0a y1.out A3.out))).out.mono ?_;rintro e w2 ⟨⟨u,rfl,hu⟩,hb2⟩;have y2:=hid (a0a y1.out (a0a A3.out hb2));have U2:=hid hu;obtain⟨a2,k2,rfl,-,-,-⟩:=hu.ex;clear hb2 hu;have A4:=hid ((Below.refl w2.heap.size w2).alloc (Nat.le_refl _) (.cells #[.string ⟨#[48]⟩,.string ⟨#[49,47,49,54]⟩,.string ⟨#[108,97,116,101]⟩,.string ⟨#[49,53,47,49,54]⟩] 39));have R4:=hid (r0D w2 [(⟨#[48]⟩,⟨#[49,47,49,54]⟩),(⟨#[108,97,116,101]⟩,⟨#[49,53,47,49,54]⟩)] 2 rfl (by omega));go_wp2_with fail;refine (PS _ _ _ (U2.out.call A4.out) R4.out).out.mono ?_;rintro e w3 ⟨rfl,hb3⟩;go_wp2_with fail;go_ret
 exact⟨rfl,a0a y2.out (a0a A4.out hb3)⟩
theorem o0d (a r:ByteArray)(k:Int)(one:Bool):(o0e a r k one).size≤10000:=by
 unfold o0e
 split
 ·exact Nat.zero_le _
 ·split
  ·exact Nat.zero_le _
  ·exact d0i _ _ _
theorem s0I {w:World}{v:Value}{L:List (ByteArray×ByteArray)}(h:MRow w v L):∃ a c,v=.slice a L.length c:=by
 obtain⟨a,c,e,-⟩:=h.ex;exact⟨a,c,e⟩
theorem o0a {c:List Int}{t:Int}{a r:ByteArray}{n:Int}(h:slE c t a r n≠0):(slR c t a r n).length=0:=by
 unfold slR;rw[if_neg h];rfl
theorem q0J (w:World)(v u:Value)(us cs:List Int)(same:Bool)(Th:Int)(s rr:ByteArray)(B:Int)(hv:Row w v (zs us))(hu:Row w u (zs cs))(hi1:∀ x∈us,-9223372036854775808≤x∧x≤9223372036854775807)(hi2:∀ x∈cs,-9223372036854775808≤x∧x≤9223372036854775807)(hL:LayB w)
 (h0:us.length≠0) (h1:us.length≤3) (h2:us.length≤cs.length) (h3:s.size≤12) (h3r:rr.size≤12) (h4:0≤B) (h5:B≤5) (h6:s≠⟨#[48]⟩) (h7:rr≠⟨#[48]⟩):
 Calls Tryz.prog 6 #[v,u,.bool same,.int .i64 Th,.string s,.string rr,.int .i64 B] w fun e w'=>e=.returned (.bool true)∧Below w.heap.size w w':=by
 have HLV:=hid (i0E w hL);have HV:=hid hv;have HU:=hid hu;have HL:=hid hL;have PE:=fun V x l hV hLV=>hid (s0A V x l Th s rr B hV (by omega) (by omega) hLV)
 obtain⟨i0,hi,hz0,hz1,hz2⟩:=info_parts j0y;obtain⟨a,c,rfl,c1,c2,-⟩:=hv.openZ;obtain⟨a',c',rfl,c1',c2',-⟩:=hu.openZ;obtain⟨N,hN⟩:∃ N,us.length=N:=⟨_,rfl⟩;obtain⟨M,hM⟩:∃ N,cs.length=N:=⟨_,rfl⟩;have HN:=hid hN;have HM:=hid hM;have I1:=hid hi1;have I2:=hid hi2;rw[hN]at c1 h0 h1 h2 HV ⊢;rw[hM]at c1' h2 HU ⊢;have k0:((N:Int)==0)=false:=by rw[beq_eq_false_iff_ne];omega
 have k1:decide ((3:Int)<(N:Int))=false:=decide_eq_false (by omega);have k2:decide ((M:Int)<(N:Int))=false:=decide_eq_false (by omega);have k2':decide (M<N)=false:=decide_eq_false (by omega);have k3:decide ((12:Int)<(s.size:Int))=false:=decide_eq_false (by omega);have k3r:decide ((12:Int)<(rr.size:Int))=false:=decide_eq_false (by omega);have k4:decide (B<0)=false:=decide_eq_false (by omega);have k5:decide (5<B)=false:=decide_eq_false (by omega);have k6:(s.toList == [48])=false:=a0J h6;have k7:(rr.toList == [48])=false:=a0J h7;have HRR:=hid h3r;have H7:=hid h7;have HS:=hid h3;have H6:=hid h6;have H5:=hid h5;have H1:=hid h1;have H0:=hid h0;clear hv hu hL hN hM h3 h3r hi1 hi2 h6 h7;go_enter Tryz.func6,Tryz.ntmps6;go_wp2_with fail;refine HLV.out.mono ?_;rintro e w1 ⟨rfl,hb1⟩;have y1:=hid hb1;clear hb1;go_wp2_with fail
 go_loopw [15,16,17,18] (fun s11 s12 s13 s14 wr=>∃ (i mm:Nat) (ts os:List Int),s14=.int .i64 i∧i≤N∧s13=.int .i64 mm∧mm≤2∧ts.length=i∧os.length=i∧Hid (DfU same mm ts os)∧Hid (TwoZ w.heap.size wr s11 s12 ts os)∧Hid (Below w.heap.size w wr)) (fun s11 s12 s13 s14 wr=>N-(intOf s14).toNat)
 case atStart=>exact⟨0,0,[],[],rfl,Nat.zero_le _,rfl,by omega,rfl,rfl,DfU.nil _ _,TwoZ.nil _ _,y1.out⟩
 case round=>
  obtain⟨i,mm,ts,os,rfl,hiN,rfl,hmm,hts,hos,hD,hT,hB⟩:=hrel;have wi:IntKind.i64.wrap ((i:Int)+1)=((i+1:Nat):Int):=by rw[IntWalk.i64_in _ ⟨by omega,by omega⟩];omega
  by_cases hlt:i<N
  ·obtain⟨x,hx⟩:∃ x,us[i]?=some x:=⟨_,List.getElem?_eq_getElem (by rw[HN.out];exact hlt)⟩;obtain⟨y,hy⟩:∃ x,cs[i]?=some x:=⟨_,List.getElem?_eq_getElem (by rw[HM.out];omega)⟩;obtain⟨g,o,rfl,hg,hc⟩:=HV.out.at (k0V hx);obtain⟨g',o',rfl,hg',hc'⟩:=HU.out.at (k0V hy);have hcx:=(hB.out.cell (p:=⟨g,o+i,none⟩) hg).trans hc;have hcy:=(hB.out.cell (p:=⟨g',o'+i,none⟩) hg').trans hc';have bx:=I1.out x (List.mem_of_getElem? hx);have by':=I2.out y (List.mem_of_getElem? hy)
   obtain⟨j,hj,PK⟩:=w0o wr y 5 (by omega) (by omega) by'.1 by'.2
   have PK:=hid PK;have b1:(0:Int)≤(i:Int):=by omega
   have b2:(i:Int)<(N:Int):=by omega
   have b3:(i:Int)<(M:Int):=by omega
   have HTS:=hid hts;have HOS:=hid hos;have bx1:=bx.1;have bx2:=bx.2;clear hx hy hc' hg' bx by' hts hos
   go_wp2_with fail;refine PK.out.mono ?_;rintro e w2 ⟨rfl,rfl⟩
   go_upto_if 87 with fail
   go_cut [19] (fun s15 wx=>∃ K:Int,s15=.int .i64 K ∧ -2≤K∧K≤2∧Hid (same=true→0≤K)∧Hid (wr=wx))
   case first=>
    cases same
    ·go_wp2_with fail
     all_goals
      go_meet
      exact⟨_,rfl,by omega,by omega,(fun h=>by cases h),rfl⟩
    ·go_wp2_with fail
     all_goals
      go_meet
      exact⟨_,rfl,by omega,by omega,(fun _=>by omega),rfl⟩
   case rest=>
   obtain⟨K,rfl,hk1,hk2,hk3,hW⟩:=hcut;obtain rfl:=hW.out;clear hW
   go_upto_region 13 with fail
   go_cut [17] (fun s13 wx=>∃ Y:Int,s13=.int .i64 Y∧(mm:Int)≤Y∧Y≤2∧K≤Y ∧ -K≤Y∧Hid (wr=wx))
   case first=>
    go_wp2_with fail
    all_goals
     go_meet
     exact⟨_,rfl,by omega,by omega,by omega,by omega,rfl⟩
   case rest=>
   obtain⟨Y,rfl,hy1,hy2,hy3,hy4,hW⟩:=hcut;obtain rfl:=hW.out;clear hW;obtain⟨mn,rfl⟩:∃ mn:Nat,Y=mn:=⟨Y.toNat,by omega⟩
   -- REGION
   obtain⟨T,hT0⟩:∃ T,x.tdiv 2=T:=⟨_,rfl⟩;have hTb:=t0l bx1 bx2;rw[hT0]at hTb;have hTb1:=hTb.1;have hTb2:=hTb.2;have wd:IntKind.i64.wrap (x.tdiv 2)=T:=by rw[hT0,IntWalk.i64_in _ ⟨by omega,by omega⟩]
   have wk:IntKind.i64.wrap (T+K)=T+K:=IntWalk.i64_in _ ⟨by omega,by omega⟩;have KK:Hid (∀ W,Below w.heap.size w W→W.cell? ⟨g,o+i,none⟩=some (.int .i64 x)):=fun W hW=>(hW.cell (p:=⟨g,o+i,none⟩) hg).trans hc
   have LE:=hid (show w.heap.size≤wr.heap.size from hB.out.size);have lt1:=hid (fun g h=>(hT.out.o1.lt g h).2);have lt2:=hid (fun g h=>(hT.out.o2.lt g h).2);clear hTb hcx hcy hc hg;go_wp2_with fail;refine a0n [0,1,2,3,4,5,8,9,10,11,12,13,14,15] 6 (fun w'=>w'.cell? ⟨g,o+i,none⟩=some (.int .i64 x)) (by kernel_rfl) (by kernel_rfl) (by kernel_rfl) (by kernel_rfl) (KK.out _ hB.out.drew) ?_
   iterate 14
    refine⟨_,rfl,?_⟩;apply Exists.intro
    refine⟨.inl ⟨by rfl,?_⟩,?_⟩
    ·(intro W' hW';obtain q1:=hW';go_simp;try (with_reducible rfl))
    (dsimp only[Act.put];try simp only[List.setIfInBounds_toArray,List.set_cons_zero,List.set_cons_succ])
   refine e0I (i:=6) (j:=16) (by kernel_rfl) (by rfl) (by rfl) (by rfl) (by rfl) ?_ ?_
   ·go_wp2_with fail;have d1:Below wr.heap.size wr (wr.alloc (.cells #[.int .i64 T] 3)).drew:=((Below.refl _ _).alloc (Nat.le_refl _) _).drew;have T1:=hid (hT.out.below d1);have b1:=hid (hB.out.trans (d1.mono hB.out.size));have c1:=hid (show Blk (wr.alloc (.cells #[.int .i64 T] 3)).drew wr.heap.size #[.int .i64 T] 3 from (Blk.new wr _ _).drew);clear d1;refine⟨KK.out _ b1.out,?_⟩;refine e0I (i:=7) (j:=16) (by kernel_rfl) (by rfl) (by rfl) (by rfl) (by rfl) ?_ ?_
    ·refine wpList_append_own_at _ rfl _ _ 24 rfl w.heap.size 3 i0 (.int .i64 0) 1 8 Tryz.underlying24 hi hz0 hz1 hz2 rfl (by decide) u15 ts.length (zs ts) rfl T1.out.o1 ⟨wr.heap.size,0,none⟩ 1 1 [.int .i64 (T)] rfl rfl (d0w c1.out) (by simp[Value.oneCell']) (by have:=HTS.out;have:=HOS.out;unfold maxLen;omega) (by have:=HTS.out;have:=HOS.out;omega) (by exact b1.out.size) ?_;intro v1' w3 hown hgrow _ hat;have T3:=hid (T1.out.app1 hown hgrow hat);have b3:=hid (b0e T1.out.o1 b1.out hgrow);clear hown hgrow hat;go_wp2_with fail;refine⟨KK.out _ b3.out,?_⟩;refine a0c (i:=16) (by kernel_rfl) (by rfl) (by rfl) ?_;go_wp2_with fail;have T4:=hid (T3.out.below ((Below.refl _ _).alloc (Nat.le_refl _) (.cells #[.int .i64 (T+K)] 3)));have b4:=hid (b3.out.alloc b3.out.size (.cells #[.int .i64 (T+K)] 3));have c4:=hid (Blk.new w3 #[.int .i64 (T+K)] 3);refine⟨KK.out _ b4.out,?_⟩;refine a0c (i:=17) (by kernel_rfl) (by rfl) (by rfl) ?_;refine wpList_append_own_at _ rfl _ _ 24 rfl w.heap.size 3 i0 (.int .i64 0) 1 8 Tryz.underlying24 hi hz0 hz1 hz2 rfl (by decide) u16 os.length (zs os) rfl T4.out.o2 ⟨w3.heap.size,0,none⟩ 1 1 [.int .i64 (T+K)] rfl rfl (d0w c4.out) (by simp[Value.oneCell']) (by have:=HTS.out;have:=HOS.out;unfold maxLen;omega) (by have:=HTS.out;have:=HOS.out;omega) (by exact b4.out.size) ?_;intro v2' w5 hown hgrow _ hat;have T5:=hid (T4.out.app2 hown hgrow hat);have b5:=hid (b0e T4.out.o2 b4.out hgrow);clear hown hgrow hat;go_wp2_with fail;refine⟨KK.out _ b5.out,?_⟩;refine a0Z (is:=[18,19]) (g:=0) (by kernel_rfl) rfl (KK.out _ b5.out) (by kernel_rfl) ?_
     iterate 2
      refine⟨_,rfl,?_⟩;apply Exists.intro
      refine⟨.inl ⟨by rfl,?_⟩,?_⟩
      ·(intro W' hW';obtain q1:=hW';go_simp;try (with_reducible rfl))
      (dsimp only[Act.put];try simp only[List.setIfInBounds_toArray,List.set_cons_zero,List.set_cons_succ])
     refine wpAnyH_done (by kernel_rfl) ?_ _;simp only[b0l];go_wp2_with fail;go_roundw
     case rel=>exact⟨i+1,mn,ts ++ [T],os ++ [T+K],by go_num,by omega,rfl,by omega,by rw[List.length_append,HTS.out];rfl,by rw[List.length_append,HOS.out];rfl,hD.out.snoc (by rw[HTS.out,HOS.out]) (by omega) hy3 hy4 hk3.out,T5.out,b5.out⟩
     case measure=>simp[intOf]<;>omega
    ·go_wp2_with fail;have d2:Below wr.heap.size wr ((wr.alloc (.cells #[.int .i64 T] 3)).alloc (.cells #[.int .i64 (T+K)] 3)).drew:=(((Below.refl _ _).alloc (Nat.le_refl _) _).alloc (by simp) _).drew;have T2:=hid (hT.out.below d2);have b2:=hid (hB.out.trans (d2.mono hB.out.size));have c2:=hid (show Blk ((wr.alloc (.cells #[.int .i64 T] 3)).alloc (.cells #[.int .i64 (T+K)] 3)).drew wr.heap.size #[.int .i64 T] 3 from ((Blk.new wr _ _).alloc _).drew);have e2:=hid (show Blk ((wr.alloc (.cells #[.int .i64 T] 3)).alloc (.cells #[.int .i64 (T+K)] 3)).drew (wr.heap.size+1) #[.int .i64 (T+K)] 3 from (Blk.made _ _ _ (by simp)).drew);clear d2;refine⟨KK.out _ b2.out,?_⟩;refine a0c (i:=7) (by kernel_rfl) (by rfl) (by rfl) ?_;refine wpList_append_own_at _ rfl _ _ 24 rfl w.heap.size 3 i0 (.int .i64 0) 1 8 Tryz.underlying24 hi hz0 hz1 hz2 rfl (by decide) u15 ts.length (zs ts) rfl T2.out.o1 ⟨wr.heap.size,0,none⟩ 1 1 [.int .i64 (T)] rfl rfl (d0w c2.out) (by simp[Value.oneCell']) (by have:=HTS.out;have:=HOS.out;unfold maxLen;omega) (by have:=HTS.out;have:=HOS.out;omega) (by exact b2.out.size) ?_;intro v1' w3 hown hgrow _ hat;have T3:=hid (T2.out.app1 hown hgrow hat);have b3:=hid (b0e T2.out.o1 b2.out hgrow);have e3:=hid (e2.out.grown hgrow (fun e=>by have:=lt1.out _ e;omega));clear hown hgrow hat;go_wp2_with fail;refine⟨KK.out _ b3.out,?_⟩;refine a0c (i:=17) (by kernel_rfl) (by rfl) (by rfl) ?_;refine wpList_append_own_at _ rfl _ _ 24 rfl w.heap.size 3 i0 (.int .i64 0) 1 8 Tryz.underlying24 hi hz0 hz1 hz2 rfl (by decide) u16 os.length (zs os) rfl T3.out.o2 ⟨wr.heap.size+1,0,none⟩ 1 1 [.int .i64 (T+K)] rfl rfl (d0w e3.out) (by simp[Value.oneCell']) (by have:=HTS.out;have:=HOS.out;unfold maxLen;omega) (by have:=HTS.out;have:=HOS.out;omega) (by exact b3.out.size) ?_;intro v2' w5 hown hgrow _ hat;have T5:=hid (T3.out.app2 hown hgrow hat);have b5:=hid (b0e T3.out.o2 b3.out hgrow);clear hown hgrow hat;go_wp2_with fail;refine⟨KK.out _ b5.out,?_⟩;refine a0Z (is:=[18,19]) (g:=0) (by kernel_rfl) rfl (KK.out _ b5.out) (by kernel_rfl) ?_
     iterate 2
      refine⟨_,rfl,?_⟩;apply Exists.intro
      refine⟨.inl ⟨by rfl,?_⟩,?_⟩
      ·(intro W' hW';obtain q1:=hW';go_simp;try (with_reducible rfl))
      (dsimp only[Act.put];try simp only[List.setIfInBounds_toArray,List.set_cons_zero,List.set_cons_succ])
     refine wpAnyH_done (by kernel_rfl) ?_ _;simp only[b0l];go_wp2_with fail;go_roundw
     case rel=>exact⟨i+1,mn,ts ++ [T],os ++ [T+K],by go_num,by omega,rfl,by omega,by rw[List.length_append,HTS.out];rfl,by rw[List.length_append,HOS.out];rfl,hD.out.snoc (by rw[HTS.out,HOS.out]) (by omega) hy3 hy4 hk3.out,T5.out,b5.out⟩
     case measure=>simp[intOf]<;>omega
   ·go_wp2_with fail;have d1:Below wr.heap.size wr (wr.alloc (.cells #[.int .i64 (T+K)] 3)).drew:=((Below.refl _ _).alloc (Nat.le_refl _) _).drew;have b1:=hid (hB.out.trans (d1.mono hB.out.size));clear d1;refine⟨KK.out _ b1.out,?_⟩;refine a0c (i:=6) (by kernel_rfl) (by rfl) (by rfl) ?_;go_wp2_with fail;have d2:Below wr.heap.size wr ((wr.alloc (.cells #[.int .i64 (T+K)] 3)).alloc (.cells #[.int .i64 T] 3)).drew:=(((Below.refl _ _).alloc (Nat.le_refl _) _).alloc (by simp) _).drew;have T2:=hid (hT.out.below d2);have b2:=hid (hB.out.trans (d2.mono hB.out.size));have c2:=hid (show Blk ((wr.alloc (.cells #[.int .i64 (T+K)] 3)).alloc (.cells #[.int .i64 T] 3)).drew (wr.heap.size+1) #[.int .i64 T] 3 from (Blk.made _ _ _ (by simp)).drew);have e2:=hid (show Blk ((wr.alloc (.cells #[.int .i64 (T+K)] 3)).alloc (.cells #[.int .i64 T] 3)).drew wr.heap.size #[.int .i64 (T+K)] 3 from ((Blk.new wr _ _).alloc _).drew);clear d2;refine⟨KK.out _ b2.out,?_⟩;refine a0c (i:=7) (by kernel_rfl) (by rfl) (by rfl) ?_;refine wpList_append_own_at _ rfl _ _ 24 rfl w.heap.size 3 i0 (.int .i64 0) 1 8 Tryz.underlying24 hi hz0 hz1 hz2 rfl (by decide) u15 ts.length (zs ts) rfl T2.out.o1 ⟨wr.heap.size+1,0,none⟩ 1 1 [.int .i64 (T)] rfl rfl (d0w c2.out) (by simp[Value.oneCell']) (by have:=HTS.out;have:=HOS.out;unfold maxLen;omega) (by have:=HTS.out;have:=HOS.out;omega) (by exact b2.out.size) ?_;intro v1' w3 hown hgrow _ hat;have T3:=hid (T2.out.app1 hown hgrow hat);have b3:=hid (b0e T2.out.o1 b2.out hgrow);have e3:=hid (e2.out.grown hgrow (fun e=>by have:=lt1.out _ e;omega));clear hown hgrow hat;go_wp2_with fail;refine⟨KK.out _ b3.out,?_⟩;refine a0c (i:=17) (by kernel_rfl) (by rfl) (by rfl) ?_;refine wpList_append_own_at _ rfl _ _ 24 rfl w.heap.size 3 i0 (.int .i64 0) 1 8 Tryz.underlying24 hi hz0 hz1 hz2 rfl (by decide) u16 os.length (zs os) rfl T3.out.o2 ⟨wr.heap.size,0,none⟩ 1 1 [.int .i64 (T+K)] rfl rfl (d0w e3.out) (by simp[Value.oneCell']) (by have:=HTS.out;have:=HOS.out;unfold maxLen;omega) (by have:=HTS.out;have:=HOS.out;omega) (by exact b3.out.size) ?_;intro v2' w5 hown hgrow _ hat;have T5:=hid (T3.out.app2 hown hgrow hat);have b5:=hid (b0e T3.out.o2 b3.out hgrow);clear hown hgrow hat;go_wp2_with fail;refine⟨KK.out _ b5.out,?_⟩;refine a0Z (is:=[18,19]) (g:=0) (by kernel_rfl) rfl (KK.out _ b5.out) (by kernel_rfl) ?_
    iterate 2
     refine⟨_,rfl,?_⟩;apply Exists.intro
     refine⟨.inl ⟨by rfl,?_⟩,?_⟩
     ·(intro W' hW';obtain q1:=hW';go_simp;try (with_reducible rfl))
     (dsimp only[Act.put];try simp only[List.setIfInBounds_toArray,List.set_cons_zero,List.set_cons_succ])
    refine wpAnyH_done (by kernel_rfl) ?_ _;simp only[b0l];go_wp2_with fail;go_roundw
    case rel=>exact⟨i+1,mn,ts ++ [T],os ++ [T+K],by go_num,by omega,rfl,by omega,by rw[List.length_append,HTS.out];rfl,by rw[List.length_append,HOS.out];rfl,hD.out.snoc (by rw[HTS.out,HOS.out]) (by omega) hy3 hy4 hk3.out,T5.out,b5.out⟩
    case measure=>simp[intOf]<;>omega
  ·skip
   obtain rfl:i=N:=by omega
   have q0:decide ((i:Int)<(i:Int))=false:=by simp
   obtain⟨e1,r1,rfl⟩:=a0p hT.out.o1;obtain⟨e2,r2,rfl⟩:=a0p hT.out.o2;have R1:=hid (Row.of_owns hT.out.o1);have R2:=hid (Row.of_owns hT.out.o2);have HTS:=hid hts;have HOS:=hid hos;have P1:=fun V hV hLV=>hid (PE V (.slice e1 ts.length r1) ts hV hLV)
   have P2:=fun V hV hLV=>hid (PE V (.slice e2 os.length r2) os hV hLV)
   have X1:Hid (slE ts Th s rr B≠0→(slR ts Th s rr B).length=0):=fun h=>o0a h
   have X2:Hid (slE os Th s rr B≠0→(slR os Th s rr B).length=0):=fun h=>o0a h
   have GD:=hid fun (h1:slE ts Th s rr B=0) (h2:slE os Th s rr B=0)=>t0v (mm:=mm) (same:=same) h1 h2 (by rw[hts,hos]) (by rw[hts];exact H1.out) HS.out HRR.out H6.out H7.out H5.out (by omega) hD.out
   have SZ1:=hid (l0l (c:=ts) (thr:=Th) (a:=s) (r:=rr) (n:=B));have SZ2:=hid (l0l (c:=os) (thr:=Th) (a:=s) (r:=rr) (n:=B));rw[hts]at R1 P1 ⊢;rw[hos]at R2 P2 ⊢;obtain⟨z1,hz1⟩:∃ z,slE ts Th s rr B=z:=⟨_,rfl⟩;obtain⟨z2,hz2⟩:∃ z,slE os Th s rr B=z:=⟨_,rfl⟩;obtain⟨L1,hL1⟩:∃ z,slR ts Th s rr B=z:=⟨_,rfl⟩;obtain⟨L2,hL2⟩:∃ z,slR os Th s rr B=z:=⟨_,rfl⟩;rw[hz1,hL1]at P1 X1;rw[hz2,hL2]at P2 X2;rw[hz1,hz2,hL1,hL2]at GD;rw[hL1]at SZ1;rw[hL2]at SZ2;by_cases hz:z1=0∧z2=0
   ·obtain⟨rfl,rfl⟩:=hz;obtain⟨g1,g2,g3,g4⟩:=GD.out rfl rfl;have PF:=fun V hV=>hid (n0V V s rr mm same (by have:=HS.out;omega) (by have:=HRR.out;omega) hV)
    have FS:=o0d s rr mm same;obtain⟨F,hF⟩:∃ F,o0e s rr mm same=F:=⟨_,rfl⟩;rw[g1,hF]at PF;rw[hF]at FS g3 g4;have VS:=i0G (L:=L1) (k:=a0H) (B:=10000) SZ1.out (by omega);have Q1:=fun V x (h:MRow V x L1)=>hid (j0Y V x L1 a0H h)
    have Q2:=fun V x (h:MRow V x L2)=>hid (j0Y V x L2 a0H h)
    rw[← g2]at Q2;obtain⟨Y,hY⟩:∃ Y,e0h L1 a0H=Y:=⟨_,rfl⟩;rw[hY]at Q1 Q2 VS g3 g4;have PM:=fun V=>hid (s0F V F Y (by omega) (by omega))
    have ZS:=d0i (· * ·) F Y;obtain⟨Z,hZ⟩:∃ Z,b0b (· * ·) F Y=Z:=⟨_,rfl⟩;obtain⟨ez,hez⟩:∃ K,d0b (· * ·) F Y=K:=⟨_,rfl⟩;rw[hZ]at PM ZS g3 g4;rw[hez]at PM;have B1:=fun V x y (h:MRow V x L1) (h':MRow V y L2)=>hid (l0a V x y L1 L2 F h h' (by omega) (fun q hq=>by have:=SZ1.out q hq;omega) (fun q hq=>by have:=SZ2.out q hq;omega))
    have B2:=fun V x y (h:MRow V x L2) (h':MRow V y L1)=>hid (l0a V x y L2 L1 F h h' (by omega) (fun q hq=>by have:=SZ2.out q hq;omega) (fun q hq=>by have:=SZ1.out q hq;omega))
    have bs1:=g0o F L1 L2;have bs2:=g0o F L2 L1;obtain⟨U,hU⟩:∃ U,i0y F L1 L2=U:=⟨_,rfl⟩;obtain⟨D,hD'⟩:∃ U,i0y F L2 L1=U:=⟨_,rfl⟩;rw[hU]at B1 bs1 g3;rw[hD']at B2 bs2 g4;have C1:=fun V=>hid (o0p V U Z (by omega) (by omega))
    have C2:=fun V=>hid (o0p V D Z (by omega) (by omega))
    obtain⟨ce1,hc1⟩:∃ z,cmE U Z=z:=⟨_,rfl⟩;obtain⟨ce2,hc2⟩:∃ z,cmE D Z=z:=⟨_,rfl⟩;obtain⟨cb1,hc3⟩:∃ z,cmB U Z=z:=⟨_,rfl⟩;obtain⟨cb2,hc4⟩:∃ z,cmB D Z=z:=⟨_,rfl⟩;rw[hc1,hc3]at C1;rw[hc2,hc4]at C2;rw[hc3]at g3;rw[hc4]at g4;have t1:decide (cb1≤0)=true:=decide_eq_true g3;have t2:decide (cb2≤0)=true:=decide_eq_true g4;have eLate:a0H=(⟨#[108,97,116,101]⟩:ByteArray):=rfl;rw[eLate]at Q1 Q2;obtain⟨n1,hn1⟩:∃ n,L1.length=n:=⟨_,rfl⟩;obtain⟨n2,hn2⟩:∃ n,L2.length=n:=⟨_,rfl⟩;have HN1:=hid hn1;have HN2:=hid hn2;clear hz1 hz2 hL1 hL2 hts hos hlt X1 X2 GD g1 g2 g3 g4 hF FS VS hY hZ hez ZS bs1 bs2 hU hD' hc1 hc2 hc3 hc4 eLate hn1 hn2;go_wp2_with fail;refine (P1 _ R1.out (HL.out.call hB.out)).out.mono ?_;rintro e w2 ⟨⟨x1,rfl,hx1⟩,hb2⟩;have M1:=hid hx1;obtain⟨a1,d1,rfl⟩:=s0I hx1;have y2:=hid (a0a hB.out hb2);have S2:=hid (R2.out.call hb2);rw[HN1.out]at M1 ⊢;clear hb2 hx1;go_wp2_with fail;refine (P2 _ S2.out (HL.out.call y2.out)).out.mono ?_;rintro e w3 ⟨⟨x2,rfl,hx2⟩,hb3⟩;have M2:=hid hx2;have M13:=hid (M1.out.call hb3);obtain⟨a2,d2,rfl⟩:=s0I hx2;have y3:=hid (a0a y2.out hb3);rw[HN2.out]at M2 ⊢;clear hb3 hx2;go_wp2_with fail;refine (PF _ (HL.out.call y3.out).l).out.mono ?_;rintro e w4 ⟨rfl,hb4⟩;have y4:=hid (a0a y3.out hb4);have M14:=hid (M13.out.call hb4);have M24:=hid (M2.out.call hb4);clear hb4;go_wp2_with fail;refine (Q1 _ _ M14.out).out.mono ?_;rintro e w5 ⟨rfl,rfl⟩;go_wp2_with fail;refine (PM _).out.mono ?_;rintro e w5 ⟨rfl,hb5⟩;have y5:=hid (a0a y4.out hb5);have M15:=hid (M14.out.call hb5);have M25:=hid (M24.out.call hb5);clear hb5;go_wp2_with fail;refine (B1 _ _ _ M15.out M25.out).out.mono ?_;rintro e w6 ⟨rfl,hb6⟩;have y6:=hid (a0a y5.out hb6);have M16:=hid (M15.out.call hb6);have M26:=hid (M25.out.call hb6);clear hb6;go_wp2_with fail;refine (C1 _).out.mono ?_;rintro e w7 ⟨rfl,hb7⟩;have y7:=hid (a0a y6.out hb7);have M17:=hid (M16.out.call hb7);have M27:=hid (M26.out.call hb7);clear hb7;go_wp2_with fail;refine (B2 _ _ _ M27.out M17.out).out.mono ?_;rintro e w8 ⟨rfl,hb8⟩;have y8:=hid (a0a y7.out hb8);have M18:=hid (M17.out.call hb8);have M28:=hid (M27.out.call hb8);clear hb8;go_wp2_with fail;refine (C2 _).out.mono ?_;rintro e w9 ⟨rfl,hb9⟩;have y9:=hid (a0a y8.out hb9);have M19:=hid (M18.out.call hb9);have M29:=hid (M28.out.call hb9);clear hb9;go_wp2_with fail;refine (Q1 _ _ M19.out).out.mono ?_;rintro e w10 ⟨rfl,rfl⟩;go_wp2_with fail;refine (Q2 _ _ M29.out).out.mono ?_;rintro e w10 ⟨rfl,rfl⟩;go_wp2_with fail;go_ret
    exact⟨rfl,y9.out⟩
   ·have key:(z1≠0∧L1.length=0∧(z2=0∨z2≠0∧L2.length=0))∨(z1=0∧z2≠0∧L2.length=0):=by
     by_cases h1:z1=0
     ·exact .inr ⟨h1,fun h2=>hz ⟨h1,h2⟩,X2.out fun h2=>hz ⟨h1,h2⟩⟩
     ·refine .inl ⟨h1,X1.out h1,?_⟩;by_cases h2:z2=0
      ·exact .inl h2
      ·exact .inr ⟨h2,X2.out h2⟩
    obtain⟨n1,hn1⟩:∃ n,L1.length=n:=⟨_,rfl⟩;obtain⟨n2,hn2⟩:∃ n,L2.length=n:=⟨_,rfl⟩;rw[hn1,hn2]at key;have HN1:=hid hn1;have HN2:=hid hn2;clear hz1 hz2 hL1 hL2 hts hos hlt X1 X2 GD hz hn1 hn2;rcases key with ⟨h1,rfl,rfl | ⟨h2,rfl⟩⟩ | ⟨rfl,h2,rfl⟩
    ·have q1:(z1==0)=false:=by simpa using h1
     have q2:(z1 != 0)=true:=by simpa using h1
     clear h1;go_wp2_with fail;refine (P1 _ R1.out (HL.out.call hB.out)).out.mono ?_;rintro e w2 ⟨⟨x1,rfl,hx1⟩,hb2⟩;obtain⟨a1,d1,rfl⟩:=s0I hx1;have y2:=hid (a0a hB.out hb2);have S2:=hid (R2.out.call hb2);rw[HN1.out];clear hb2 hx1;go_wp2_with fail;refine (P2 _ S2.out (HL.out.call y2.out)).out.mono ?_;rintro e w3 ⟨⟨x2,rfl,hx2⟩,hb3⟩;obtain⟨a2,d2,rfl⟩:=s0I hx2;have y3:=hid (a0a y2.out hb3);clear hb3 hx2;obtain⟨n2,hn2⟩:∃ n,L2.length=n:=⟨_,rfl⟩;rw[hn2];clear hn2;go_wp2_with fail;go_ret
     exact⟨rfl,y3.out⟩
    ·have q1:(z1==0)=false:=by simpa using h1
     have q2:(z1 != 0)=true:=by simpa using h1
     have q3:(z2==0)=false:=by simpa using h2
     have q4:(z2 != 0)=true:=by simpa using h2
     clear h1 h2;go_wp2_with fail;refine (P1 _ R1.out (HL.out.call hB.out)).out.mono ?_;rintro e w2 ⟨⟨x1,rfl,hx1⟩,hb2⟩;obtain⟨a1,d1,rfl⟩:=s0I hx1;have y2:=hid (a0a hB.out hb2);have S2:=hid (R2.out.call hb2);rw[HN1.out];clear hb2 hx1;go_wp2_with fail;refine (P2 _ S2.out (HL.out.call y2.out)).out.mono ?_;rintro e w3 ⟨⟨x2,rfl,hx2⟩,hb3⟩;obtain⟨a2,d2,rfl⟩:=s0I hx2;have y3:=hid (a0a y2.out hb3);rw[HN2.out];clear hb3 hx2;go_wp2_with fail;go_ret
     exact⟨rfl,y3.out⟩
    ·have q3:(z2==0)=false:=by simpa using h2
     have q4:(z2 != 0)=true:=by simpa using h2
     clear h2;go_wp2_with fail;refine (P1 _ R1.out (HL.out.call hB.out)).out.mono ?_;rintro e w2 ⟨⟨x1,rfl,hx1⟩,hb2⟩;obtain⟨a1,d1,rfl⟩:=s0I hx1;have y2:=hid (a0a hB.out hb2);have S2:=hid (R2.out.call hb2);clear hb2 hx1;obtain⟨n1,hn1⟩:∃ n,L1.length=n:=⟨_,rfl⟩;rw[hn1];clear hn1;go_wp2_with fail;refine (P2 _ S2.out (HL.out.call y2.out)).out.mono ?_;rintro e w3 ⟨⟨x2,rfl,hx2⟩,hb3⟩;obtain⟨a2,d2,rfl⟩:=s0I hx2;have y3:=hid (a0a y2.out hb3);rw[HN2.out];clear hb3 hx2;go_wp2_with fail;go_ret
     exact⟨rfl,y3.out⟩
theorem f0H (w:World)(v u:Value)(us cs:List Int)(same:Bool)(Th:Int)(s rr:ByteArray)(B:Int)(hv:Row w v (zs us))(hu:Row w u (zs cs))(hs:s.size≤9223372036854775807)(hrr:rr.size≤9223372036854775807)(hi1:∀ x∈us,-9223372036854775808≤x∧x≤9223372036854775807)(hi2:∀ x∈cs,-9223372036854775808≤x∧x≤9223372036854775807)(hL:LayB w):
 Calls Tryz.prog 6 #[v,u,.bool same,.int .i64 Th,.string s,.string rr,.int .i64 B] w fun e w'=>e=.returned (.bool true)∧Below w.heap.size w w':=by
 by_cases h:us.length≠0∧us.length≤3∧us.length≤cs.length∧s.size≤12∧rr.size≤12∧0≤B∧B≤5∧s≠⟨#[48]⟩∧rr≠⟨#[48]⟩
 ·obtain⟨h0,h1,h2,h3,h3r,h4,h5,h6,h7⟩:=h;exact q0J w v u us cs same Th s rr B hv hu hi1 hi2 hL h0 h1 h2 h3 h3r h4 h5 h6 h7
 have HLV:=hid (i0E w hL);obtain⟨a,c,rfl,c1,c2,-⟩:=hv.openZ;obtain⟨a',c',rfl,c1',c2',-⟩:=hu.openZ;obtain⟨N,hN⟩:∃ N,us.length=N:=⟨_,rfl⟩;obtain⟨M,hM⟩:∃ N,cs.length=N:=⟨_,rfl⟩;rw[hN]at c1 h ⊢;rw[hM]at c1' h ⊢;clear hv hu hL hN hM hi1 hi2;by_cases c0x:N=0
 ·have t0:((N:Int)==0)=true:=by rw[beq_iff_eq];omega
  clear h  c0x;go_enter Tryz.func6,Tryz.ntmps6;go_wp2_with fail;refine HLV.out.mono ?_;rintro e w1 ⟨rfl,hb1⟩;go_wp2_with fail;go_ret
  exact⟨rfl,hb1⟩
 have t0:((N:Int)==0)=false:=by rw[beq_eq_false_iff_ne];omega
 by_cases c1x:3<N
 ·have t1:decide ((3:Int)<(N:Int))=true:=decide_eq_true (by omega);clear h  c0x c1x;go_enter Tryz.func6,Tryz.ntmps6;go_wp2_with fail;refine HLV.out.mono ?_;rintro e w1 ⟨rfl,hb1⟩;go_wp2_with fail;go_ret
  exact⟨rfl,hb1⟩
 have t1:decide ((3:Int)<(N:Int))=false:=decide_eq_false (by omega);by_cases c2x:M<N
 ·have t2:decide (M<N)=true:=decide_eq_true (by omega);clear h  c0x c1x c2x;go_enter Tryz.func6,Tryz.ntmps6;go_wp2_with fail;refine HLV.out.mono ?_;rintro e w1 ⟨rfl,hb1⟩;go_wp2_with fail;go_ret
  exact⟨rfl,hb1⟩
 have t2:decide (M<N)=false:=decide_eq_false (by omega);by_cases c3x:12<s.size
 ·have t3:decide ((12:Int)<(s.size:Int))=true:=decide_eq_true (by omega);clear h  c0x c1x c2x c3x;go_enter Tryz.func6,Tryz.ntmps6;go_wp2_with fail;refine HLV.out.mono ?_;rintro e w1 ⟨rfl,hb1⟩;go_wp2_with fail;go_ret
  exact⟨rfl,hb1⟩
 have t3:decide ((12:Int)<(s.size:Int))=false:=decide_eq_false (by omega);by_cases c4x:12<rr.size
 ·have t4:decide ((12:Int)<(rr.size:Int))=true:=decide_eq_true (by omega);clear h  c0x c1x c2x c3x c4x;go_enter Tryz.func6,Tryz.ntmps6;go_wp2_with fail;refine HLV.out.mono ?_;rintro e w1 ⟨rfl,hb1⟩;go_wp2_with fail;go_ret
  exact⟨rfl,hb1⟩
 have t4:decide ((12:Int)<(rr.size:Int))=false:=decide_eq_false (by omega);by_cases c5x:B<0
 ·have t5:decide (B<0)=true:=decide_eq_true (by omega);clear h  c0x c1x c2x c3x c4x c5x;go_enter Tryz.func6,Tryz.ntmps6;go_wp2_with fail;refine HLV.out.mono ?_;rintro e w1 ⟨rfl,hb1⟩;go_wp2_with fail;go_ret
  exact⟨rfl,hb1⟩
 have t5:decide (B<0)=false:=decide_eq_false (by omega);by_cases c6x:5<B
 ·have t6:decide (5<B)=true:=decide_eq_true (by omega);clear h  c0x c1x c2x c3x c4x c5x c6x;go_enter Tryz.func6,Tryz.ntmps6;go_wp2_with fail;refine HLV.out.mono ?_;rintro e w1 ⟨rfl,hb1⟩;go_wp2_with fail;go_ret
  exact⟨rfl,hb1⟩
 have t6:decide (5<B)=false:=decide_eq_false (by omega);by_cases c7x:s=⟨#[48]⟩
 ·subst c7x;clear h t3 c0x c1x c2x c3x c4x c5x c6x hs;go_enter Tryz.func6,Tryz.ntmps6;go_wp2_with fail;refine HLV.out.mono ?_;rintro e w1 ⟨rfl,hb1⟩;go_wp2_with fail;go_ret
  exact⟨rfl,hb1⟩
 have t7:(s.toList == [48])=false:=a0J c7x;by_cases c8x:rr=⟨#[48]⟩
 ·subst c8x;clear h t4 c0x c1x c2x c3x c4x c5x c6x c7x hs hrr;go_enter Tryz.func6,Tryz.ntmps6;go_wp2_with fail;refine HLV.out.mono ?_;rintro e w1 ⟨rfl,hb1⟩;go_wp2_with fail;go_ret
  exact⟨rfl,hb1⟩
 exact absurd ⟨c0x,by omega,by omega,by omega,by omega,by omega,by omega,c7x,c8x⟩ h
end Go.Proofs.YtlmnpocifldpmaaGreatDoor
