/- Texts that the proof rests on, merged: Sd, Lasts, Tt, Tb, En, NpG, Gl1, Gl2, Gl3, E5. -/
import Derived.Test.YtfkpfpobmobnbaaGreatDoorPc7
import Derived.Deep.DeepCutAuto
import Derived.RegionTactic
import Derived.Deep.LoopGhost
import Derived.Maps.AppendAt
import Derived.RangeFuncBox
set_option linter.defProp false
set_option linter.unusedVariables false
set_option linter.unusedSimpArgs false
set_option linter.unusedSectionVars false
set_option maxRecDepth 100000
set_option maxHeartbeats 8000000
namespace Go.Proofs.YtfkpfpobmobnbaaGreatDoor
section
open Go.RowKit
open Go.Lib (decDigits nDigits)
def f0x (V:World)(x y:Nat)(hx:nDigits x<=4000)(hy:nDigits y<=4000)(h:nDigits (x+y)<=4000)(hL:Lay V):Calls Tryz.prog 211 #[.string (a0g x),.string (a0g y)] V fun e w'=>e=.returned (.string (a0g (x+y)))/\Below V.heap.size V w':=by
 have h2:=a1u V (a0g x) (a0g y) (a0N hx) (a0N hy) hL;rwa[d0c hx hy h]at h2
def g0U (V:World)(x y:Nat)(hx:nDigits x<=4000)(hy:nDigits y<=4000)(h:nDigits (x*y)<=4000)(hL:Lay V):Calls Tryz.prog 212 #[.string (a0g x),.string (a0g y)] V fun e w'=>e=.returned (.string (a0g (x*y)))/\Below V.heap.size V w':=by
 have h2:=x0T V (a0g x) (a0g y) (a0N hx) (a0N hy) hL;rwa[d0c hx hy h]at h2
def b1E (V:World)(x y:Nat)(hx:nDigits x<=4000)(hy:nDigits y<=4000):Calls Tryz.prog 274 #[.string (a0g x),.string (a0g y)] V fun e w'=>e=.returned (.int .i64 (b0e x y))/\Below V.heap.size V w':=by
 have h2:=q0T V (a0g x) (a0g y) (a0N hx) (a0N hy);rwa[j0w hx hy]at h2
def x0h (V:World)(x y:Nat)(hx:nDigits x<=4000)(hy:nDigits y<=4000)(h:y<=x)(hL:Lay V):Calls Tryz.prog 214 #[.string (a0g x),.string (a0g y)] V fun e w'=>e=.returned (.tuple #[.string (a0g (x-y)),.int .i64 0])/\Below V.heap.size V w':=by
 have h2:=b1L V (a0g x) (a0g y) (a0N hx) (a0N hy) hL;have h3:¬ 4000<nDigits (x-y):=by have:=a0r (show x-y<=x by omega);omega
 have e1:i0N (w0s (bN (a0g x)) (bN (a0g y))) (a0g x) (a0g y)=a0g (x-y):=by
  rw[b0y,b0y,i0N,U0 ⟨b0D hx,b0D hy⟩,w0s,Q0 (by omega),m0B,Q0 h3]
 have e2:g0T (w0r (bN (a0g x)) (bN (a0g y))) (a0g x) (a0g y)=0:=by
  rw[b0y,b0y,g0T,U0 (b0D hx),U0 (b0D hy),w0r,Q0 (by omega),k0c,Q0 h3]
 rwa[e1,e2]at h2
def o0u (n:Nat)(h:n<=1000000)(W:World):(Instr.makeSlice 261 (.int .i64 (n:Int)) (.int .i64 (n:Int))).run Tryz.prog W=.ok (.slice (some ⟨W.heap.size,0,none⟩) n n) (W.alloc (.cells (madeCells #[.bool false] n) 4)):=
 Lu (P:=Tryz.prog) 261 4 (.bool false) 1 Tryz.underlying261 (by kernel_rfl) rfl .i64 .i64 n (by omega) (by omega) W
def h0Y (f:Nat->Bool)(n:Nat):madeCells #[.bool false] (n+1)=(h0u f n 0).toArray:=by
 rw[p0x];apply Fk
 intro i;unfold madeCells;by_cases hi:i<n+1<;>simp[hi,Nn]
def c1b (w:World)(H n:Nat)(v u:Value)(f g:List Value):Prop:=∃ g1 g2,v=.slice (some ⟨g1,0,none⟩) (n+1) (n+1)/\u=.slice (some ⟨g2,0,none⟩) (n+1) (n+1)/\g1≠g2/\H<=g1/\H<=g2/\Blk w g1 f.toArray 4/\Blk w g2 g.toArray 4
def v0c (w:World)(n N D:Nat)(e:Ending)(w':World):Prop:=∃ v u,e=.returned (.tuple #[v,u])/\c1b w' w.heap.size n v u (f0J (a0C N D) n) (f0J (a0i N D) n)
def c0q:((⟨#[48]⟩:ByteArray).toList == [48])=true:=by
 rw[Cw];rfl
def r0E (w:World)(a:ByteArray)(n N D:Nat)(ha:a.size<=100000)(he:gPE a=0)(hn:n<=1000)(hN:bN (cW a)=N)(hD:bN (qD a)=D)(hND:N<D)(hL:Lay w):
 Calls Tryz.prog 275 #[.string a,.int .i64 n] w fun e w'=>v0c w n N D e w'/\Below w.heap.size w w':=by
 have HR:=hid (d0u w a ha hL);obtain⟨c1,c2,c3,c4,-⟩:=v0X (b0S he).1;rw[U0 he,U0 he,he]at HR;rw[c1,c2,hN,hD]at HR;rw[hN]at c3;rw[hD]at c4;have dN:∀ x,x<10 ^ (eN+1)->nDigits x<=4000:=fun x h=>b0a h (by omega) (by unfold eN;omega)
 have hM:=fun W=>hid (o0u (n+1) (by omega) W)
 obtain⟨HL,HLL,HND,DN,C4,HN⟩:=kx hL hL.lt hND dN c4 hn;have wn:IntKind.i64.wrap ((n:Int)+1)=((n+1:Nat):Int):=by rw[O0 _ ⟨by omega,by omega⟩];omega
 obtain⟨sN,hsN⟩:=gn (a0g N);obtain⟨sD,hsD⟩:=gn (a0g D);rw[hsN,hsD]at HR;obtain⟨HSN,HSD⟩:=zg hsN hsD;clear ha he hn hN hD hND hL c1 c2 c3 c4 dN hsN hsD;go_enter Tryz.func275,Tryz.ntmps275;go_wp2_with fail;refine HR.out.mono ?_;rintro e w1 ⟨rfl,hb1⟩;have B1:=hid hb1;clear hb1 HR
 go_upto_region 2 with fail
 go_cut [4,5] (fun s4 s5 wx=>c1b wx w.heap.size n s4 s5 (h0u (a0C N D) n 0) (h0u (a0i N D) n 0)/\Below w.heap.size w wx)
 case first=>
  have X:=fun (g1 g2:Nat) (W:World) (h1:Blk W g1 (madeCells #[.bool false] (n+1)) 4) (h2:Blk W g2 (madeCells #[.bool false] (n+1)) 4) (h3:g1≠g2) (h4:w.heap.size<=g1) (h5:w.heap.size<=g2)=>hid (show c1b W w.heap.size n (.slice (some ⟨g1,0,none⟩) (n+1) (n+1)) (.slice (some ⟨g2,0,none⟩) (n+1) (n+1)) (h0u (a0C N D) n 0) (h0u (a0i N D) n 0) from⟨g1,g2,rfl,rfl,h3,h4,h5,by rw[<- h0Y];exact h1,by rw[<- h0Y];exact h2⟩)
  have M1:∀ W,(Instr.makeSlice 261 (.int .i64 ((n:Int)+1)) (.int .i64 ((n:Int)+1))).run Tryz.prog W=.ok (.slice (some ⟨W.heap.size,0,none⟩) (n+1) (n+1)) (W.alloc (.cells (madeCells #[.bool false] (n+1)) 4)):=fun W=>(hM W).out
  clear hM
  go_region
  all_goals
   go_wp2_with fail
   go_meet
   first
    | exact⟨(X w1.heap.size (w1.heap.size+1) _ ((Blk.new w1 _ _).alloc _) (Blk.made _ _ _ (by simp)) (by omega) B1.out.size (by have:=B1.out.size;omega)).out,(((B1.out.alloc B1.out.size _).alloc (by have:=B1.out.size;simp;omega) _)).drew⟩
    | exact⟨(X (w1.heap.size+1) w1.heap.size _ (Blk.made _ _ _ (by simp)) ((Blk.new w1 _ _).alloc _) (by omega) (by have:=B1.out.size;omega) B1.out.size).out,(((B1.out.alloc B1.out.size _).alloc (by have:=B1.out.size;simp;omega) _)).drew⟩
 case rest=>
  obtain⟨⟨g1,g2,rfl,rfl,h3,h4,h5,hb1,hb2⟩,hB⟩:=hcut;obtain⟨G1,G2,B2,H3,H4,H5⟩:=kx hb1 hb2 hB h3 h4 h5;have k0:wc.cell? ⟨g2,0,none⟩=some (.bool false):=by
   refine (hb2.cell 0).trans ?_;rw[K6,b0i (J5 _)];simp
  have k1:=hb2.free 0;have z1:(0:Int)<(n:Int)+1:=by omega
  obtain⟨z,hz⟩:=gn ((sN.toList == [48]));have HZ:Hid (z=decide (N=0)):=by
   show z=decide (N=0)
   rw[<- hz];by_cases h0:N=0
   .rw[<- HSN.out,h0,a0q,c0q];simp
   .rw[<- HSN.out,a0I (l:=[48]) (by rw[<- a0q];exact b0M h0)];simp[h0]
  clear hb1 hb2 hB hM h3 h4 h5;go_wp2_with fail;obtain⟨W3,hW3⟩:=gn (wc.setCell ⟨g2,0,none⟩ (.bool z));have G3:Blk W3 g1 (h0u (a0C N D) n 1).toArray 4:=by
   rw[<- hW3,j0P (f:=a0C N D) (j:=0) rfl];exact G1.out.other (fun e=>H3.out e.symm) _
  have G4:Blk W3 g2 (h0u (a0i N D) n 1).toArray 4:=by
   have h:=G2.out.set 0 (.bool z);rw[hW3,Bj,HZ.out]at h;have h2:=f0P (f:=a0i N D) (n:=n) (j:=0) (J5 _);rw[<- h2];exact h
  have B3:Below w.heap.size w W3:=by rw[<- hW3];exact B2.out.setCell H5.out _
  rw[hW3];obtain⟨HG3,HG4,HB3⟩:=zc G3 G4 B3;have e0:Hid ((!z)=(sdx N D 0).2):=by show (!z)=_;rw[HZ.out];simp[sdx]
  clear k0 k1 hz z1 G3 G4 B3 hW3 G1 G2 B2 B1
  go_loopw [9,10,11] (fun o x j wr=>∃ i:Nat,j=.int .i64 ((i+1:Nat):Int)/\i<=n/\o=.bool (sdx N D i).2/\x=.string (a0g (sdx N D i).1)/\Hid (Blk wr g1 (h0u (a0C N D) n (i+1)).toArray 4)/\Hid (Blk wr g2 (h0u (a0i N D) n (i+1)).toArray 4)/\Hid (Below w.heap.size w wr)) (fun o x j wr=>n+1-(intOf j).toNat)
  case atStart=>exact⟨0,rfl,J5 _,by rw[e0.out],by rw[HSN.out.symm];rfl,HG3.out,HG4.out,HB3.out⟩
  case round=>
   obtain⟨i,rfl,hi,rfl,rfl,hg1,hg2,hB⟩:=hrel;cases ho:(sdx N D i).2
   .have GG1:Blk wr g1 (f0J (a0C N D) n).toArray 4:=by
     rw[<- e0t (a0C N D) n (j:=n+1) (by omega),j0Q (j:=i+1) (fun k hk=>g0W ho k (by omega)) (n+1) (by omega)];exact hg1.out
    have GG2:Blk wr g2 (f0J (a0i N D) n).toArray 4:=by
     rw[<- e0t (a0i N D) n (j:=n+1) (by omega),j0Q (j:=i+1) (fun k hk=>e0Y ho k (by omega)) (n+1) (by omega)];exact hg2.out
    obtain⟨GG1,GG2⟩:=zg GG1 GG2;clear ho hi;go_wp2_with fail
    all_goals
     go_ret2
     exact⟨⟨_,_,rfl,⟨g1,g2,rfl,rfl,H3.out,H4.out,H5.out,GG1.out,GG2.out⟩⟩,hB.out⟩
   .by_cases hlt:i+1<=n
    .obtain⟨X,hX⟩:=gn ((sdx N D i).1);have hXD:X<D:=hX ▸ v0m HND.out i;have hs:sdx N D (i+1)=if D<=2*X then (2*X-D,decide (2*X≠D)) else (2*X,true):=by rw[sdx,U0 ho,hX]
     have h1:a0C N D (i+1)=decide (D<=2*X):=by rw[a0C,ho,hX];rfl
     have h0:a0i N D (i+1)=decide (2*X<=D):=by rw[a0i,ho,hX];rfl
     have q10:=C4.out;have d1:nDigits X<=4000:=DN.out X (by omega);have d2:nDigits (X+X)<=4000:=DN.out _ (by omega);have d3:nDigits D<=4000:=DN.out _ (by omega);have HPL:=fun V hV=>hid (f0x V X X d1 d1 d2 hV)
     have HCM:=fun V=>hid (b1E V (X+X) D d2 d3)
     rw[HSD.out]at HCM;rw[hX];have k1:wr.cell? ⟨g1,i+1,none⟩=some (.bool false):=by
      refine (hg1.out.cell (i+1)).trans ?_;rw[K6,b0i hlt];simp
     have f1:((i+1:Nat):Int)<((n+1:Nat):Int):=by omega
     have f3:((i+1:Nat):Int)<=1000:=by have:=HN.out;omega
     have HLT:=hid hlt;rcases Gd (X+X) D with hc | hc | hc
     .rw[b0H hc]at HCM;obtain⟨HS,T1,T0,HZ0⟩:=zd (show sdx N D (i+1)=(X+X,true) from by rw[hs,Q0 (by omega),Nr]) (j0P (n:=n) (show a0C N D (i+1)=false from by rw[h1];simp;omega)) (f0P (f:=a0i N D) hlt) (show a0i N D (i+1)=true from by rw[h0];simp;omega);clear hc hs h1 h0 q10 d1 d2 d3 hX hXD ho hi;go_wp2_with fail;refine (HPL _ (HL.out.below hB.out HLL.out)).out.mono ?_;rintro e w5 ⟨rfl,hb5⟩;obtain⟨G15,G25,B5⟩:=zc (hg1.out.call hb5) (hg2.out.call hb5) (hB.out.trans (hb5.mono hB.out.size));clear hb5;go_wp2_with fail;refine (HCM _).out.mono ?_;rintro e w6 ⟨rfl,hb6⟩;obtain⟨G16,G26,B6⟩:=zc (G15.out.call hb6) (G25.out.call hb6) (B5.out.trans (hb6.mono B5.out.size));have m1:w6.cell? ⟨g1,i+1,none⟩=some (.bool false):=by
       refine (G16.out.cell (i+1)).trans ?_;rw[K6,b0i hlt];simp
      have m2:w6.cell? ⟨g2,i+1,none⟩=some (.bool false):=by
       refine (G26.out.cell (i+1)).trans ?_;rw[K6,b0i hlt];simp
      have m4:=G26.out.free (i+1);clear hb6 hlt k1;go_wp2_with fail;go_roundw
      case rel=>
       refine⟨i+1,by go_num,HLT.out,by rw[HS.out],by rw[HS.out],?_,?_,B6.out.setCell H5.out _⟩
       .show Blk _ _ _ _
        rw[T1.out];exact G16.out.other (fun e=>H3.out e.symm) _
       .show Blk _ _ _ _
        rw[<- T0.out,HZ0.out];have h:=G26.out.set (i+1) (.bool true);rw[Bj]at h;exact h
      case measure=>simp[intOf]<;>(have:=HLT.out;omega)
     focus
      rw[show b0e (X+X) D=0 from by rw[hc,c0K]]at HCM;have hle:D<=X+X:=by omega
      obtain⟨HS,HZ0⟩:=zg (show sdx N D (i+1)=(X+X-D,false) from by rw[hs,U0 (by omega),Nr];simp;omega) (show a0i N D (i+1)=true from by rw[h0];simp;omega)
     rotate_left
     focus
      rw[c0j hc]at HCM;have hle:D<=X+X:=by omega
      obtain⟨HS,HZ0⟩:=zg (show sdx N D (i+1)=(X+X-D,true) from by rw[hs,U0 (by omega),Nr];simp;omega) (show a0i N D (i+1)=false from by rw[h0];simp;omega)
     all_goals
      have HSU:=fun V hV=>hid (x0h V (X+X) D d2 d3 hle hV)
      rw[HSD.out]at HSU;obtain⟨T1,HZ1,T0⟩:=zc (f0P (f:=a0C N D) hlt) (show a0C N D (i+1)=true from by rw[h1];simp;omega) (f0P (f:=a0i N D) hlt);clear hc hs h1 h0 q10 d1 d2 d3 hX hXD ho hi hle;go_wp2_with fail;refine (HPL _ (HL.out.below hB.out HLL.out)).out.mono ?_;rintro e w5 ⟨rfl,hb5⟩;obtain⟨G15,G25,B5⟩:=zc (hg1.out.call hb5) (hg2.out.call hb5) (hB.out.trans (hb5.mono hB.out.size));clear hb5;go_wp2_with fail;refine (HCM _).out.mono ?_;rintro e w6 ⟨rfl,hb6⟩;obtain⟨G16,G26,B6⟩:=zc (G15.out.call hb6) (G25.out.call hb6) (B5.out.trans (hb6.mono B5.out.size));have m1:w6.cell? ⟨g1,i+1,none⟩=some (.bool false):=by
       refine (G16.out.cell (i+1)).trans ?_;rw[K6,b0i hlt];simp
      have m2:w6.cell? ⟨g2,i+1,none⟩=some (.bool false):=by
       refine (G26.out.cell (i+1)).trans ?_;rw[K6,b0i hlt];simp
      have m4:=G26.out.free (i+1);clear hb6 hlt k1;go_wp2_with fail;refine (HSU _ (HL.out.below B6.out HLL.out)).out.mono ?_;rintro e w7 ⟨rfl,hb7⟩;obtain⟨G17,G27,B7⟩:=zc (G16.out.call hb7) (G26.out.call hb7) (B6.out.trans (hb7.mono B6.out.size));have n1:=(hb7.cell (a0e m1)).trans m1;have n3:=G17.out.free (i+1);have n2:(w7.setCell ⟨g1,i+1,none⟩ (.bool true)).cell? ⟨g2,i+1,none⟩=some (.bool false):=((G27.out.other (fun e=>H3.out e) (.bool true)).cell (i+1)).trans (by rw[K6,b0i HLT.out];simp);have n4:(w7.setCell ⟨g1,i+1,none⟩ (.bool true)).frozen? ⟨g2,i+1,none⟩=false:=(G27.out.other (a:=⟨g1,i+1,none⟩) (fun e=>H3.out e) (.bool true)).free (i+1);clear hb7 m1 m2 m4;go_wp2_with fail;go_roundw
      case rel=>
       refine⟨i+1,by go_num,HLT.out,by rw[HS.out],by rw[HS.out],?_,?_,((B7.out.setCell H4.out _).setCell H5.out _)⟩
       .show Blk _ _ _ _
        rw[<- T1.out,HZ1.out,<- Bj];exact (G17.out.set (i+1) (.bool true)).other (fun e=>H3.out e.symm) _
       .show Blk _ _ _ _
        rw[<- T0.out,HZ0.out,<- Bj];exact (G27.out.other (a:=⟨g1,i+1,none⟩) (fun e=>H3.out e) (.bool true)).set (i+1) _
      case measure=>simp[intOf]<;>(have:=HLT.out;omega)
    .have e1:i=n:=by omega
     subst e1;have GG1:Blk wr g1 (f0J (a0C N D) i).toArray 4:=by
      rw[<- e0t (a0C N D) i (j:=i+1) (by omega)];exact hg1.out
     have GG2:Blk wr g2 (f0J (a0i N D) i).toArray 4:=by
      rw[<- e0t (a0i N D) i (j:=i+1) (by omega)];exact hg2.out
     obtain⟨GG1,GG2⟩:=zg GG1 GG2;clear ho hi hlt;go_wp2_with fail;go_ret2
     exact⟨⟨_,_,rfl,⟨g1,g2,rfl,rfl,H3.out,H4.out,H5.out,GG1.out,GG2.out⟩⟩,hB.out⟩
end
section
open Go.RowKit
variable {P : Program} {Q : Exit -> Act -> World -> Prop}
def c1f (l:List Oper):List (Nat×Nat):=
 (List.range l.length).reverse.flatMap fun j=>match l[j]? with | some o=>o.after.toList.map fun e=>(e.on,j) | none=>[]
def a1l (l:List Oper)(k n:Nat):Bool:=h0c l [] (c1f l) k n
theorem b0b {id:Nat}{a:Act}{w:World}{l:List Oper}(n k:Nat)(is:List Nat)(g:Nat)(S:World->Prop)(hm:P.follows .mixedOrders=true)(hk:n+k=l.length)(hlast:a1l l k n=true)(hsel:Region.noSelect (l.take n).toArray=true)(hg:g+is.length=(l.take n).toArray.size)(hB:h0y .any (l.take n).toArray is (Array.replicate (l.take n).toArray.size false)=true)(hS:S w.drew)
 (h:d0j P (l.take n) S (fun a'=>wpAnyH P .any (l.take n).toArray (a0Z (b0K P l.toArray Q (l.drop n))) S g (h0v is (Array.replicate (l.take n).toArray.size false)) a' w.drew) is a):(Code.region id l.toArray true).wp P Q a w:=by
 refine wp_region_any hm ?_;have h2:=c0g (P:=P) (md:=.any) (Q:=b0K P l.toArray Q (l.drop n)) (S:=S) hsel (g:=g) hS is (Array.replicate (l.take n).toArray.size false) a hB h;rw[hg]at h2;have h3:=f0t l [] (c1f l) k n _ _ hk hlast (by simp) (fun j o _ hj=>by simp[Array.getD]at hj) (by simp) (e0G _ _ _ _ (Hy (S:=S) _ _ _ _ h2));rw[show (l.take n).toArray.size=n by simp;omega]at h3;rw[show l.toArray.size=n+k by simp[hk]];rwa[show Array.replicate n false++Array.replicate k false=Array.replicate (n+k) false by simp]at h3
end
section
open Go.RowKit
open Go.Lib (decDigits nDigits)
def NRowT (w:World)(g:Nat)(l:List Nat):Prop:=Blk w g (s0L l).toArray 23
theorem NRowT.cell {w:World}{g:Nat}{l:List Nat}(h:NRowT w g l){i:Nat}(hi:i<l.length):w.cell? ⟨g,i,none⟩=some (.string (a0g (l.getD i 0))):=by
 refine (Blk.cell h i).trans ?_;rw[K6,t0S hi]
theorem NRowT.free {w:World}{g:Nat}{l:List Nat}(h:NRowT w g l)(i:Nat):w.frozen? ⟨g,i,none⟩=false:=Blk.free h i
theorem NRowT.set {w:World}{g:Nat}{l:List Nat}(h:NRowT w g l)(i x:Nat):NRowT (w.setCell ⟨g,i,none⟩ (.string (a0g x))) g (l.set i x):=by
 have:=Blk.set h i (.string (a0g x));rw[Bj,t0R]at this;exact this
theorem NRowT.call {w w':World}{g:Nat}{l:List Nat}(h:NRowT w g l)(hb:Below w.heap.size w w'):NRowT w' g l:=Blk.call h hb
theorem NRowT.other {w:World}{g:Nat}{l:List Nat}(h:NRowT w g l){a:Addr}(ha:a.block≠g)(v:Value):NRowT (w.setCell a v) g l:=Blk.other h ha v
theorem NRowT.zeros {w:World}{g n:Nat}(h:Blk w g (b0T (List.replicate n ⟨#[48]⟩)).toArray 23):NRowT w g (List.replicate n 0):=by
 have e:s0L (List.replicate n 0)=b0T (List.replicate n ⟨#[48]⟩):=by
  unfold s0L b0T;rw[Ng,Ng,a0q]
 unfold NRowT;rw[e];exact h
def b1d (w:World)(n N D:Nat)(e:Ending)(w':World):Prop:=∃ g,e=.returned (.slice (some ⟨g,0,none⟩) (n+1) (n+1))/\w.heap.size<=g/\NRowT w' g (b0L (a0C N D) (a0i N D) n (n+1)).2
def u0u (w:World)(a:ByteArray)(n N D:Nat)(ha:a.size<=100000)(he:gPE a=0)(hn:n<=1000)(hN:bN (cW a)=N)(hD:bN (qD a)=D)(hND:N<D)(hL:Lay w):
 Calls Tryz.prog 210 #[.string a,.int .i64 n] w fun e w'=>b1d w n N D e w'/\Below w.heap.size w w':=by
 have HS:=hid (r0E w a n N D ha he hn hN hD hND hL);have HR:=fun V g h=>hid (f0X V g (n+1) ⟨#[48]⟩ (by omega) (by omega) h)
 obtain⟨HL,HLL,HN⟩:=zc hL hL.lt hn;have wn:IntKind.i64.wrap ((n:Int)+1)=((n+1:Nat):Int):=by rw[O0 _ ⟨by omega,by omega⟩];omega
 have h00:=hid (show a0C N D 0=false from rfl);obtain⟨os,hos⟩:=gn (a0C N D);obtain⟨zs,hzs⟩:=gn (a0i N D);obtain⟨HOS,HZS⟩:=zg hos hzs;rw[hos]at h00;clear ha he hn hN hD hND hL hos hzs;go_enter Tryz.func210,Tryz.ntmps210;go_wp2_with fail;refine HS.out.mono ?_;rintro e w1 ⟨⟨v1,v2,rfl,⟨g1,g2,rfl,rfl,h3,h4,h5,hg1,hg2⟩⟩,hb1⟩;rw[HOS.out]at hg1;rw[HZS.out]at hg2;obtain⟨G1,G2,B1⟩:=zc hg1 hg2 hb1;clear hg1 hg2 hb1 h3 h4 h5 HS;go_wp2_with fail;refine (HR _ _ ((Blk.new w1 _ _).cell 0)).out.mono ?_;rintro e w2 ⟨rfl,hg7,hb2⟩;obtain⟨g7,h7⟩:=gn ((w1.alloc (.cells #[.string ⟨#[48]⟩] 23)).heap.size);rw[h7]at hg7 |-;have R7:=hid (NRowT.zeros hg7);have a1:=(J3 w1.heap.size w1).alloc nr (.cells #[.string ⟨#[48]⟩] 23);obtain⟨b2,K7⟩:=zg (a0a a1 hb2) (show w1.heap.size<g7 by rw[<- h7];simp);obtain⟨B2,G12,G22,L7⟩:=zd (B1.out.trans (b2.out.mono B1.out.size)) (G1.out.call b2.out) (G2.out.call b2.out) (show g7<w2.heap.size from Blk.lt hg7);clear hg7 hb2 a1 h7;go_wp2_with fail;refine (HR _ _ ((Blk.new w2 _ _).cell 0)).out.mono ?_;rintro e w3 ⟨rfl,hg8,hb3⟩;obtain⟨g8,h8⟩:=gn ((w2.alloc (.cells #[.string ⟨#[48]⟩] 23)).heap.size);rw[h8]at hg8 |-;have R8:=hid (NRowT.zeros hg8);have a2:=(J3 w2.heap.size w2).alloc nr (.cells #[.string ⟨#[48]⟩] 23);obtain⟨b3,K8⟩:=zg (a0a a2 hb3) (show w2.heap.size<g8 by rw[<- h8];simp);obtain⟨B3,G13,G23,R73,N1,N2,zw1⟩:=kq (B2.out.trans (b3.out.mono B2.out.size)) (G12.out.call b3.out) (G22.out.call b3.out) (R7.out.call b3.out) (show g1<w1.heap.size from Blk.lt G1.out) (show g2<w1.heap.size from Blk.lt G2.out) B1.out.size;clear hg8 hb3 a2 h8 HR;have k0:w3.cell? ⟨g7,0,none⟩=some (.string ⟨#[48]⟩):=by
  refine (R73.out.cell (i:=0) (by simp)).trans ?_;rw[<- a0q];simp[J2]
 have k1:=R73.out.free 0;have z1:(0:Int)<(n:Int)+1:=by omega
 go_wp2_with fail;have hne:g7≠g8:=by have:=L7.out;have:=K8.out;omega
 obtain⟨W3,hW3⟩:=gn (w3.setCell ⟨g7,0,none⟩ (.string ⟨#[49]⟩));have S7:NRowT W3 g7 (b0L os zs n 0).1:=by
  rw[<- hW3,<- c0a];have h:=R73.out.set 0 1;rw[show (List.replicate (n+1) 0).set 0 1=1::List.replicate n 0 by rw[Gg];rfl]at h;exact h
 have S8:NRowT W3 g8 (b0L os zs n 0).2:=by rw[<- hW3];exact R8.out.other hne _
 have S1:Blk W3 g1 (f0J os n).toArray 4:=by rw[<- hW3];exact G13.out.other (by have:=K7.out;have:=N1.out;simp;omega) _
 have S2:Blk W3 g2 (f0J zs n).toArray 4:=by rw[<- hW3];exact G23.out.other (by have:=K7.out;have:=N2.out;simp;omega) _
 have SB:Below w.heap.size w W3:=by rw[<- hW3];exact B3.out.setCell (by have:=K7.out;have:=zw1.out;simp;omega) _
 rw[hW3];obtain⟨T7,T8,T1,T2,TBl,NE,Q7,Q8,M17,M18,M27,M28⟩:=kg S7 S8 S1 S2 SB hne (show w.heap.size<=g7 by have:=K7.out;have:=zw1.out;omega) (show w.heap.size<=g8 by have:=K7.out;have:=K8.out;have:=L7.out;have:=zw1.out;omega) (show g1≠g7 by have:=K7.out;have:=N1.out;omega) (show g1≠g8 by have:=K7.out;have:=K8.out;have:=L7.out;have:=N1.out;omega) (show g2≠g7 by have:=K7.out;have:=N2.out;omega) (show g2≠g8 by have:=K7.out;have:=K8.out;have:=L7.out;have:=N2.out;omega);clear k0 k1 z1 S7 S8 S1 S2 SB hne hW3 R73 R8 G13 G23 B3 b3 R7 G12 G22 B2 b2 G1 G2 B1 K7 K8 L7 zw1 N1 N2
 go_loopw [29] (fun ii wr=>∃ i:Nat,ii=.int .i64 (i:Nat)/\i<=n+1/\Hid (NRowT wr g7 (b0L os zs n i).1)/\Hid (NRowT wr g8 (b0L os zs n i).2)/\Hid (Blk wr g1 (f0J os n).toArray 4)/\Hid (Blk wr g2 (f0J zs n).toArray 4)/\Hid (Below w.heap.size w wr)) (fun ii wr=>n+1-(intOf ii).toNat)
 case atStart=>exact⟨0,rfl,J5 _,T7.out,T8.out,T1.out,T2.out,TBl.out⟩
 case round=>
  obtain⟨i,rfl,hi,hg7,hg8,hg1,hg2,hB⟩:=hrel;by_cases hlt:i<n+1
  .have q0:decide ((i:Int)<((n+1:Nat):Int))=true:=by simp;omega
   have f0:(0:Int)<=(i:Int):=by omega
   have f1:(i:Int)<((n+1:Nat):Int):=by omega
   have f2:(i:Int)<=1000:=by have:=HN.out;omega
   obtain⟨IL,TBI⟩:=zg hlt (TB.outer (os:=os) (zs:=zs) h00.out n i hi);clear hi hlt;go_wp2_with fail;obtain⟨x,hx⟩:=gn ((b0L os zs n i).1.getD i 0);obtain⟨wo,rfl⟩:∃ wo:World,wo=wr:=⟨_,rfl⟩;by_cases hx0:x=0
   focus
    have k0:wo.cell? ⟨g7,i,none⟩=some (.string (a0g x)):=by rw[<- hx];exact hg7.out.cell (by rw[TBI.out.l1];exact IL.out)
    have q1:((a0g x).toList == [48])=true:=by rw[hx0,a0q];exact c0q
    have hnext:=hid (show b0L os zs n (i+1)=b0L os zs n i from by rw[b0L,U0 (by rw[hx];exact hx0)]);obtain⟨sx,hsx⟩:=gn (a0g x);rw[hsx]at k0 q1;clear hx hx0 hsx
    go_loopw [10] (fun jj wq=>jj=.int .i64 0/\wq=wo) (fun jj wq=>0)
    case atStart=>exact⟨rfl,rfl⟩
    case' round=>
     obtain⟨rfl,rfl⟩:=hrel
   rotate_left
   focus
    have q1:((a0g x).toList == [48])=false:=a0I (l:=[48]) (by rw[<- a0q];exact b0M hx0);have hnext:=hid (show b0L os zs n (i+1)=tIn os zs i (n+1-i) (b0L os zs n i) from by rw[b0L,Q0 (by rw[hx];exact hx0)]);obtain⟨s0,hs0⟩:=gn (b0L os zs n i);rw[hs0]at hx hg7 hg8 hnext TBI;have HX:=hid hx;obtain⟨sx,hsx⟩:=gn (a0g x);rw[hsx]at q1;have HSX:=hid hsx;clear hx hx0 hsx hs0;have d30:decide ((i:Int)<(n:Int)+1)=true:=by have:=IL.out;simp;omega
    rw[d30];clear d30
    go_loopw [10] (fun jj wq=>∃ j:Nat,jj=.int .i64 (j:Nat)/\i+j<=n+1/\Hid (NRowT wq g7 (tIn os zs i j s0).1)/\Hid (NRowT wq g8 (tIn os zs i j s0).2)/\Hid (Blk wq g1 (f0J os n).toArray 4)/\Hid (Blk wq g2 (f0J zs n).toArray 4)/\Hid (Below w.heap.size w wq)) (fun jj wq=>n+1-(intOf jj).toNat)
    case atStart=>exact⟨0,rfl,by have:=IL.out;omega,hg7,hg8,hg1,hg2,hB⟩
    case' round=>
     clear hg7 hg8 hg1 hg2 hB;obtain⟨j,rfl,hj,hg7,hg8,hg1,hg2,hB⟩:=hrel;have TBJ:=hid (TB.inner (os:=os) (zs:=zs) h00.out TBI.out j hj);have k0:wr.cell? ⟨g7,i,none⟩=some (.string sx):=by
      refine (hg7.out.cell (by rw[TBJ.out.1.l1];exact IL.out)).trans ?_;rw[TBJ.out.2,HX.out,HSX.out]
     by_cases hlt:i+j<=n
     .have q2:decide ((i:Int)+(j:Int)<=(n:Int))=true:=by simp;omega
      have f5:(0:Int)<=(j:Int):=by omega
      have f6:(j:Int)<((n+1:Nat):Int):=by omega
      have f7:(j:Int)<=1000:=by have:=HN.out;omega
      have f8:(i:Int)+(j:Int)<((n+1:Nat):Int):=by omega
      have f9:(i:Int)+(j:Int)<(n:Int)+1:=by omega
      have f10:(0:Int)<=(i:Int)+(j:Int):=by omega
      have c1:wr.cell? ⟨g1,j,none⟩=some (.bool (os j)):=(hg1.out.cell j).trans (by rw[K6,d0S (by omega)]);have c2:wr.cell? ⟨g2,j,none⟩=some (.bool (zs j)):=(hg2.out.cell j).trans (by rw[K6,d0S (by omega)]);have HLT:=hid hlt;obtain⟨zj,hzj⟩:=gn (zs j);obtain⟨oj,hoj⟩:=gn (os j);rw[hoj]at c1;rw[hzj]at c2;obtain⟨HZJ,HOJ⟩:=zg hzj hoj;clear hlt hj hzj hoj;obtain⟨y1,hy1⟩:=gn ((tIn os zs i j s0).2.getD (i+j) 0);obtain⟨y2,hy2⟩:=gn ((tIn os zs i j s0).1.getD (i+j) 0);have hxb:x<=2 ^ i:=by rw[<- HX.out];exact TBI.out.src
      have hy1b:y1<=2 ^ i:=hy1 ▸ TBJ.out.1.hi2 _ nr;have hy2b:y2<=2 ^ i:=hy2 ▸ TBJ.out.1.hi1 _ nr;have dx:=a0b hxb (by omega);have P1:=fun V hV=>hid (f0x V y1 x (a0b hy1b (by omega)) dx (a0b (i:=i+1) (by omega) (by omega)) hV)
      have P2:=fun V hV=>hid (f0x V y2 x (a0b hy2b (by omega)) dx (a0b (i:=i+1) (by omega) (by omega)) hV)
      have t1:wr.cell? ⟨g8,i+j,none⟩=some (.string (a0g y1)):=by rw[<- hy1];exact hg8.out.cell (by rw[TBJ.out.1.l2];have:=HLT.out;omega)
      have t2:wr.cell? ⟨g7,i+j,none⟩=some (.string (a0g y2)):=by rw[<- hy2];exact hg7.out.cell (by rw[TBJ.out.1.l1];have:=HLT.out;omega)
      rw[HSX.out]at P1 P2;obtain⟨u1,hu1⟩:=gn (a0g y1);obtain⟨u2,hu2⟩:=gn (a0g y2);rw[hu1]at P1 t1;rw[hu2]at P2 t2;obtain⟨HY1,HY2,HU2,hstep⟩:=zd hy1 hy2 hu2 (show tIn os zs i (j+1) s0=(c0X oj (i+j) x (tIn os zs i j s0).1,c0X zj (i+j) x (tIn os zs i j s0).2) from by rw[tIn,n0O,HOJ.out,HZJ.out,TBJ.out.2,HX.out]);obtain⟨m1,hm1⟩:=gn (a0g (y1+x));obtain⟨m2,hm2⟩:=gn (a0g (y2+x));rw[hm1]at P1;rw[hm2]at P2;obtain⟨HM1,HM2⟩:=zg hm1 hm2;clear hm1 hm2;clear hy1 hy2 hxb hy1b hy2b dx hu1 hu2
      go_upto_if 49 with fail
      go_cut [] (fun wx=>Hid (NRowT wx g7 (tIn os zs i j s0).1)/\Hid (NRowT wx g8 (c0X zj (i+j) x (tIn os zs i j s0).2))/\Hid (Blk wx g1 (f0J os n).toArray 4)/\Hid (Blk wx g2 (f0J zs n).toArray 4)/\Hid (Below w.heap.size w wx))
      case first=>
       cases zj
       .go_wp2_with fail
        go_meet
        exact⟨hg7,by rw[d0i];exact hg8,hg1,hg2,hB⟩
       .go_wp2_with fail;have ew:IntKind.i64.wrap ((i:Int)+(j:Int))=(i:Int)+(j:Int):=by rw[O0 _ ⟨by omega,by omega⟩]
        have et:((i:Int)+(j:Int)).toNat=i+j:=by omega
        refine b0b 15 2 [0,1,2,3,4,5,6,7,8,9,10,11,12,13] 1 (fun W'=>W'.cell? ⟨g8,i+j,none⟩=some (.string u1)/\W'.cell? ⟨g7,i,none⟩=some (.string sx)) (by kernel_rfl) rfl (by kernel_rfl) (by kernel_rfl) (by kernel_rfl) (by kernel_rfl) ⟨t1,k0⟩ ?_
        iterate 14
         refine⟨_,rfl,?_⟩;apply Exists.intro
         refine⟨.inl ⟨by rfl,?_⟩,?_⟩
         .rintro W' ⟨r1,r2⟩;go_simp;try with_reducible rfl
         go_frame
        refine a0c (i:=14) (by kernel_rfl) rfl rfl ?_;go_wp2_with fail;refine (P1 _ (HL.out.below hB.out.drew HLL.out)).out.mono ?_;rintro e w5 ⟨rfl,hbc⟩;have Ca:=hid (show Below wr.heap.size wr w5 from br0.drew.trans hbc);obtain⟨E7a,E8a,E1a,E2a,EBa⟩:=zf (hg7.out.call Ca.out) (hg8.out.call Ca.out) (hg1.out.call Ca.out) (hg2.out.call Ca.out) (hB.out.trans (Ca.out.mono hB.out.size));have tca:=(Ca.out.cell (a0e t1)).trans t1;have kca:=(Ca.out.cell (a0e k0)).trans k0;clear hbc;go_wp2_with fail;refine⟨⟨tca,kca⟩,?_⟩;refine Z7 (by kernel_rfl) ?_ _;simp only[a0Z,b0K,Ab,A9];have fza:=E8a.out.free (i+j);clear kca;go_wp2_with fail
        try simp only[a0Z]
        go_meet
        refine⟨E7a.out.other (fun e=>NE.out e.symm) _,?_,E1a.out.other (fun e=>M18.out e.symm) _,E2a.out.other (fun e=>M28.out e.symm) _,EBa.out.setCell Q8.out _⟩;show NRowT _ _ _
        rw[c0W,HY1.out,<- HM1.out];exact E8a.out.set (i+j) (y1+x)
      case rest=>
       obtain⟨F7,F8,F1,F2,FB⟩:=hcut;clear hg7 hg8 hg1 hg2 hB t1 t2 k0 c1 c2;have c1:wc.cell? ⟨g1,j,none⟩=some (.bool oj):=(F1.out.cell j).trans (by rw[K6,d0S (by have:=HLT.out;omega),HOJ.out]);have k6:wc.cell? ⟨g7,i,none⟩=some (.string sx):=by
        refine (F7.out.cell (by rw[TBJ.out.1.l1];exact IL.out)).trans ?_;rw[TBJ.out.2,HX.out,HSX.out]
       have t6:wc.cell? ⟨g7,i+j,none⟩=some (.string u2):=by
        refine (F7.out.cell (by rw[TBJ.out.1.l1];have:=HLT.out;omega)).trans ?_;rw[HY2.out,HU2.out]
       cases oj
       .go_wp2_with fail;go_roundw
        case rel=>exact⟨j+1,by go_num,by have:=HLT.out;omega,by rw[hstep.out];exact F7,by rw[hstep.out];exact F8,F1,F2,FB⟩
        case measure=>simp[intOf]<;>(have:=HLT.out;omega)
       .go_wp2_with fail;have ew:IntKind.i64.wrap ((i:Int)+(j:Int))=(i:Int)+(j:Int):=by rw[O0 _ ⟨by omega,by omega⟩]
        have et:((i:Int)+(j:Int)).toNat=i+j:=by omega
        refine b0b 15 2 [0,1,2,3,4,5,6,7,8,9,10,11,12,13] 1 (fun W'=>W'.cell? ⟨g7,i+j,none⟩=some (.string u2)/\W'.cell? ⟨g7,i,none⟩=some (.string sx)) (by kernel_rfl) rfl (by kernel_rfl) (by kernel_rfl) (by kernel_rfl) (by kernel_rfl) ⟨t6,k6⟩ ?_
        iterate 14
         refine⟨_,rfl,?_⟩;apply Exists.intro
         refine⟨.inl ⟨by rfl,?_⟩,?_⟩
         .rintro W' ⟨r1,r2⟩;go_simp;try with_reducible rfl
         go_frame
        refine a0c (i:=14) (by kernel_rfl) rfl rfl ?_;go_wp2_with fail;refine (P2 _ (HL.out.below FB.out.drew HLL.out)).out.mono ?_;rintro e w7 ⟨rfl,hbc⟩;have Cb:=hid (show Below wc.heap.size wc w7 from br0.drew.trans hbc);obtain⟨E7b,E8b,E1b,E2b,EBb⟩:=zf (F7.out.call Cb.out) (F8.out.call Cb.out) (F1.out.call Cb.out) (F2.out.call Cb.out) (FB.out.trans (Cb.out.mono FB.out.size));have tcb:=(Cb.out.cell (a0e t6)).trans t6;have kcb:=(Cb.out.cell (a0e k6)).trans k6;clear hbc;go_wp2_with fail;refine⟨⟨tcb,kcb⟩,?_⟩;refine Z7 (by kernel_rfl) ?_ _;simp only[a0Z,b0K,Ab,A9];have fzb:=E7b.out.free (i+j);clear kcb;go_wp2_with fail
        try simp only[a0Z]
        go_roundw
        case rel=>
         refine⟨j+1,by go_num,by have:=HLT.out;omega,?_,?_,E1b.out.other (fun e=>M17.out e.symm) _,E2b.out.other (fun e=>M27.out e.symm) _,EBb.out.setCell Q7.out _⟩
         .show NRowT _ _ _
          rw[hstep.out,c0W,HY2.out,<- HM2.out];exact E7b.out.set (i+j) (y2+x)
         .show NRowT _ _ _
          rw[hstep.out];exact E8b.out.other (fun e=>NE.out e) _
        case measure=>simp[intOf]<;>(have:=HLT.out;omega)
     focus
      have q2:decide ((i:Int)+(j:Int)<=(n:Int))=false:=by simp;omega
      have e1:j=n+1-i:=by omega
      have f7:(j:Int)<=1001:=by have:=HN.out;omega
      have f5:(0:Int)<=(j:Int):=by omega
      subst e1;clear hj hlt
   all_goals
    go_wp2_with fail;go_roundw
    case rel=>exact⟨i+1,by go_num,by have:=IL.out;omega,by rw[hnext.out];exact hg7,by rw[hnext.out];exact hg8,hg1,hg2,hB⟩
    case measure=>simp[intOf]<;>(have:=IL.out;omega)
  .have q0:decide ((i:Int)<((n+1:Nat):Int))=false:=by simp;omega
   have e1:i=n+1:=by omega
   subst e1;go_wp2_with fail;go_ret
   exact⟨⟨g8,rfl,Q8.out,by rw[HOS.out,HZS.out];exact hg8.out⟩,hB.out⟩
open Go.Shelf
def k0T (n g:Nat):Value:=.slice (some ⟨g,0,none⟩) (n+1) (n+1)
structure TabR (W:World)(gt n:Nat)(f:Nat->List Nat):Prop where
 len:∀ i,i<=n->(f i).length=n+1
 ex:∃ g c,n+1<=c/\c<=9223372036854775807/\W.cell? ⟨gt,0,none⟩=some (.slice (some ⟨g,0,none⟩) (n+1) c)/\W.cell? ⟨gt,1,none⟩=some (.string ⟨#[48]⟩)/\∀ i,i<=n->∃ gr,W.cell? ⟨g,i,none⟩=some (k0T n gr)/\NRowT W gr (f i)
theorem TabR.call {W W':World}{gt n:Nat}{f:Nat->List Nat}(h:TabR W gt n f)(hb:Below W.heap.size W W'):TabR W' gt n f:=by
 obtain⟨h0,g,c,h1,h2,h3,h4,h5⟩:=h;refine⟨h0,g,c,h1,h2,(hb.cell (a0e h3)).trans h3,(hb.cell (a0e h4)).trans h4,fun i hi=>?_⟩;obtain⟨gr,k1,k2⟩:=h5 i hi;exact⟨gr,(hb.cell (a0e k1)).trans k1,k2.call hb⟩
def z0p (w:World)(gt n i k:Nat)(f:Nat->List Nat)(h:TabR w gt n f)(hi:i<=n)(hk:k<=n)(hn:n<=100000):
 Calls Tryz.prog 288 #[.pointer (some ⟨gt,0,none⟩),.int .i64 (i:Nat),.int .i64 (k:Nat)] w fun e w'=>e=.returned (.string (a0g ((f i).getD k 0)))/\w=w':=by
 obtain⟨h0,g,c,h1,h2,r0,r1,h5⟩:=h;obtain⟨gr,r2,k2⟩:=h5 i hi;have r3:=k2.cell (i:=k) (by rw[h0 i hi];omega);unfold k0T at r2;obtain⟨X,hX⟩:=gn (a0g ((f i).getD k 0));rw[hX]at r3 |-;have b1:(0:Int)<=(i:Int):=by omega
 have b2:(i:Int)<((n+1:Nat):Int):=by omega
 have b3:(0:Int)<=(k:Int):=by omega
 have b4:(k:Int)<((n+1:Nat):Int):=by omega
 obtain⟨m,hm⟩:=gn (n+1);rw[hm]at r0 r2 b2 b4 h1;have t1:decide ((i:Int)<0)=false:=by simp
 have t2:decide (m<=i)=false:=by simp;omega
 have t3:decide ((k:Int)<0)=false:=by simp
 have t4:decide (m<=k)=false:=by simp;omega
 clear h0 h5 k2 hX hi hk hn hm;go_enter Tryz.func288,Tryz.ntmps288;go_wp2_with fail;go_ret
 exact⟨rfl,rfl⟩
structure TabO (W:World)(H gt:Nat)(rv:Value)(gs:List Nat)(n r:Nat)(f:Nat->List Nat):Prop where
 blk:Blk W gt #[rv,.string ⟨#[48]⟩] 275
 own:W.ownsRow H 106 1 rv gs.length (gs.map (k0T n))
 rows:∀ i g,i<r->gs[i]?=some g->NRowT W g (f i)
 ne:rv.ownBlock≠some gt
 sep:∀ i g,i<r->gs[i]?=some g->rv.ownBlock≠some g
 gne:∀ i g,i<r->gs[i]?=some g->g≠gt
theorem NRowT.lt' {w:World}{g:Nat}{l:List Nat}(h:NRowT w g l):g<w.heap.size:=Blk.lt h
def b0Z {W:World}{H:Nat}{e:TypeId}{rv:Value}{n:Nat}{xs:List Value}(h:W.ownsRow H e 1 rv n xs){a:Addr}(h2:rv.ownBlock≠some a.block)(v:Value):(W.setCell a v).ownsRow H e 1 rv n xs:=by
 refine⟨h.1,?_⟩;rcases h.2 with h0 | ⟨g,cap,cur,rfl,k1,k2,k3⟩
 .exact .inl h0
 .refine .inr ⟨g,cap,cur,rfl,k1,?_,k3⟩;have hg:g≠a.block:=fun e=>h2 (by rw[<- e];rfl)
  rw[<- k2];unfold World.setCell;simp[Cp,Od hg]
theorem TabO.call {W W':World}{H gt:Nat}{rv:Value}{gs:List Nat}{n r:Nat}{f:Nat->List Nat}(h:TabO W H gt rv gs n r f)(hb:Below W.heap.size W W'):TabO W' H gt rv gs n r f:=
 ⟨h.blk.call hb,a0T h.own hb,fun i g hi hg=>(h.rows i g hi hg).call hb,h.ne,h.sep,h.gne⟩
theorem TabO.other {W:World}{H gt:Nat}{rv:Value}{gs:List Nat}{n r:Nat}{f:Nat->List Nat}(h:TabO W H gt rv gs n r f){a:Addr}(h1:a.block≠gt)(h2:rv.ownBlock≠some a.block)(h3:∀ i g,i<r->gs[i]?=some g->a.block≠g)(v:Value):TabO (W.setCell a v) H gt rv gs n r f:=by
 exact⟨h.blk.other h1 v,b0Z h.own h2 v,fun i g hi hg=>(h.rows i g hi hg).other (h3 i g hi hg) v,h.ne,h.sep,h.gne⟩
structure KpR (gt:Nat)(rb:Option Nat)(W W':World):Prop where
 os:W'.os=W.os
 tape:W'.tape=W.tape
 output:W'.output=W.output
 size:W.heap.size<=W'.heap.size
 block:∀ i,i<W.heap.size->i≠gt->some i≠rb->W'.heap[i]?=W.heap[i]?
theorem TabO.drew {W:World}{H gt:Nat}{rv:Value}{gs:List Nat}{n r:Nat}{f:Nat->List Nat}(h:TabO W H gt rv gs n r f):TabO W.drew H gt rv gs n r f:=⟨h.blk,h.own,h.rows,h.ne,h.sep,h.gne⟩
theorem KpR.drew {gt:Nat}{rb:Option Nat}{W W':World}(h:KpR gt rb W W'):KpR gt rb W W'.drew:=⟨h.os,h.tape,h.output,h.size,h.block⟩
def r0u:(Tryz.prog.info? 106).map (fun i=>(i.zero,i.size,i.bytes))=some (some (.slice none 0 0),1,24):=by kernel_rfl
def Ft:=@Go.wpList_append_own_at
def z0o (w:World)(H gt:Nat)(rv:Value)(gs:List Nat)(n r:Nat)(f:Nat->List Nat)(h:TabO w H gt rv gs n r f)(hr:r<=gs.length)(hgs:gs.length<=1000)(hn:n<=1000)(hH:H<=w.heap.size):
 Calls Tryz.prog 327 #[.pointer (some ⟨gt,0,none⟩),.int .i64 ((n+1:Nat):Int)] w fun e w'=>∃ g rv',e=.returned (k0T n g)/\w.heap.size<=g/\NRowT w' g (List.replicate (n+1) 0)/\TabO w' H gt rv' (gs ++ [g]) n r f/\rv'.ownBlock≠some g/\(rv'.ownBlock=rv.ownBlock\/∃ b,rv'.ownBlock=some b/\w.heap.size<=b)/\KpR gt rv.ownBlock w w':=by
 obtain⟨i0,hi,hz0,hz1,hz2⟩:=Cl r0u;have HR:=fun V g h=>hid (f0X V g (n+1) ⟨#[48]⟩ (by omega) (by omega) h)
 have hgt:gt<w.heap.size:=h.blk.lt;have r0:=h.blk.cell 0;have r1:=h.blk.cell 1;simp at r0 r1;obtain⟨T0,HGT,HHS,HGS,HRL⟩:=zf h hgt hH hgs hr;obtain⟨ar,cr,hrv⟩:=b0k h.own;obtain⟨L,hL⟩:=gn (gs.length);obtain⟨m,hm⟩:=gn (n+1);have HM:=hid hm;have KK:Hid (∀ W,Below w.heap.size w W->W.cell? ⟨gt,0,none⟩=some rv/\W.cell? ⟨gt,1,none⟩=some (.string ⟨#[48]⟩)):=fun W hW=>⟨(hW.cell (a0e r0)).trans r0,(hW.cell (a0e r1)).trans r1⟩
 rw[hm]at HR |-;clear h hgt hH hgs hr hL hm hrv hn;go_enter Tryz.func327,Tryz.ntmps327;go_wp2_with fail;refine b0b 14 3 [0,1,2,3,4,5,6,7,8,10] 4 (fun W'=>W'.cell? ⟨gt,0,none⟩=some rv/\W'.cell? ⟨gt,1,none⟩=some (.string ⟨#[48]⟩)) (by kernel_rfl) rfl (by kernel_rfl) (by kernel_rfl) (by kernel_rfl) (by kernel_rfl) (KK.out _ br0.drew) ?_
 iterate 10
  refine⟨_,rfl,?_⟩;apply Exists.intro
  refine⟨.inl ⟨by rfl,?_⟩,?_⟩
  .rintro W' ⟨q1,q2⟩;go_simp;try with_reducible rfl
  go_frame
 refine a0c (i:=9) (by kernel_rfl) rfl rfl ?_;go_wp2_with fail;have A1:=hid (show Below w.heap.size w (w.alloc (.cells #[.string ⟨#[48]⟩] 23)).drew from (br0.alloc nr _).drew);have C1:(w.alloc (.cells #[.string ⟨#[48]⟩] 23)).drew.cell? ⟨w.heap.size,0,none⟩=some (.string ⟨#[48]⟩):=(Blk.new w #[.string ⟨#[48]⟩] 23).cell 0;refine⟨KK.out _ A1.out,?_⟩;refine a0c (i:=11) (by kernel_rfl) rfl rfl ?_;go_wp2_with fail;refine (HR _ _ C1).out.mono ?_;rintro e w2 ⟨rfl,hg,hb⟩;obtain⟨g,hgg⟩:=gn ((w.alloc (.cells #[.string ⟨#[48]⟩] 23)).drew.heap.size);have B2:=hid (a0a A1.out hb);rw[hgg]at hg |-;have HG:Hid (w.heap.size<g):=by rw[<- hgg];show _<_;simp
 obtain⟨R2,L2⟩:=zg (NRowT.zeros hg) (show g<w2.heap.size from hg.lt);clear hg hb hgg C1;go_wp2_with fail;refine⟨KK.out _ B2.out,?_⟩;refine a0c (i:=12) (by kernel_rfl) rfl rfl ?_;go_wp2_with fail;have A3:=hid (show Below w.heap.size w (w2.alloc (.cells #[.slice (some ⟨g,0,none⟩) m m] 106)) from B2.out.alloc B2.out.size _);refine⟨KK.out _ A3.out,?_⟩;refine a0c (i:=13) (by kernel_rfl) rfl rfl ?_;have O3:=hid (((T0.out.call B2.out).own).alloc (.cells #[.slice (some ⟨g,0,none⟩) m m] 106));refine Ft _ rfl _ _ 273 rfl H 106 i0 (.slice none 0 0) 1 24 Tryz.underlying273 hi hz0 hz1 hz2 rfl (by decide) rv gs.length (gs.map (k0T n)) rfl O3.out ⟨w2.heap.size,0,none⟩ 1 1 [.slice (some ⟨g,0,none⟩) m m] rfl rfl (Eh w2 (.slice (some ⟨g,0,none⟩) m m) 106) (by simp[Value.oneCell']) (by have:=HGS.out;unfold maxLen;omega) (by have:=HGS.out;omega) (by have:=HHS.out;have:=B2.out.size;simp;omega) ?_;intro rv' w3 hown3 hgrow3 _ hat3;have hat4:rv'.ownBlock=rv.ownBlock\/rv'.ownBlock=some (w2.heap.size+1):=by simpa using hat3
 obtain⟨OW,GR,AT⟩:=zc hown3 hgrow3 hat4;clear hown3 hgrow3 hat3 hat4;have c30:w3.cell? ⟨gt,0,none⟩=some rv:=by
  have:=GR.out.cell (KK.out _ A3.out).1 (fun e=>T0.out.ne e.symm);exact this
 have c31:w3.cell? ⟨gt,1,none⟩=some (.string ⟨#[48]⟩):=GR.out.cell (KK.out _ A3.out).2 (fun e=>T0.out.ne e.symm);have X3:Hid (Blk w3 gt #[rv,.string ⟨#[48]⟩] 275):=((T0.out.blk.call B2.out).alloc _).grown GR.out (fun e=>T0.out.ne e);go_wp2_with fail;refine⟨⟨c30,c31⟩,?_⟩;refine Z7 (by kernel_rfl) ?_ _;simp only[a0Z,b0K,Ab,A9];have f3:=X3.out.free 0;have NE3:Hid (rv'.ownBlock≠some gt):=by
  rcases AT.out with e | e
  .show rv'.ownBlock≠some gt
   rw[e];exact T0.out.ne
  .show rv'.ownBlock≠some gt
   rw[e];intro hh;have:=K9 hh;have:=HGT.out;have:=B2.out.size;omega
 have NEG:Hid (rv'.ownBlock≠some g):=by
  rcases AT.out with e | e
  .show rv'.ownBlock≠some g
   rw[e];intro hh;have:=(T0.out.own.lt g hh).2;have:=HG.out;omega
  .show rv'.ownBlock≠some g
   rw[e];intro hh;have:=K9 hh;have:=L2.out;omega
 have AT2:Hid (rv'.ownBlock=rv.ownBlock\/∃ b,rv'.ownBlock=some b/\w.heap.size<=b):=AT.out.imp id fun e=>⟨_,e,Nat.le_succ_of_le B2.out.size⟩
 have KP:Hid (KpR gt rv.ownBlock w w3):=⟨GR.out.os.trans A3.out.os,GR.out.tape.trans A3.out.tape,GR.out.output.trans A3.out.output,E0 A3.out.size GR.out.size,fun i hi _ h2=>(GR.out.block i (by have:=A3.out.size;omega) h2).trans (A3.out.block i hi)⟩;have N3:Hid (NRowT w3 g (List.replicate m 0)):=Blk.grown (Blk.alloc R2.out _) GR.out (fun e=>by have:=(T0.out.own.lt g e).2;have:=HG.out;omega);have RO:Hid (∀ i g',i<r->gs[i]?=some g'->NRowT w3 g' (f i)):=fun i g' hi2 hg'=>Blk.grown (Blk.alloc ((T0.out.rows i g' hi2 hg').call B2.out) _) GR.out (T0.out.sep i g' hi2 hg')
 have GSR:Hid (∀ i g',i<r->gs[i]?=some g'->g'≠gt):=fun i g' hi2 hg'=>T0.out.gne i g' hi2 hg'
 obtain⟨gr,cap,rfl⟩:=Jd OW.out;have HGR:Hid (gr≠gt):=fun e=>NE3.out (by rw[e];rfl)
 go_wp2_with fail
 try simp only[a0Z]
 obtain⟨w4,hw4⟩:=gn (w3.setCell ⟨gt,0,none⟩ (.slice (some ⟨gr,0,none⟩) (gs.length+1) cap));have T4:Hid (TabO w4 H gt (.slice (some ⟨gr,0,none⟩) (gs.length+1) cap) (gs ++ [g]) n r f):=by
  refine⟨?_,?_,fun i g' hi2 hg'=>?_,NE3.out,?_,?_⟩
  .rw[<- hw4];exact X3.out.set 0 _
  .rw[<- hw4,J4,Ak];have hl:(gs.map (k0T n) ++ [Value.slice (some ⟨g,0,none⟩) m m])=gs.map (k0T n) ++ [g].map (k0T n):=by rw[<- HM.out];rfl
   rw[<- hl];exact b0Z OW.out (fun e=>HGR.out (by simpa[Value.ownBlock]using e)) _
  .have hlt:i<gs.length:=H6 hi2 HRL.out;rw[D9 hlt]at hg';rw[<- hw4];exact (RO.out i g' hi2 hg').other (GSR.out i g' hi2 hg').symm _
  .intro i g' hi2 hg';have hlt:i<gs.length:=H6 hi2 HRL.out;rw[D9 hlt]at hg';rcases AT.out with e | e
   .rw[e];exact T0.out.sep i g' hi2 hg'
   .rw[e];intro hh;have:=K9 hh;have:=(T0.out.rows i g' hi2 hg').lt';have:=B2.out.size;omega
  .intro i g' hi2 hg';have hlt:i<gs.length:=H6 hi2 HRL.out;rw[D9 hlt]at hg';exact T0.out.gne i g' hi2 hg'
 have N4:Hid (NRowT w4 g (List.replicate m 0)):=by rw[<- hw4];exact N3.out.other (by have:=HG.out;have:=HGT.out;show gt≠g;omega) _
 have K4:Hid (KpR gt rv.ownBlock w w4):=by
  rw[<- hw4];refine⟨KP.out.os,KP.out.tape,KP.out.output,by simpa[World.setCell]using KP.out.size,fun i hi h1 h2=>?_⟩;rw[<- KP.out.block i hi h1 h2];unfold World.setCell;simp[Cp,Od h1]
 rw[hw4];have s0:=T4.out.blk.cell 0;simp at s0;have s1:w4.cell? ⟨gr,gs.length,none⟩=some (.slice (some ⟨g,0,none⟩) m m):=by
  obtain⟨g',o',e1,-,e2⟩:=(Row.of_owns T4.out.own).at (i:=gs.length) (x:=k0T n g) (by rw[Ak,M6 (by simp)];simp);simp only[At,Ia]at e1;obtain⟨rfl,rfl,-⟩:=e1;rw[U7]at e2;rw[e2,k0T,HM.out]
 have wl2:IntKind.i64.wrap ((gs.length:Int)+1-1)=(gs.length:Int):=by rw[O0 _ ⟨by omega,by have:=HGS.out;omega⟩];omega
 have b1:(0:Int)<=(gs.length:Int):=by omega
 have wl3:IntKind.i64.wrap (gs.length:Int)=(gs.length:Int):=by rw[O0 _ ⟨by omega,by have:=HGS.out;omega⟩]
 have b3:(gs.length:Int)<(gs.length:Int)+1:=by omega
 clear hw4 c30 c31 f3;refine a0k [0,1,2,3,4,5,6,7,8,9,10,11,12] 0 (fun W'=>W'.cell? ⟨gt,0,none⟩=some (.slice (some ⟨gr,0,none⟩) (gs.length+1) cap)/\W'.cell? ⟨gr,gs.length,none⟩=some (.slice (some ⟨g,0,none⟩) m m)) (by kernel_rfl) (by kernel_rfl) (by kernel_rfl) (by kernel_rfl) ⟨s0,s1⟩ ?_
 iterate 13
  refine⟨_,rfl,?_⟩;apply Exists.intro
  refine⟨.inl ⟨by rfl,?_⟩,?_⟩
  .rintro W' ⟨q3,q4⟩;go_simp;try with_reducible rfl
  go_frame
 refine Z7 (by kernel_rfl) ?_ _;simp only[a0Z];go_wp2_with fail;go_ret
 refine⟨g,_,by rw[k0T,HM.out];rfl,Dc HG.out,N4.out,T4.out.drew,NEG.out,AT2.out,K4.out.drew⟩
structure EnS (W:World)(gt gO gN gD g1 g2 n r:Nat)(rv:Value)(gs:List Nat)(O nx dn:List Nat)(os zs:Nat->Bool)(f:Nat->List Nat):Prop where
 tab:TabO W (gt+1) gt rv (gs ++ [gD]) n r f
 o:NRowT W gO O
 nx:NRowT W gN nx
 dn:NRowT W gD dn
 b1:Blk W g1 (f0J os n).toArray 4
 b2:Blk W g2 (f0J zs n).toArray 4
structure EnD (gt gO gN gD g1 g2 r:Nat)(rv:Value)(gs:List Nat):Prop where
 tN:gN≠gt
 tD:gD≠gt
 rN:rv.ownBlock≠some gN
 rD:rv.ownBlock≠some gD
 ND:gN≠gD
 oN:gO≠gN
 oD:gO≠gD
 n1:gN≠g1
 n2:gN≠g2
 d1:gD≠g1
 d2:gD≠g2
 sN:∀ i g,i<r->(gs ++ [gD])[i]?=some g->gN≠g
 sD:∀ i g,i<r->(gs ++ [gD])[i]?=some g->gD≠g
theorem EnS.call {W W':World}{gt gO gN gD g1 g2 n r:Nat}{rv:Value}{gs:List Nat}{O nx dn:List Nat}{os zs:Nat->Bool}{f:Nat->List Nat}(h:EnS W gt gO gN gD g1 g2 n r rv gs O nx dn os zs f)(hb:Below W.heap.size W W'):EnS W' gt gO gN gD g1 g2 n r rv gs O nx dn os zs f:=
 ⟨h.tab.call hb,h.o.call hb,h.nx.call hb,h.dn.call hb,h.b1.call hb,h.b2.call hb⟩
theorem EnS.setN {W:World}{gt gO gN gD g1 g2 n r:Nat}{rv:Value}{gs:List Nat}{O nx dn:List Nat}{os zs:Nat->Bool}{f:Nat->List Nat}(h:EnS W gt gO gN gD g1 g2 n r rv gs O nx dn os zs f)(d:EnD gt gO gN gD g1 g2 r rv gs)(i x:Nat):EnS (W.setCell ⟨gN,i,none⟩ (.string (a0g x))) gt gO gN gD g1 g2 n r rv gs O (nx.set i x) dn os zs f:=
 ⟨h.tab.other d.tN d.rN d.sN _,h.o.other d.oN.symm _,h.nx.set i x,h.dn.other d.ND _,h.b1.other d.n1 _,h.b2.other d.n2 _⟩
theorem EnS.setD {W:World}{gt gO gN gD g1 g2 n r:Nat}{rv:Value}{gs:List Nat}{O nx dn:List Nat}{os zs:Nat->Bool}{f:Nat->List Nat}(h:EnS W gt gO gN gD g1 g2 n r rv gs O nx dn os zs f)(d:EnD gt gO gN gD g1 g2 r rv gs)(i x:Nat):EnS (W.setCell ⟨gD,i,none⟩ (.string (a0g x))) gt gO gN gD g1 g2 n r rv gs O nx (dn.set i x) os zs f:=
 ⟨h.tab.other d.tD d.rD d.sD _,h.o.other d.oD.symm _,h.nx.other d.ND.symm _,h.dn.set i x,h.b1.other d.d1 _,h.b2.other d.d2 _⟩
def q0j {c:Nat->Bool}{N D n r:Nat}{F:Nat->Nat}(hn:n<=32)(hr:r<=32)(hF:d0T c (i0O N D n r) n (n+1)=fnL F n)(hB:∀ s,s<=n->F s<=2 ^ (6*(r+1))){i j k:Nat}(hi:i<=n)(hij:i+j<=n+1)(hk:k<=n):(aIn c ((i0O N D n r).getD i 0) i j (d0T c (i0O N D n r) n i)).getD k 0<=2 ^ 200:=by
 refine E0 (b1a hi hij hk) ?_;rw[hF,h0l hk];exact E0 (hB k hk) (Z4 (by omega) (by omega))
def y0X (w:World)(n N D:Nat)(e:Ending)(w':World):Prop:=∃ gt,e=.returned (.pointer (some ⟨gt,0,none⟩))/\w.heap.size<=gt/\TabR w' gt n (p0g N D n)
def j0A {w w':World}{g:Nat}{cs:Array Value}{t:TypeId}(h:Blk w g cs t)(e:w'.heap[g]?=w.heap[g]?):Blk w' g cs t:=e.trans h
def Ic:=@Go.Value.slice.injEq
def w0l {W:World}{H gt:Nat}{rv:Value}{gs:List Nat}{n:Nat}{f:Nat->List Nat}(h:TabO W H gt rv gs n (n+1) f)(hl:gs.length=n+1)(hf:∀ i,(f i).length=n+1)(hn:n<=1000):TabR W gt n f:=by
 obtain⟨g,cap,rfl⟩:∃ g c,rv=.slice (some ⟨g,0,none⟩) (n+1) c:=by
  have:=h.own;rw[hl]at this;exact Jd this
 obtain⟨a,c,e,h1,h2,h3⟩:=(Row.of_owns h.own).ex;simp only[Ic]at e;obtain⟨rfl,-,rfl⟩:=e;rw[Aa,hl]at h1;have c0:=h.blk.cell 0;have c1:=h.blk.cell 1;simp at c0 c1;refine⟨fun i _=>hf i,g,cap,h1,by unfold maxLen at h2;omega,c0,c1,fun i hi=>?_⟩;obtain⟨gr,hgr⟩:∃ g,gs[i]?=some g:=⟨_,J0 (by omega)⟩;obtain⟨g',o',e1,-,e2⟩:=h3 i (k0T n gr) (by rw[Ck,hgr];rfl);simp only[At,Ia]at e1;obtain⟨rfl,rfl,-⟩:=e1;rw[U7]at e2;exact⟨gr,e2,h.rows i gr (by omega) hgr⟩
def v0M (w:World)(a:ByteArray)(n N D:Nat)(ha:a.size<=100000)(he:gPE a=0)(hn:n<=32)(hN:bN (cW a)=N)(hD:bN (qD a)=D)(hND:N<D)(hL:Lay w):
 Calls Tryz.prog 287 #[.string a,.int .i64 n] w fun e w'=>y0X w n N D e w'/\Below w.heap.size w w':=by
 have HS:=hid (r0E w a n N D ha he (by omega) hN hD hND hL);have HR:=fun V g h=>hid (f0X V g (n+1) ⟨#[48]⟩ (by omega) (by omega) h)
 have HTR:=fun V gt rv gs r f (h:TabO V (gt+1) gt rv gs n r f) (h1:r<=gs.length) (h2:gs.length<=1000) (h3:gt+1<=V.heap.size)=>hid (z0o V (gt+1) gt rv gs n r f h h1 h2 (by omega) h3)
 obtain⟨HL,HLL,HN⟩:=zc hL hL.lt hn;have wn:IntKind.i64.wrap ((n:Int)+1)=((n+1:Nat):Int):=by rw[O0 _ ⟨by omega,by omega⟩];omega
 have NX:Hid (∀ r,d0T (a0C N D) (i0O N D n r) n (n+1)=i0O N D n (r+1)):=fun r=>k0q N D n r
 have DN:Hid (∀ r,d0T (a0i N D) (i0O N D n r) n (n+1)=p0g N D n r):=fun r=>r0T N D n r
 have BN:Hid (∀ r i j k,r<=n->i<=n->i+j<=n+1->k<=n->(aIn (a0C N D) ((i0O N D n r).getD i 0) i j (d0T (a0C N D) (i0O N D n r) n i)).getD k 0<=2 ^ 200):=fun r i j k h1 h2 h3 h4=>q0j (F:=opn N D (r+1)) hn (by omega) (k0q N D n r) (fun s hs=>g0V hn (r+1) s hs) h2 h3 h4
 have BD:Hid (∀ r i j k,r<=n->i<=n->i+j<=n+1->k<=n->(aIn (a0i N D) ((i0O N D n r).getD i 0) i j (d0T (a0i N D) (i0O N D n r) n i)).getD k 0<=2 ^ 200):=fun r i j k h1 h2 h3 h4=>q0j (F:=edn N D r) hn (by omega) (r0T N D n r) (fun s hs=>n0p hn r s hs) h2 h3 h4
 have BO:Hid (∀ r i,r<=n->i<=n->(i0O N D n r).getD i 0<=2 ^ 200):=fun r i h1 h2=>by
  unfold i0O;rw[h0l h2];exact E0 (g0V hn r i h2) (Z4 (by omega) (by omega))
 have OZ:Hid ((List.replicate (n+1) 0).set 0 1=i0O N D n 0):=q0x N D n;have OL:Hid (∀ r,(i0O N D n r).length=n+1):=fun r=>f0n _ _
 obtain⟨OF,hOF⟩:=gn (i0O N D n);obtain⟨EF,hEF⟩:=gn (p0g N D n);obtain⟨os,hos⟩:=gn (a0C N D);obtain⟨zs,hzs⟩:=gn (a0i N D);rw[hOF]at NX DN BN BD BO OZ OL;rw[hEF]at DN;rw[hos]at NX BN;rw[hzs]at DN BD;obtain⟨HOS,HZS,HEF⟩:=zc hos hzs hEF;clear ha he hn hN hD hND hL hos hzs hOF hEF;go_enter Tryz.func287,Tryz.ntmps287;go_wp2_with fail;refine HS.out.mono ?_;rintro e w1 ⟨⟨v1,v2,rfl,⟨g1,g2,rfl,rfl,h3,h4,h5,hg1,hg2⟩⟩,hb1⟩;rw[HOS.out]at hg1;rw[HZS.out]at hg2;obtain⟨G1,G2,B1,N1,N2,z1⟩:=kx hg1 hg2 hb1 (show g1<w1.heap.size from Blk.lt hg1) (show g2<w1.heap.size from Blk.lt hg2) hb1.size;clear hg1 hg2 hb1 h3 h4 h5 HS;go_wp2_with fail;obtain⟨T1,A1⟩:=zg (Blk.new w1 #[.slice none 0 0,.string ⟨#[48]⟩] 275) ((J3 w1.heap.size w1).alloc nr (.cells #[.slice none 0 0,.string ⟨#[48]⟩] 275));obtain⟨wt,hwt⟩:=gn (w1.alloc (.cells #[.slice none 0 0,.string ⟨#[48]⟩] 275));have zt:Hid (wt.heap.size=w1.heap.size+1):=by show wt.heap.size=_;rw[<- hwt];simp
 rw[hwt]at T1 A1 |-;obtain⟨gt,hgt⟩:=gn (w1.heap.size);have HGT:=hid hgt;have T1':Hid (Blk wt gt #[.slice none 0 0,.string ⟨#[48]⟩] 275):=by show Blk _ _ _ _;rw[<- hgt];exact T1.out
 try rw[hgt]
 clear T1 hwt hgt;have C0:(wt.alloc (.cells #[.string ⟨#[48]⟩] 23)).cell? ⟨gt+1,0,none⟩=some (.string ⟨#[48]⟩):=by
  have:=(Blk.new wt #[.string ⟨#[48]⟩] 23).cell 0;rw[show wt.heap.size=gt+1 by rw[zt.out,HGT.out]]at this;exact this
 refine (HR _ _ C0).out.mono ?_;rintro e w2 ⟨rfl,hg7,hb2⟩;clear C0;obtain⟨g0,h7⟩:=gn ((wt.alloc (.cells #[.string ⟨#[48]⟩] 23)).heap.size);rw[h7]at hg7 |-;have R7:=hid (NRowT.zeros hg7);have a1:=(J3 wt.heap.size wt).alloc nr (.cells #[.string ⟨#[48]⟩] 23);obtain⟨b2,K7,Bt⟩:=zc (a0a a1 hb2) (show wt.heap.size<g0 by rw[<- h7];simp) (a0a B1.out A1.out);obtain⟨B2,G12,G22,T2⟩:=zd (a0a Bt.out b2.out) ((G1.out.call A1.out).call b2.out) ((G2.out.call A1.out).call b2.out) (T1'.out.call b2.out);clear hg7 hb2 a1 h7;have k0:w2.cell? ⟨g0,0,none⟩=some (.string ⟨#[48]⟩):=by
  refine (R7.out.cell (i:=0) (by simp)).trans ?_;rw[<- a0q];simp[J2]
 have k1:=R7.out.free 0;have z0':(0:Int)<(n:Int)+1:=by omega
 go_wp2_with fail;obtain⟨W2,hW2⟩:=gn (w2.setCell ⟨g0,0,none⟩ (.string ⟨#[49]⟩));have S0:Hid (NRowT W2 g0 (OF 0)):=by
  show NRowT _ _ _
  rw[<- hW2,<- c0a,<- OZ.out];exact R7.out.set 0 1
 have S1:Hid (Blk W2 g1 (f0J os n).toArray 4):=by rw[<- hW2];exact G12.out.other (by have:=K7.out;have:=N1.out;have:=zt.out;simp;omega) _
 have S2:Hid (Blk W2 g2 (f0J zs n).toArray 4):=by rw[<- hW2];exact G22.out.other (by have:=K7.out;have:=N2.out;have:=zt.out;simp;omega) _
 have ST:Hid (Blk W2 gt #[.slice none 0 0,.string ⟨#[48]⟩] 275):=by rw[<- hW2];exact T2.out.other (by have:=K7.out;have:=HGT.out;have:=zt.out;simp;omega) _
 have SB:Hid (Below w.heap.size w W2):=by rw[<- hW2];exact B2.out.setCell (by have:=K7.out;have:=z1.out;have:=zt.out;simp;omega) _
 have TO:Hid (TabO W2 (gt+1) gt (.slice none 0 0) [] n 0 EF):=⟨ST.out,Ba _ _ _ _,fun i g hi=>absurd hi (by omega),by simp[Value.ownBlock],fun i g hi=>absurd hi (by omega),fun i g hi=>absurd hi (by omega)⟩;have D1:Hid (g1<gt/\g2<gt/\w.heap.size<=gt):=⟨by have:=N1.out;have:=HGT.out;omega,by have:=N2.out;have:=HGT.out;omega,by have:=z1.out;have:=HGT.out;omega⟩;have D2:Hid (gt<g0):=by show gt<g0;have:=K7.out;have:=HGT.out;have:=zt.out;omega
 rw[hW2];clear hW2 k0 k1 z0' R7 G12 G22 T2 B2 b2 K7 Bt T1' A1 G1 G2 B1 N1 N2 z1 zt HGT ST
 go_loopw [8,29] (fun oo ii wr=>∃ r gO rv gs,oo=k0T n gO/\ii=.int .i64 (r:Nat)/\r<=n+1/\Hid (gs.length=r/\gt<gO/\rv.ownBlock≠some gO)/\Hid (TabO wr (gt+1) gt rv gs n r EF)/\Hid (NRowT wr gO (OF r))/\Hid (Blk wr g1 (f0J os n).toArray 4)/\Hid (Blk wr g2 (f0J zs n).toArray 4)/\Hid (Below w.heap.size w wr)) (fun oo ii wr=>n+1-(intOf ii).toNat)
 case atStart=>exact⟨0,g0,_,[],rfl,rfl,J5 _,⟨rfl,D2.out,by simp[Value.ownBlock]⟩,TO,S0,S1,S2,SB⟩
 case round=>
  obtain⟨r,gO,rv,gs,rfl,rfl,hr,hM,hT,hO,hg1,hg2,hB⟩:=hrel;by_cases hlt:r<n+1
  .have q0:decide ((r:Int)<((n+1:Nat):Int))=true:=by simp;omega
   have dr:decide ((r:Int)<(n:Int)+1)=true:=by simp;omega
   have HR0:=hid hlt;clear hr hlt;unfold k0T;go_wp2_with fail;refine (HTR _ _ _ _ _ _ hT.out (by have:=hM.out.1;omega) (by have:=hM.out.1;have:=HR0.out;have:=HN.out;omega) hT.out.blk.lt).out.mono ?_;rintro e w3 ⟨gD,rv',rfl,hgD,hND,hT3,hne,hat,hK⟩;simp only[k0T];obtain⟨T3,ND3,NE3,zD,LD⟩:=zf hT3 hND hne hgD (show gD<w3.heap.size from hND.lt');have keep:∀ b,b<wr.heap.size->b≠gt->rv.ownBlock≠some b->w3.heap[b]?=wr.heap[b]? := fun b h1 h2 h3=>hK.block b h1 h2 (fun e=>h3 e.symm)
   have lO:gO<wr.heap.size:=hO.out.lt';have l1:g1<wr.heap.size:=Blk.lt hg1.out;have l2:g2<wr.heap.size:=Blk.lt hg2.out;have rvge:∀ b,rv.ownBlock=some b->gt+1<=b:=fun b hb=>(hT.out.own.lt b hb).1
   have O3:Hid (NRowT w3 gO (OF r)):=j0A hO.out (keep gO lO (by have:=hM.out.2.1;omega) hM.out.2.2);have G13:Hid (Blk w3 g1 (f0J os n).toArray 4):=j0A hg1.out (keep g1 l1 (by have:=D1.out.1;omega) (fun e=>by have:=rvge _ e;have:=D1.out.1;omega));have G23:Hid (Blk w3 g2 (f0J zs n).toArray 4):=j0A hg2.out (keep g2 l2 (by have:=D1.out.2.1;omega) (fun e=>by have:=rvge _ e;have:=D1.out.2.1;omega))
   have B3:Hid (Below w.heap.size w w3):=⟨hK.os.trans hB.out.os,hK.tape.trans hB.out.tape,hK.output.trans hB.out.output,E0 hB.out.size hK.size,fun k hk=>by
    have s0:=hB.out.size;have d:=D1.out.2.2;exact (keep k (by omega) (by omega) (fun e=>by have:=rvge _ e;omega)).trans (hB.out.block k hk)⟩
   have M3:Hid (gD≠gO/\gD≠g1/\gD≠g2/\gD≠gt/\rv'.ownBlock≠some gO):=by
    refine⟨by omega,by omega,by omega,by have:=hT.out.blk.lt;omega,?_⟩;rcases hat with e | ⟨b,e,hb⟩
    .rw[e];exact hM.out.2.2
    .rw[e];intro e';have:=K9 e';omega
   have SG:Hid (∀ i g,i<r->(gs ++ [gD])[i]?=some g->gD≠g/\g<w3.heap.size):=fun i g hi hg=>by
    have hl:=hM.out.1;have hg':=hg;rw[D9 (by omega)]at hg';have h1:=(hT.out.rows i g hi hg').lt';have h2:=hK.size;exact⟨by omega,by omega⟩
   clear hT3 hND hne hgD hat hK keep lO l1 l2 rvge;go_wp2_with fail;refine (HR _ _ ((Blk.new w3 _ _).cell 0)).out.mono ?_;rintro e w4 ⟨rfl,hg7,hb2⟩;obtain⟨gN,h7⟩:=gn ((w3.alloc (.cells #[.string ⟨#[48]⟩] 23)).heap.size);rw[h7]at hg7 |-;have R7:=hid (NRowT.zeros hg7);have a1:=(J3 w3.heap.size w3).alloc nr (.cells #[.string ⟨#[48]⟩] 23);obtain⟨b4,K7⟩:=zg (a0a a1 hb2) (show w3.heap.size<gN by rw[<- h7];simp);obtain⟨T4,B4,QD,QN⟩:=zd (T3.out.call b4.out) (a0a B3.out b4.out) (show w.heap.size<=gD by have:=zD.out;have:=hB.out.size;omega) (show w.heap.size<=gN by have:=K7.out;have:=B3.out.size;omega);have l1:g1<w3.heap.size:=Blk.lt G13.out;have l2:g2<w3.heap.size:=Blk.lt G23.out;have lO:gO<w3.heap.size:=O3.out.lt';have lT:gt<w3.heap.size:=T3.out.blk.lt;have lR:∀ b,rv'.ownBlock=some b->b<w3.heap.size:=fun b hb=>(T3.out.own.lt b hb).2
   have ED:Hid (EnD gt gO gN gD g1 g2 r rv' gs):=by
    have k:=K7.out;have d:=LD.out;refine⟨by omega,M3.out.2.2.2.1,fun e=>?_,NE3.out,by omega,by omega,fun e=>M3.out.1 e.symm,by omega,by omega,M3.out.2.1,M3.out.2.2.1,fun i g hi hg=>?_,fun i g hi hg=>(SG.out i g hi hg).1⟩
    .have:=lR _ e;omega
    .have:=(SG.out i g hi hg).2;omega
   have ES:Hid (EnS w4 gt gO gN gD g1 g2 n r rv' gs (OF r) (List.replicate (n+1) 0) (List.replicate (n+1) 0) os zs EF):=⟨T4.out,O3.out.call b4.out,R7.out,ND3.out.call b4.out,G13.out.call b4.out,G23.out.call b4.out⟩;have NO:Hid (rv'.ownBlock≠some gN):=fun e=>by have:=lR _ e;have:=K7.out;omega
   have DG:Hid (gt<gN):=by show gt<gN;have:=K7.out;omega
   have RL:Hid (r<=n):=by show r<=n;have:=HR0.out;omega
   have LG:=hid hM.out.1;clear hg7 hb2 a1 h7 l1 l2 lO lT lR T3 ND3 NE3 zD LD O3 G13 G23 B3 M3 SG R7 K7 T4 hM hT hO hg1 hg2 hB b4 q0
   -- the state of this round
   obtain⟨NXr,DNr,OLr,BNr,BDr,BOr⟩:=kx (NX.out r) (DN.out r) (OL.out r) (fun i j k=>BN.out r i j k RL.out) (fun i j k=>BD.out r i j k RL.out) (fun i=>BO.out r i RL.out);obtain⟨O,hO⟩:=gn (OF r);rw[hO]at NXr DNr OLr BNr BDr BOr ES;clear hO;go_wp2_with fail
   go_loopw [41] (fun ii wr=>∃ i:Nat,ii=.int .i64 (i:Nat)/\i<=n+1/\Hid (EnS wr gt gO gN gD g1 g2 n r rv' gs O (d0T os O n i) (d0T zs O n i) os zs EF)/\Hid (Below w.heap.size w wr)) (fun ii wr=>n+1-(intOf ii).toNat)
   case atStart=>exact⟨0,rfl,J5 _,ES,B4⟩
   case round=>
    clear ES;obtain⟨i,rfl,hi,hS,hB⟩:=hrel;by_cases hlt:i<n+1
    .have q0:decide ((i:Int)<((n+1:Nat):Int))=true:=by simp;omega
     have di:decide ((i:Int)<(n:Int)+1)=true:=by simp;omega
     have f0:(0:Int)<=(i:Int):=by omega
     have f1:(i:Int)<((n+1:Nat):Int):=by omega
     have f1':(i:Int)<(n:Int)+1:=by omega
     have f2:(i:Int)<=1000:=by have:=HN.out;omega
     have IL:=hid hlt;clear hi hlt;go_wp2_with fail;obtain⟨x,hx⟩:=gn (O.getD i 0);obtain⟨wo,rfl⟩:∃ wo:World,wo=wr:=⟨_,rfl⟩;have hnx:Hid (d0T os O n (i+1)=aIn os x i (n+1-i) (d0T os O n i)):=by show _=_;rw[d0T,hx]
     have hdn:Hid (d0T zs O n (i+1)=aIn zs x i (n+1-i) (d0T zs O n i)):=by show _=_;rw[d0T,hx]
     by_cases hx0:x=0
     .have k0:wo.cell? ⟨gO,i,none⟩=some (.string (a0g x)):=by rw[<- hx];exact hS.out.o.cell (by rw[OLr.out];exact IL.out)
      have q1:((a0g x).toList == [48])=true:=by rw[hx0,a0q];exact c0q
      have e1:Hid (d0T os O n (i+1)=d0T os O n i):=by show _=_;rw[hnx.out,hx0,e0X]
      have e2:Hid (d0T zs O n (i+1)=d0T zs O n i):=by show _=_;rw[hdn.out,hx0,e0X]
      obtain⟨sx,hsx⟩:=gn (a0g x);rw[hsx]at k0 q1;clear hx hx0 hsx
      go_loopw [12] (fun jj wq=>jj=.int .i64 0/\wq=wo) (fun jj wq=>0)
      case atStart=>exact⟨rfl,rfl⟩
      case round=>
       obtain⟨rfl,rfl⟩:=hrel;go_wp2_with fail;go_roundw
       case rel=>exact⟨i+1,by go_num,by have:=IL.out;omega,by rw[e1.out,e2.out];exact hS,hB⟩
       case measure=>simp[intOf]<;>(have:=IL.out;omega)
     .have q1:((a0g x).toList == [48])=false:=a0I (l:=[48]) (by rw[<- a0q];exact b0M hx0);have AOL:Hid (∀ c,(d0T c O n i).length=n+1):=fun c=>c0y c O n i
      obtain⟨BNi,BDi⟩:=zg (fun j k=>BNr.out i j k (by have:=IL.out;omega)) (fun j k=>BDr.out i j k (by have:=IL.out;omega));have hxb:x<=2 ^ 200:=by rw[<- hx];exact BOr.out i (by have:=IL.out;omega)
      obtain⟨HXB,HX⟩:=zg hxb hx;rw[hx]at BNi BDi;obtain⟨nx0,hnx0⟩:=gn (d0T os O n i);obtain⟨dn0,hdn0⟩:=gn (d0T zs O n i);have HNL:Hid (∀ j,(aIn os x i j nx0).length=n+1):=fun j=>by rw[c0Y,<- hnx0];exact AOL.out os
      have HDL:Hid (∀ j,(aIn zs x i j dn0).length=n+1):=fun j=>by rw[c0Y,<- hdn0];exact AOL.out zs
      rw[hnx0]at BNi hnx hS;rw[hdn0]at BDi hdn hS;obtain⟨sx,hsx⟩:=gn (a0g x);rw[hsx]at q1;have HSX:=hid hsx;clear hx hx0 hsx hnx0 hdn0 hxb AOL
      go_loopw [12] (fun jj wq=>∃ j:Nat,jj=.int .i64 (j:Nat)/\i+j<=n+1/\Hid (EnS wq gt gO gN gD g1 g2 n r rv' gs O (aIn os x i j nx0) (aIn zs x i j dn0) os zs EF)/\Hid (Below w.heap.size w wq)) (fun jj wq=>n+1-(intOf jj).toNat)
      case atStart=>exact⟨0,rfl,by have:=IL.out;omega,hS,hB⟩
      case round=>
       clear hS hB;obtain⟨j,rfl,hj,hS,hB⟩:=hrel;have k0:wr.cell? ⟨gO,i,none⟩=some (.string sx):=by
        refine (hS.out.o.cell (by rw[OLr.out];exact IL.out)).trans ?_;rw[HX.out,HSX.out]
       by_cases hlt:i+j<=n
       .have q2:decide ((i:Int)+(j:Int)<=(n:Int))=true:=by simp;omega
        have f5:(0:Int)<=(j:Int):=by omega
        have f6:(j:Int)<((n+1:Nat):Int):=by omega
        have f6':(j:Int)<(n:Int)+1:=by omega
        have f7:(j:Int)<=1000:=by have:=HN.out;omega
        have f8:(i:Int)+(j:Int)<((n+1:Nat):Int):=by omega
        have f9:(i:Int)+(j:Int)<(n:Int)+1:=by omega
        have f10:(0:Int)<=(i:Int)+(j:Int):=by omega
        have c1:wr.cell? ⟨g1,j,none⟩=some (.bool (os j)):=(hS.out.b1.cell j).trans (by rw[K6,d0S (by omega)]);have c2:wr.cell? ⟨g2,j,none⟩=some (.bool (zs j)):=(hS.out.b2.cell j).trans (by rw[K6,d0S (by omega)]);have HLT:=hid hlt;obtain⟨zj,hzj⟩:=gn (zs j);obtain⟨oj,hoj⟩:=gn (os j);rw[hoj]at c1;rw[hzj]at c2;obtain⟨HZJ,HOJ⟩:=zg hzj hoj;clear hlt hj hzj hoj;obtain⟨y1,hy1⟩:=gn ((aIn zs x i j dn0).getD (i+j) 0);obtain⟨y2,hy2⟩:=gn ((aIn os x i j nx0).getD (i+j) 0);have p2:(2:Nat) ^ 201=2 ^ 200+2 ^ 200:=by rw[show (201:Nat)=200+1 from rfl,M7]
        have hxb:=HXB.out;have hy1b:y1<=2 ^ 200:=hy1 ▸ BDi.out j (i+j) (by have:=HLT.out;omega) HLT.out;have hy2b:y2<=2 ^ 200:=hy2 ▸ BNi.out j (i+j) (by have:=HLT.out;omega) HLT.out;have dx:=a0b hxb (by omega);have P1:=fun V hV=>hid (f0x V y1 x (a0b hy1b (by omega)) dx (a0b (i:=201) (by rw[p2];exact Nat.add_le_add hy1b hxb) (by omega)) hV)
        have P2:=fun V hV=>hid (f0x V y2 x (a0b hy2b (by omega)) dx (a0b (i:=201) (by rw[p2];exact Nat.add_le_add hy2b hxb) (by omega)) hV)
        have t1:wr.cell? ⟨gD,i+j,none⟩=some (.string (a0g y1)):=by rw[<- hy1];exact hS.out.dn.cell (by rw[HDL.out];have:=HLT.out;omega)
        have t2:wr.cell? ⟨gN,i+j,none⟩=some (.string (a0g y2)):=by rw[<- hy2];exact hS.out.nx.cell (by rw[HNL.out];have:=HLT.out;omega)
        rw[HSX.out]at P1 P2;obtain⟨u1,hu1⟩:=gn (a0g y1);obtain⟨u2,hu2⟩:=gn (a0g y2);rw[hu1]at P1 t1;rw[hu2]at P2 t2;obtain⟨HY1,HY2,HU2⟩:=zc hy1 hy2 hu2;obtain⟨m1,hm1⟩:=gn (a0g (y1+x));obtain⟨m2,hm2⟩:=gn (a0g (y2+x));rw[hm1]at P1;rw[hm2]at P2;obtain⟨HM1,HM2⟩:=zg hm1 hm2;have k1:=k0;have k2:=k0;have HOL:=OLr;clear hm1 hm2;clear hy1 hy2 p2 hxb hy1b hy2b dx hu1 hu2
        go_upto_if 61 with fail
        go_cut [] (fun wx=>Hid (EnS wx gt gO gN gD g1 g2 n r rv' gs O (aIn os x i j nx0) (aIn zs x i (j+1) dn0) os zs EF)/\Hid (Below w.heap.size w wx))
        case first=>
         cases zj
         .have hD0:Hid (aIn zs x i (j+1) dn0=aIn zs x i j dn0):=by show _=_;rw[aIn,HZJ.out,d0i]
          go_wp2_with fail
          go_meet
          exact⟨by rw[hD0.out];exact hS,hB⟩
         .have hD0:Hid (aIn zs x i (j+1) dn0=(aIn zs x i j dn0).set (i+j) (y1+x)):=by show _=_;rw[aIn,HZJ.out,c0W,HY1.out]
          go_wp2_with fail;have ew:IntKind.i64.wrap ((i:Int)+(j:Int))=(i:Int)+(j:Int):=by rw[O0 _ ⟨by omega,by omega⟩]
          have et:((i:Int)+(j:Int)).toNat=i+j:=by omega
          refine b0b 15 2 [0,1,2,3,4,5,6,7,8,9,10,11,12,13] 1 (fun W'=>W'.cell? ⟨gD,i+j,none⟩=some (.string u1)/\W'.cell? ⟨gO,i,none⟩=some (.string sx)) (by kernel_rfl) rfl (by kernel_rfl) (by kernel_rfl) (by kernel_rfl) (by kernel_rfl) ⟨t1,k1⟩ ?_
          iterate 14
           refine⟨_,rfl,?_⟩;apply Exists.intro
           refine⟨.inl ⟨by rfl,?_⟩,?_⟩
           .rintro W' ⟨r1,r2⟩;go_simp;try with_reducible rfl
           go_frame
          refine a0c (i:=14) (by kernel_rfl) rfl rfl ?_;go_wp2_with fail;refine (P1 _ (HL.out.below hB.out.drew HLL.out)).out.mono ?_;rintro e w5 ⟨rfl,hbc⟩;have C1:=hid (show Below wr.heap.size wr w5 from br0.drew.trans hbc);obtain⟨E1,F1⟩:=zg (hS.out.call C1.out) (hB.out.trans (C1.out.mono hB.out.size));have tc1:=(C1.out.cell (a0e t1)).trans t1;have kc1:=(C1.out.cell (a0e k1)).trans k1;clear hbc;go_wp2_with fail;refine⟨⟨tc1,kc1⟩,?_⟩;refine Z7 (by kernel_rfl) ?_ _;simp only[a0Z,b0K,Ab,A9];have fz1:=E1.out.dn.free (i+j);clear kc1;have S6:Hid (EnS (w5.setCell ⟨gD,i+j,none⟩ (.string m1)) gt gO gN gD g1 g2 n r rv' gs O (aIn os x i j nx0) ((aIn zs x i j dn0).set (i+j) (y1+x)) os zs EF):=by rw[<- HM1.out];exact E1.out.setD ED.out (i+j) (y1+x)
          go_wp2_with fail
          try simp only[a0Z]
          go_meet
          exact⟨by rw[hD0.out];exact S6,F1.out.setCell QD.out _⟩
        case rest=>
         obtain⟨S6,B6⟩:=hcut;clear hS hB t1 k1 t2 k2 c1 c2;have c1:wc.cell? ⟨g1,j,none⟩=some (.bool oj):=(S6.out.b1.cell j).trans (by rw[K6,d0S (by have:=HLT.out;omega),HOJ.out]);have k2:wc.cell? ⟨gO,i,none⟩=some (.string sx):=by
          refine (S6.out.o.cell (by rw[HOL.out];exact IL.out)).trans ?_;rw[HX.out,HSX.out]
         have t2:wc.cell? ⟨gN,i+j,none⟩=some (.string u2):=by
          refine (S6.out.nx.cell (by rw[HNL.out j];have:=HLT.out;omega)).trans ?_;rw[HY2.out,HU2.out]
         cases oj
         .have hN0:Hid (aIn os x i (j+1) nx0=aIn os x i j nx0):=by show _=_;rw[aIn,HOJ.out,d0i]
          go_wp2_with fail;go_roundw
          case rel=>exact⟨j+1,by go_num,by have:=HLT.out;omega,by rw[hN0.out];exact S6,B6⟩
          case measure=>simp[intOf]<;>(have:=HLT.out;omega)
         .have hN0:Hid (aIn os x i (j+1) nx0=(aIn os x i j nx0).set (i+j) (y2+x)):=by show _=_;rw[aIn,HOJ.out,c0W,HY2.out]
          go_wp2_with fail;have ew:IntKind.i64.wrap ((i:Int)+(j:Int))=(i:Int)+(j:Int):=by rw[O0 _ ⟨by omega,by omega⟩]
          have et:((i:Int)+(j:Int)).toNat=i+j:=by omega
          refine b0b 15 2 [0,1,2,3,4,5,6,7,8,9,10,11,12,13] 1 (fun W'=>W'.cell? ⟨gN,i+j,none⟩=some (.string u2)/\W'.cell? ⟨gO,i,none⟩=some (.string sx)) (by kernel_rfl) rfl (by kernel_rfl) (by kernel_rfl) (by kernel_rfl) (by kernel_rfl) ⟨t2,k2⟩ ?_
          iterate 14
           refine⟨_,rfl,?_⟩;apply Exists.intro
           refine⟨.inl ⟨by rfl,?_⟩,?_⟩
           .rintro W' ⟨r1,r2⟩;go_simp;try with_reducible rfl
           go_frame
          refine a0c (i:=14) (by kernel_rfl) rfl rfl ?_;go_wp2_with fail;refine (P2 _ (HL.out.below B6.out.drew HLL.out)).out.mono ?_;rintro e w7 ⟨rfl,hbc⟩;have C2:=hid (show Below wc.heap.size wc w7 from br0.drew.trans hbc);obtain⟨E2,F2⟩:=zg (S6.out.call C2.out) (B6.out.trans (C2.out.mono B6.out.size));have tc2:=(C2.out.cell (a0e t2)).trans t2;have kc2:=(C2.out.cell (a0e k2)).trans k2;clear hbc;go_wp2_with fail;refine⟨⟨tc2,kc2⟩,?_⟩;refine Z7 (by kernel_rfl) ?_ _;simp only[a0Z,b0K,Ab,A9];have fz2:=E2.out.nx.free (i+j);clear kc2;go_wp2_with fail
          try simp only[a0Z]
          go_roundw
          case rel=>exact⟨j+1,by go_num,by have:=HLT.out;omega,by rw[hN0.out,<- HM2.out];exact E2.out.setN ED.out (i+j) (y2+x),F2.out.setCell QN.out _⟩
          case measure=>simp[intOf]<;>(have:=HLT.out;omega)
       .have q2:decide ((i:Int)+(j:Int)<=(n:Int))=false:=by simp;omega
        have e1:j=n+1-i:=by omega
        have f7:(j:Int)<=1001:=by have:=HN.out;omega
        have f5:(0:Int)<=(j:Int):=by omega
        subst e1;clear hj hlt;go_wp2_with fail;go_roundw
        case rel=>exact⟨i+1,by go_num,by have:=IL.out;omega,by rw[hnx.out,hdn.out];exact hS,hB⟩
        case measure=>simp[intOf]<;>(have:=IL.out;omega)
    .have q0:decide ((i:Int)<((n+1:Nat):Int))=false:=by simp;omega
     have di:decide ((i:Int)<(n:Int)+1)=false:=by simp;omega
     have e1:i=n+1:=by omega
     subst e1;rw[NXr.out,DNr.out]at hS;clear hi hlt;have wr1:IntKind.i64.wrap ((r:Int)+1)=((r+1:Nat):Int):=by have:=RL.out;have:=HN.out;rw[O0 _ ⟨by omega,by omega⟩];omega
     go_wp2_with fail;go_roundw
     case rel=>
      refine⟨r+1,gN,rv',gs ++ [gD],rfl,by go_num,by have:=RL.out;omega,⟨by rw[J4,LG.out];rfl,DG.out,NO.out⟩,?_,hS.out.nx,hS.out.b1,hS.out.b2,hB⟩;have h:=hS.out.tab;refine⟨h.blk,h.own,fun i g hi hg=>?_,h.ne,fun i g hi hg=>?_,fun i g hi hg=>?_⟩
      .by_cases hi2:i<r
       .exact h.rows i g hi2 hg
       .obtain rfl:i=r:=by omega
        rw[M6 (by have:=LG.out;omega),LG.out,Bh]at hg;simp at hg;subst hg;exact hS.out.dn
      .by_cases hi2:i<r
       .exact h.sep i g hi2 hg
       .obtain rfl:i=r:=by omega
        rw[M6 (by have:=LG.out;omega),LG.out,Bh]at hg;simp at hg;subst hg;exact ED.out.rD
      .by_cases hi2:i<r
       .exact h.gne i g hi2 hg
       .obtain rfl:i=r:=by omega
        rw[M6 (by have:=LG.out;omega),LG.out,Bh]at hg;simp at hg;subst hg;exact ED.out.tD
     case measure=>simp[intOf]<;>(have:=RL.out;omega)
  .have q0:decide ((r:Int)<((n+1:Nat):Int))=false:=by simp;omega
   have dr:decide ((r:Int)<(n:Int)+1)=false:=by simp;omega
   have e1:r=n+1:=by omega
   subst e1;clear hr hlt;unfold k0T;go_wp2_with fail;go_ret
   refine⟨⟨gt,rfl,D1.out.2.2,?_⟩,hB.out⟩;rw[HEF.out];exact w0l hT.out hM.out.1 (fun i=>by rw[<- HEF.out];exact f0n _ _) (by have:=HN.out;omega)
def j0k (w:World)(n:Nat)(hn:n<=1000)(hL:Lay w):
 Calls Tryz.prog 213 #[.int .i64 n] w fun e w'=>e=.returned (.string (a0g (2 ^ n)))/\Below w.heap.size w w':=by
 have HP:=hid (u0c w ⟨#[50]⟩ n u0F (by omega) (by rw[w0c];exact h0M hn) hL);rw[w0c]at HP;clear hn hL;go_enter Tryz.func213,Tryz.ntmps213;go_wp2_with fail;refine HP.out.mono ?_;rintro e w1 ⟨rfl,hb1⟩;have b1:=hid hb1;clear hb1;go_wp2_with fail;go_ret
 exact⟨rfl,b1.out⟩
end
section
open Go.RowKit Go.Maps
open Go.Lib (decDigits nDigits)
def c1l (w:World)(g x:Nat)(h:Blk w g #[.string (j0y x),.string ⟨#[48]⟩] 23):
 Calls Tryz.prog 289 #[.slice (some ⟨g,0,none⟩) 2 2] w fun e w'=>e=.returned (.string (a0g x))/\w=w':=by
 have r0:=h.cell 0;have r1:=h.cell 1;simp at r0 r1;by_cases hx:x=0
 .subst hx;have e1:j0y 0=⟨#[]⟩:=rfl;have e2:a0g 0=⟨#[48]⟩:=a0q;rw[e1]at r0;rw[e2];clear h e1 e2;go_enter Tryz.func289,Tryz.ntmps289;go_wp2_with fail
  go_loopw [8] (fun ii wr=>∃ i:Nat,ii=.int .i64 (i:Nat)/\i<=1/\wr=w) (fun ii wr=>2-(intOf ii).toNat)
  case atStart=>exact⟨0,rfl,J5 _,rfl⟩
  case round=>
   obtain⟨i,rfl,hi,rfl⟩:=hrel;rcases Cz i 1 with h0 | h0
   .obtain rfl:i=0:=by omega
    clear hi h0;go_wp2_with fail;go_roundw
    case rel=>exact⟨1,by go_num,by omega,by simp⟩
    case measure=>simp[intOf]
   .obtain rfl:i=1:=by omega
    clear hi h0;go_wp2_with fail;go_ret
    exact⟨rfl,rfl⟩
 .have e1:j0y x=a0g x:=Q0 hx;rw[e1]at r0
  have q1:((a0g x).toList == [])=false:=a0I (l:=[]) (fun e=>by
   have h1:=a0t x;rw[e]at h1;have h2:=Go.Lib.nDigits_pos x;simp[ByteArray.size]at h1;omega)
  obtain⟨s,hs⟩:=gn (a0g x);rw[hs]at r0 q1 |-;clear h e1 hs hx;go_enter Tryz.func289,Tryz.ntmps289;go_wp2_with fail
  go_loopw [8] (fun ii wr=>ii=.int .i64 0/\wr=w) (fun ii wr=>0)
  case atStart=>exact⟨rfl,rfl⟩
  case round=>
   obtain⟨rfl,rfl⟩:=hrel;go_wp2_with fail;go_ret
   exact⟨rfl,rfl⟩
structure GlS (H:Type)(w1 w:World)(B K:Nat)(c:Int->Nat):Prop where
 bel:Below w1.heap.size w1 w
 ex:∃ (nn:Nat) (D:DataW H),nn<=K/\w.ownsMap Tryz.prog 3 (plainElem Tryz.prog 23) B nn D/\ReadsI D c
theorem GlS.mono {H:Type}{w1 w:World}{B K K':Nat}{c c':Int->Nat}(h:GlS H w1 w B K c)(hK:K<=K')(hc:c=c'):GlS H w1 w B K' c':=by
 subst hc;obtain⟨h1,nn,D,h2,h3,h4⟩:=h;exact⟨h1,nn,D,by omega,h3,h4⟩
def k0R {w1 w w':World}{B:Nat}(h:Below w1.heap.size w1 w)(hg:w.grownBy w' (some B))(hB:w1.heap.size<=B):Below w1.heap.size w1 w':=by
 refine⟨hg.os.trans h.os,hg.tape.trans h.tape,hg.output.trans h.output,E0 h.size hg.size,fun i hi=>?_⟩;exact (hg.block i (by have:=h.size;omega) (fun e=>by injection e with e;omega)).trans (h.block i hi)
def m0h {v:Int}(h1 : -100000<=v)(h2:v<=100000):(Lit.int .i64 v).wf=true:=WalkArith.wf_i64 ⟨by omega,by omega⟩
def q0M {x y a b:Nat}(h1:x<=2 ^ a)(h2:y<=2 ^ b)(h:a+b<=3000):nDigits (x*y)<=4000:=a0b (by rw[Dd];exact Aw h1 h2) h
def f0z {x:Nat}(h:nDigits x<=4000):(a0g x).size<=maxLen:=by rw[a0t];unfold maxLen;omega
def a1w {H:Type}(w:World)(a:ByteArray)(n N D:Nat)(ha:a.size<=100000)(he:gPE a=0)(hn:n<=32)(hN:bN (cW a)=N)(hD:bN (qD a)=D)(hND:N<D)(hL:Lay w):
 Calls Tryz.prog 225 #[.string a,.int .i64 n,.bool false] w fun e w'=>(∃ B nn Dm,e=.returned (.map (some B))/\w.heap.size<=B/\nn<=3000000/\w'.ownsMap Tryz.prog 3 (plainElem (H:=H) Tryz.prog 23) B nn Dm/\ReadsI Dm (gV N D false n))/\Below w.heap.size w w':=by
 have HE:=hid (v0M w a n N D ha he hn hN hD hND hL);have HAT:Hid (∀ V gt i k,TabR V gt n (p0g N D n)->i<=n->k<=n->Calls Tryz.prog 288 #[.pointer (some ⟨gt,0,none⟩),.int .i64 (i:Nat),.int .i64 (k:Nat)] V fun e w'=>e=.returned (.string (a0g (edn N D i k)))/\V=w'):=fun V gt i k hT hi hk=>by
  have:=z0p V gt n i k (p0g N D n) hT hi hk (by omega);unfold p0g at this;rw[h0l hk]at this;exact this
 have HPW:=fun V k (hk:k<=1000) hV=>hid (j0k V k hk hV)
 have EB:Hid (∀ i k,i<=n->k<=n->edn N D i k<=2 ^ 200):=fun i k hi hk=>E0 (n0p hn i k hk) (Z4 (by omega) (by omega))
 obtain⟨HL,HN,HND⟩:=zc hL hn hND;have wn:IntKind.i64.wrap ((n:Int)+1)=((n+1:Nat):Int):=by rw[O0 _ ⟨by omega,by omega⟩];omega
 have hmm:=@run_makeMap Tryz.prog;clear ha he hn hN hD hND hL;go_enter Tryz.func225,Tryz.ntmps225;go_wp2_with fail;refine HE.out.mono ?_;rintro e w1 ⟨⟨gt,rfl,hgt,hT⟩,hb1⟩;obtain⟨T1,B1⟩:=zg hT hb1;clear hT hb1 HE hgt;have TK:Hid (∀ V,Below w1.heap.size w1 V->TabR V gt n (p0g N D n)):=fun V hV=>T1.out.call hV
 have LK:Hid (∀ V,Below w1.heap.size w1 V->Lay V):=fun V hV=>(HL.out.call B1.out).call hV
 have HR0:Hid (∀ V,Below w1.heap.size w1 V->∃ g c,n+1<=c/\c<=9223372036854775807/\V.cell? ⟨gt,0,none⟩=some (.slice (some ⟨g,0,none⟩) (n+1) c)):=fun V hV=>by
  obtain⟨-,g,c,h1,h2,h3,-,-⟩:=TK.out V hV;exact⟨g,c,h1,h2,h3⟩
 have G0:Hid (GlS H w1 (w1.alloc (.map #[] 0)) w1.heap.size 0 (fun _=>0)):=⟨br0.alloc nr _,0,.map [],Z3 _,World.ownsMap_made _ _ _ _,ReadsI.nil⟩;obtain⟨g,c,hc1,hc2,r0⟩:=HR0.out _ G0.out.bel;clear T1;go_wp2_with fail;obtain⟨W1,hW1⟩:=gn (w1.alloc (.map #[] 0));obtain⟨B,hB⟩:=gn (w1.heap.size);have HB:=hid hB;have G1:Hid (GlS H w1 W1 B 0 (fun _=>0)):=by rw[<- hW1,<- hB];exact G0.out
 rw[hW1,hB];clear hW1 hB G0 r0 hc1 hc2
 go_loopw [22] (fun ii wr=>∃ i:Nat,ii=.int .i64 (i:Nat)/\i<=n+1/\Hid (GlS H w1 wr B (i*64000) (c1 N D n i 0))) (fun ii wr=>n+1-(intOf ii).toNat)
 case atStart=>exact⟨0,rfl,J5 _,hid (by rw[y0N];exact G1.out)⟩
 case round=>
  obtain⟨i,rfl,hi,hG⟩:=hrel;by_cases hlt:i<n+1
  .have q0:decide ((i:Int)<((n+1:Nat):Int))=true:=by simp;omega
   have di:decide ((i:Int)<(n:Int)+1)=true:=by simp;omega
   have IL:=hid hlt;have f2:(i:Int)<=100:=by have:=HN.out;omega
   clear hi hlt;go_wp2_with fail
   go_loopw [27] (fun ss wq=>∃ s:Nat,ss=.int .i64 (s:Nat)/\s<=n+1/\Hid (GlS H w1 wq B (i*64000+s*1600) (c1 N D n i s))) (fun ss wq=>n+1-(intOf ss).toNat)
   case atStart=>exact⟨0,rfl,J5 _,hid (hG.out.mono (by omega) rfl)⟩
   case round=>
    clear hG;obtain⟨s,rfl,hs,hG⟩:=hrel;by_cases hlt:s<n+1
    .have q0:decide ((s:Int)<((n+1:Nat):Int))=true:=by simp;omega
     have d30:decide ((s:Int)<(n:Int)+1)=true:=by simp;omega
     have SL:=hid hlt;have f3:(s:Int)<=100:=by have:=HN.out;omega
     have A1:=fun V hV=>hid (HAT.out V gt i s (TK.out V hV) (by have:=IL.out;omega) (by have:=SL.out;omega))
     obtain⟨x,hx⟩:=gn (edn N D i s);rw[hx]at A1;have bx:x<=2 ^ 200:=hx ▸ EB.out i s (by have:=IL.out;omega) (by have:=SL.out;omega);by_cases hx0:x=0
     .have q1:((a0g x).toList == [48])=true:=by rw[hx0,a0q];exact c0q
      have hsk:=hid (y0O (N:=N) (D:=D) (n:=n) (i:=i) (s:=s) (hx.trans hx0));obtain⟨sx,hsx⟩:=gn (a0g x);rw[hsx]at A1 q1;clear hs hlt hx bx hx0 hsx;go_wp2_with fail;refine (A1 _ hG.out.bel).out.mono ?_;rintro e w2 ⟨rfl,rfl⟩;go_wp2_with fail;go_roundw
      case rel=>exact⟨s+1,by go_num,by have:=SL.out;omega,hid (by rw[hsk.out];exact hG.out.mono (by omega) rfl)⟩
      case measure=>simp[intOf]<;>(have:=SL.out;omega)
     .have q1:((a0g x).toList == [48])=false:=a0I (l:=[48]) (by rw[<- a0q];exact b0M hx0);obtain⟨hbl,nn,Dm,hnn,hO,hR⟩:=hG.out;have hcl:=a1Y (N:=N) (D:=D) HND.out (n:=n) (i:=i) (s:=s) (by have:=IL.out;omega) (by omega) (i:Int);have hcl2:=a1Y (N:=N) (D:=D) HND.out (n:=n) (i:=i) (s:=s+1) (by have:=IL.out;omega) (by have:=SL.out;omega) (i:Int);have hgv:=l0J HND.out false n (i:Int);have hstep:=s0u N D n i s;rw[hstep]at hcl2;rw[hx]at hstep hcl2;unfold j0F at hcl2;rw[U0 rfl]at hcl2;have hp2:2 ^ (n-s)<=2 ^ 32:=Z4 (by omega) (by have:=HN.out;omega);have hpn:2 ^ n<=2 ^ 32:=Z4 (by omega) HN.out;have hxp:0<x*2 ^ (n-s):=Eb (by omega) (Ej (by omega));have hRP:=ReadsI.put hR (i:Int) hxp;obtain⟨HRP,HO,HNN,HBL,HST⟩:=zf hRP hO hnn hbl hstep;obtain⟨y,hy⟩:=gn (c1 N D n i s (i:Int));have HLK:Hid (∀ V,Below wr.heap.size wr V->(Instr.lookup 211 (.map (some B)) (.int .i64 (i:Nat)) false).run Tryz.prog V=.ok (.string (j0y y)) V):=fun V hV=>by
       have:=v0D (HO.out.kept (row:=none) ⟨hV.os,hV.tape,hV.output,hV.size,fun k hk _=>hV.block k hk⟩ (by simp)) hR (m0h (v:=(i:Int)) (by omega) (by omega));rw[hy]at this;exact this
      rw[hy]at HRP hcl hcl2;have dx:=a0b bx (by omega);have dp:=a0b hp2 (by omega);have dxp:=a0b (i:=32) (show x*2 ^ (n-s)<=2 ^ 32 by omega) (by omega);have dy:=a0b (i:=32) (show y<=2 ^ 32 by omega) (by omega);have ds:=a0b (i:=32) (show y+x*2 ^ (n-s)<=2 ^ 32 by omega) (by omega);have P0:=fun V hV=>HPW V (n-s) (by have:=HN.out;omega) hV
      have P1:=fun V hV=>hid (g0U V x (2 ^ (n-s)) dx dp dxp hV)
      have P2:=fun V hV=>hid (f0x V y (x*2 ^ (n-s)) dy dxp ds hV)
      have POR:=fun V g h=>hid (c1l V g y h)
      have hsz:=hid (f0z ds);have wsub:IntKind.i64.wrap ((n:Int)-(s:Int))=((n-s:Nat):Int):=by have:=HN.out;have:=SL.out;rw[O0 _ ⟨by omega,by omega⟩];omega
      obtain⟨sx,hsx⟩:=gn (a0g x);obtain⟨sp,hsp⟩:=gn (a0g (2 ^ (n-s)));obtain⟨sxp,hsxp⟩:=gn (a0g (x*2 ^ (n-s)));obtain⟨sy,hsy⟩:=gn (a0g y);obtain⟨sz,hszz⟩:=gn (a0g (y+x*2 ^ (n-s)));obtain⟨cy,hcy⟩:=gn (j0y y);rw[hsx]at A1 q1;rw[hsp]at P0;rw[hsx,hsp,hsxp]at P1;rw[hsy,hsxp,hszz]at P2;rw[hsy,hcy]at POR;rw[hcy]at HLK;rw[hszz]at hsz HRP;clear hs hlt hx bx hx0 hsx hcl hcl2 hgv hstep hp2 hpn hxp hRP hbl hnn hO hR hy dx dp dxp dy ds hsp hsxp hsy hszz hcy;have lk:=HLK.out wr br0;have C2:Blk (wr.alloc (.cells #[.string cy,.string ⟨#[48]⟩] 23)) wr.heap.size #[.string cy,.string ⟨#[48]⟩] 23:=Blk.new wr #[.string cy,.string ⟨#[48]⟩] 23;have A2:=hid (show Below wr.heap.size wr (wr.alloc (.cells #[.string cy,.string ⟨#[48]⟩] 23)) from br0.alloc nr _);have F2:=hid (a0a HBL.out A2.out);go_wp2_with fail;refine (A1 _ hG.out.bel).out.mono ?_;rintro e w2 ⟨rfl,rfl⟩;go_wp2_with fail;refine (POR _ _ C2).out.mono ?_;rintro e w2 ⟨rfl,rfl⟩;clear lk C2;go_wp2_with fail;refine zx (A1 _ F2.out) ?_;go_wp2_with fail;refine (P0 _ (LK.out _ F2.out)).out.mono ?_;rintro e w3 ⟨rfl,hb3⟩;have A3:=hid (a0a A2.out hb3);clear hb3;go_wp2_with fail;refine (P1 _ (LK.out _ (a0a HBL.out A3.out))).out.mono ?_;rintro e w4 ⟨rfl,hb4⟩;have A4:=hid (a0a A3.out hb4);clear hb4;go_wp2_with fail;refine (P2 _ (LK.out _ (a0a HBL.out A4.out))).out.mono ?_;rintro e w5 ⟨rfl,hb5⟩;have A5:=hid (a0a A4.out hb5);clear hb5;go_wp2_with (at_mapUpdate;refine wpList_mapUpdate_own _ rfl _ _ _ 211 rfl 3 23 (int_keyed U8) Jv _ B nn _ rfl (HO.out.kept (row:=none) ⟨A5.out.os,A5.out.tape,A5.out.output,A5.out.size,fun k hk _=>A5.out.block k hk⟩ (by simp)) (by have:=HNN.out;have:=HN.out;have:=IL.out;have:=SL.out;unfold maxLen;omega) _ _ _ rfl rfl (keyOf_int_mk U8 (m0h (v:=(i:Int)) (by omega) (by omega))) _ [] (plainElem_string Gf hsz.out) ?_;intro w6 hown hgrow)
      obtain⟨OW,B6⟩:=zg hown (k0R (a0a HBL.out A5.out) hgrow (by rw[HB.out];exact Z3 _));clear hown hgrow HLK;go_roundw
      case rel=>
       refine⟨s+1,by go_num,by have:=SL.out;omega,hid ⟨B6.out,nn+1,_,by have:=HNN.out;omega,OW.out,?_⟩⟩;rw[HST.out];exact HRP.out
      case measure=>simp[intOf]<;>(have:=SL.out;omega)
    .have q0:decide ((s:Int)<((n+1:Nat):Int))=false:=by simp;omega
     have d30:decide ((s:Int)<(n:Int)+1)=false:=by simp;omega
     have e1:s=n+1:=by omega
     subst e1;clear hs hlt;have hrow:=hid (w0a N D n i);go_wp2_with fail;go_roundw
     case rel=>exact⟨i+1,by go_num,by have:=IL.out;omega,hid (hG.out.mono (by have:=HN.out;omega) hrow.out)⟩
     case measure=>simp[intOf]<;>(have:=IL.out;omega)
  .have q0:decide ((i:Int)<((n+1:Nat):Int))=false:=by simp;omega
   have di:decide ((i:Int)<(n:Int)+1)=false:=by simp;omega
   have e1:i=n+1:=by omega
   subst e1;clear hi hlt;obtain⟨hbl,nn,Dm,h1,h2,h3⟩:=hG.out;obtain⟨HBL,H1,H2,H3⟩:=zd hbl h1 h2 h3;clear hbl h1 h2 h3;go_wp2_with fail;go_ret
   refine⟨⟨B,nn,Dm,rfl,by rw[<- HB.out];exact B1.out.size,by have:=H1.out;have:=HN.out;omega,H2.out,?_⟩,a0a B1.out HBL.out⟩;have e2:c1 N D n (n+1) 0=gV N D false n:=funext fun v=>w0b HND.out n v
   rw[<- e2];exact H3.out
def a1v {H:Type}(w:World)(a:ByteArray)(n N D:Nat)(ha:a.size<=100000)(he:gPE a=0)(hn:n<=32)(hN:bN (cW a)=N)(hD:bN (qD a)=D)(hND:N<D)(hL:Lay w):
 Calls Tryz.prog 225 #[.string a,.int .i64 n,.bool true] w fun e w'=>(∃ B nn Dm,e=.returned (.map (some B))/\w.heap.size<=B/\nn<=3000000/\w'.ownsMap Tryz.prog 3 (plainElem (H:=H) Tryz.prog 23) B nn Dm/\ReadsI Dm (gV N D true n))/\Below w.heap.size w w':=by
 have HE:=hid (v0M w a n N D ha he hn hN hD hND hL);have HAT:Hid (∀ V gt i k,TabR V gt n (p0g N D n)->i<=n->k<=n->Calls Tryz.prog 288 #[.pointer (some ⟨gt,0,none⟩),.int .i64 (i:Nat),.int .i64 (k:Nat)] V fun e w'=>e=.returned (.string (a0g (edn N D i k)))/\V=w'):=fun V gt i k hT hi hk=>by
  have:=z0p V gt n i k (p0g N D n) hT hi hk (by omega);unfold p0g at this;rw[h0l hk]at this;exact this
 have HPW:=fun V k (hk:k<=1000) hV=>hid (j0k V k hk hV)
 have EB:Hid (∀ i k,i<=n->k<=n->edn N D i k<=2 ^ 200):=fun i k hi hk=>E0 (n0p hn i k hk) (Z4 (by omega) (by omega))
 obtain⟨HL,HN,HND⟩:=zc hL hn hND;have wn:IntKind.i64.wrap ((n:Int)+1)=((n+1:Nat):Int):=by rw[O0 _ ⟨by omega,by omega⟩];omega
 have hmm:=@run_makeMap Tryz.prog;clear ha he hn hN hD hND hL;go_enter Tryz.func225,Tryz.ntmps225;go_wp2_with fail;refine HE.out.mono ?_;rintro e w1 ⟨⟨gt,rfl,hgt,hT⟩,hb1⟩;obtain⟨T1,B1⟩:=zg hT hb1;clear hT hb1 HE hgt;have TK:Hid (∀ V,Below w1.heap.size w1 V->TabR V gt n (p0g N D n)):=fun V hV=>T1.out.call hV
 have LK:Hid (∀ V,Below w1.heap.size w1 V->Lay V):=fun V hV=>(HL.out.call B1.out).call hV
 have HR0:Hid (∀ V,Below w1.heap.size w1 V->∃ g c,n+1<=c/\c<=9223372036854775807/\V.cell? ⟨gt,0,none⟩=some (.slice (some ⟨g,0,none⟩) (n+1) c)):=fun V hV=>by
  obtain⟨-,g,c,h1,h2,h3,-,-⟩:=TK.out V hV;exact⟨g,c,h1,h2,h3⟩
 have G0:Hid (GlS H w1 (w1.alloc (.map #[] 0)) w1.heap.size 0 (fun _=>0)):=⟨br0.alloc nr _,0,.map [],Z3 _,World.ownsMap_made _ _ _ _,ReadsI.nil⟩;obtain⟨g,c,hc1,hc2,r0⟩:=HR0.out _ G0.out.bel;clear T1;go_wp2_with fail;obtain⟨W1,hW1⟩:=gn (w1.alloc (.map #[] 0));obtain⟨B,hB⟩:=gn (w1.heap.size);have HB:=hid hB;have G1:Hid (GlS H w1 W1 B 0 (fun _=>0)):=by rw[<- hW1,<- hB];exact G0.out
 rw[hW1,hB];clear hW1 hB G0 r0 hc1 hc2
 go_loopw [22] (fun ii wr=>∃ i:Nat,ii=.int .i64 (i:Nat)/\i<=n+1/\Hid (GlS H w1 wr B (i*64000) (c2 N D n i 0 0 0))) (fun ii wr=>n+1-(intOf ii).toNat)
 case atStart=>exact⟨0,rfl,J5 _,hid (by rw[y0K];exact G1.out)⟩
 case round=>
  obtain⟨i,rfl,hi,hG⟩:=hrel;by_cases hlt:i<n+1
  .have q0:decide ((i:Int)<((n+1:Nat):Int))=true:=by simp;omega
   have di:decide ((i:Int)<(n:Int)+1)=true:=by simp;omega
   have IL:=hid hlt;have f2:(i:Int)<=100:=by have:=HN.out;omega
   clear hi hlt;go_wp2_with fail
   go_loopw [27] (fun ss wq=>∃ s:Nat,ss=.int .i64 (s:Nat)/\s<=n+1/\Hid (GlS H w1 wq B (i*64000+s*1600) (c2 N D n i s 0 0))) (fun ss wq=>n+1-(intOf ss).toNat)
   case atStart=>exact⟨0,rfl,J5 _,hid (hG.out.mono (by omega) rfl)⟩
   case round=>
    clear hG;obtain⟨s,rfl,hs,hG⟩:=hrel;by_cases hlt:s<n+1
    .have q0:decide ((s:Int)<((n+1:Nat):Int))=true:=by simp;omega
     have d30:decide ((s:Int)<(n:Int)+1)=true:=by simp;omega
     have SL:=hid hlt;have f3:(s:Int)<=100:=by have:=HN.out;omega
     have A1:=fun V hV=>hid (HAT.out V gt i s (TK.out V hV) (by have:=IL.out;omega) (by have:=SL.out;omega))
     obtain⟨x,hx⟩:=gn (edn N D i s);rw[hx]at A1;have bx:x<=2 ^ 200:=hx ▸ EB.out i s (by have:=IL.out;omega) (by have:=SL.out;omega);by_cases hx0:x=0
     .have q1:((a0g x).toList == [48])=true:=by rw[hx0,a0q];exact c0q
      have hsk:=hid (y0M (N:=N) (D:=D) (n:=n) (i:=i) (s:=s) (hx.trans hx0));obtain⟨sx,hsx⟩:=gn (a0g x);rw[hsx]at A1 q1;clear hs hlt hx bx hx0 hsx;go_wp2_with fail;refine (A1 _ hG.out.bel).out.mono ?_;rintro e w2 ⟨rfl,rfl⟩;go_wp2_with fail;go_roundw
      case rel=>exact⟨s+1,by go_num,by have:=SL.out;omega,hid (by rw[hsk.out];exact hG.out.mono (by omega) rfl)⟩
      case measure=>simp[intOf]<;>(have:=SL.out;omega)
     .have q1:((a0g x).toList == [48])=false:=a0I (l:=[48]) (by rw[<- a0q];exact b0M hx0);obtain⟨HX,BX,HX0⟩:=zc hx bx hx0;obtain⟨sx,hsx⟩:=gn (a0g x);rw[hsx]at A1 q1;have HSX:=hid hsx;obtain⟨g',c',hc1',hc2',r0'⟩:=HR0.out _ hG.out.bel;clear hs hlt hx bx hx0 hsx;go_wp2_with fail;refine (A1 _ hG.out.bel).out.mono ?_;rintro e w2 ⟨rfl,rfl⟩;go_wp2_with fail;clear q1
      go_loopw [59] (fun kk wq=>∃ k:Nat,kk=.int .i64 (k:Nat)/\k<=n+1/\Hid (GlS H w1 wq B (i*64000+s*1600+k*40) (c2 N D n i s k 0))) (fun kk wq=>n+1-(intOf kk).toNat)
      case atStart=>exact⟨0,rfl,J5 _,hid (hG.out.mono (by omega) rfl)⟩
      case round=>
       clear r0' hG;obtain⟨k,rfl,hk,hG⟩:=hrel;by_cases hlt:k<n+1
       .have q0:decide ((k:Int)<((n+1:Nat):Int))=true:=by simp;omega
        have dk:decide ((k:Int)<(n:Int)+1)=true:=by simp;omega
        have KL:=hid hlt;have f4:(k:Int)<=100:=by have:=HN.out;omega
        clear hk hlt;go_wp2_with fail
        go_loopw [12] (fun uu wq=>∃ u:Nat,uu=.int .i64 (u:Nat)/\s+u<=n+1/\Hid (GlS H w1 wq B (i*64000+s*1600+k*40+u) (c2 N D n i s k u))) (fun uu wq=>n+1-(intOf uu).toNat)
        case atStart=>exact⟨0,rfl,by have:=SL.out;omega,hid (hG.out.mono (by omega) rfl)⟩
        case round=>
         clear hG;obtain⟨u,rfl,hu,hG⟩:=hrel;by_cases hlt:s+u<=n
         .have q2:decide ((s:Int)+(u:Int)<=(n:Int))=true:=by simp;omega
          have UL:=hid hlt;have f5:(u:Int)<=100:=by have:=HN.out;omega
          have A2:=fun V hV=>hid (HAT.out V gt k u (TK.out V hV) (by have:=KL.out;omega) (by have:=UL.out;omega))
          obtain⟨y,hy⟩:=gn (edn N D k u);rw[hy]at A2;have by':y<=2 ^ 200:=hy ▸ EB.out k u (by have:=KL.out;omega) (by omega)
          by_cases hy0:y=0
          .have q1:((a0g y).toList == [48])=true:=by rw[hy0,a0q];exact c0q
           have hsk:=hid (y0L (N:=N) (D:=D) (n:=n) (i:=i) (s:=s) (k:=k) (u:=u) (hy.trans hy0));obtain⟨sy,hsy⟩:=gn (a0g y);rw[hsy]at A2 q1;clear hu hlt hy by' hy0 hsy
           go_wp2_with fail;refine (A2 _ hG.out.bel).out.mono ?_;rintro e w2 ⟨rfl,rfl⟩;go_wp2_with fail;go_roundw
           case rel=>exact⟨u+1,by go_num,by have:=UL.out;omega,hid (by rw[hsk.out];exact hG.out.mono (by omega) rfl)⟩
           case measure=>simp[intOf]<;>(have:=UL.out;omega)
          .have q1:((a0g y).toList == [48])=false:=a0I (l:=[48]) (by rw[<- a0q];exact b0M hy0);obtain⟨hbl,nn,Dm,hnn,hO,hR⟩:=hG.out;obtain⟨v,hv⟩:∃ v:Int,(i:Int)-(k:Int)=v:=⟨_,rfl⟩;have hvb : -1000<=v/\v<=1000:=⟨by omega,by have:=IL.out;have:=HN.out;omega⟩;have hcl:=a1X (N:=N) (D:=D) HND.out (n:=n) (i:=i) (s:=s) (k:=k) (u:=u) (by have:=IL.out;omega) (by omega) (by have:=KL.out;omega) (by omega) v;have hcl2:=a1X (N:=N) (D:=D) HND.out (n:=n) (i:=i) (s:=s) (k:=k) (u:=u+1) (by have:=IL.out;omega) (by omega) (by have:=KL.out;omega) (by omega) v;have hgv:=l0J HND.out true n v;have hstep:=c1m N D n i s k u;rw[hstep]at hcl2;rw[HX.out,hy,hv]at hstep hcl2;unfold j0F at hcl2;rw[U0 rfl]at hcl2;obtain⟨m,hm⟩:=gn (n-s-u);obtain⟨ns,hns⟩:=gn (n-s);have hm32:m<=32:=by have:=HN.out;omega
           have wsub:IntKind.i64.wrap ((n:Int)-(s:Int))=(ns:Int):=by rw[O0 _ ⟨by omega,by omega⟩];omega
           have wsub2:IntKind.i64.wrap ((ns:Int)-(u:Int))=(m:Int):=by rw[O0 _ ⟨by omega,by omega⟩];omega
           have wik:IntKind.i64.wrap ((i:Int)-(k:Int))=v:=by rw[O0 _ ⟨by omega,by omega⟩];exact hv
           rw[hm]at hstep hcl2;have hp2:2 ^ m<=2 ^ 32:=Z4 (by omega) hm32;have hpn:2 ^ n<=2 ^ 32:=Z4 (by omega) HN.out;obtain⟨xy,hxy⟩:=gn (x*y);have hxy0:0<xy:=by rw[<- hxy];exact Eb (by have:=HX0.out;omega) (by omega)
           have hxp:0<xy*2 ^ m:=Eb hxy0 (Ej (by omega));have dxy':=q0M BX.out by' (by omega)
           rw[hxy]at dxy';have dx:=a0b BX.out (by omega);have dyy:=a0b by' (by omega)
           have PXY:=fun V hV=>hid (g0U V x y dx dyy (by rw[hxy];exact dxy') hV)
           rw[hxy]at hstep hcl2 PXY;have hRP:=ReadsI.put hR v hxp;obtain⟨HRP,HO,HNN,HBL,HST⟩:=zf hRP hO hnn hbl hstep;obtain⟨z,hz⟩:=gn (c2 N D n i s k u v);have HLK:Hid (∀ V,Below wr.heap.size wr V->(Instr.lookup 211 (.map (some B)) (.int .i64 v) false).run Tryz.prog V=.ok (.string (j0y z)) V):=fun V hV=>by
            have:=v0D (HO.out.kept (row:=none) ⟨hV.os,hV.tape,hV.output,hV.size,fun k hk _=>hV.block k hk⟩ (by simp)) hR (m0h (v:=v) (by omega) (by omega));rw[hz]at this;exact this
           rw[hz]at HRP hcl hcl2;have dp:=a0b hp2 (by omega);have dxp:=a0b (i:=32) (show xy*2 ^ m<=2 ^ 32 by omega) (by omega);have dz:=a0b (i:=32) (show z<=2 ^ 32 by omega) (by omega);have ds:=a0b (i:=32) (show z+xy*2 ^ m<=2 ^ 32 by omega) (by omega);have P0:=fun V hV=>HPW V m (by omega) hV
           have P1:=fun V hV=>hid (g0U V xy (2 ^ m) dxy' dp dxp hV)
           have P2:=fun V hV=>hid (f0x V z (xy*2 ^ m) dz dxp ds hV)
           have POR:=fun V g h=>hid (c1l V g z h)
           obtain⟨hsz,hwf⟩:=zg (f0z ds) (keyOf_int_mk U8 (m0h (v:=v) (by omega) (by omega)));obtain⟨sy,hsy⟩:=gn (a0g y);obtain⟨sxy,hsxy⟩:=gn (a0g xy);obtain⟨sp,hsp⟩:=gn (a0g (2 ^ m));obtain⟨sxp,hsxp⟩:=gn (a0g (xy*2 ^ m));obtain⟨sz,hsz1⟩:=gn (a0g z);obtain⟨st,hst⟩:=gn (a0g (z+xy*2 ^ m));obtain⟨cz,hcz⟩:=gn (j0y z);rw[hsy]at A2 q1;rw[HSX.out,hsy,hsxy]at PXY;rw[hsp]at P0;rw[hsxy,hsp,hsxp]at P1;rw[hsz1,hsxp,hst]at P2;rw[hsz1,hcz]at POR;rw[hcz]at HLK;rw[hst]at hsz HRP;clear hu hlt hy by' hy0 hbl hnn hO hR hv hvb hcl hcl2 hgv hstep hm hns hm32 hp2 hpn hxy hxy0 hxp dxy' dx dyy hRP hz dp dxp dz ds hsy hsxy hsp hsxp hsz1 hst hcz
           have lk:=HLK.out wr br0;have C2:Blk (wr.alloc (.cells #[.string cz,.string ⟨#[48]⟩] 23)) wr.heap.size #[.string cz,.string ⟨#[48]⟩] 23:=Blk.new wr #[.string cz,.string ⟨#[48]⟩] 23;have F2:=hid (show Below wr.heap.size wr (wr.alloc (.cells #[.string cz,.string ⟨#[48]⟩] 23)) from br0.alloc nr _);have E2:=hid (a0a HBL.out F2.out);go_wp2_with fail;refine (A2 _ hG.out.bel).out.mono ?_;rintro e w2 ⟨rfl,rfl⟩;go_wp2_with fail;refine (POR _ _ C2).out.mono ?_;rintro e w2 ⟨rfl,rfl⟩;clear lk C2;go_wp2_with fail;refine (A1 _ E2.out).out.mono ?_;rintro e w2 ⟨rfl,rfl⟩;go_wp2_with fail;refine zx (A2 _ E2.out) ?_;go_wp2_with fail;refine (PXY _ (LK.out _ E2.out)).out.mono ?_;rintro e w3 ⟨rfl,hb3⟩;have F3:=hid (a0a F2.out hb3);clear hb3;go_wp2_with fail;refine (P0 _ (LK.out _ (a0a HBL.out F3.out))).out.mono ?_;rintro e w4 ⟨rfl,hb4⟩;have F4:=hid (a0a F3.out hb4);clear hb4;go_wp2_with fail;refine (P1 _ (LK.out _ (a0a HBL.out F4.out))).out.mono ?_;rintro e w5 ⟨rfl,hb5⟩;have F5:=hid (a0a F4.out hb5);clear hb5;go_wp2_with fail;refine (P2 _ (LK.out _ (a0a HBL.out F5.out))).out.mono ?_;rintro e w6 ⟨rfl,hb6⟩;have F6:=hid (a0a F5.out hb6);clear hb6;go_wp2_with (at_mapUpdate;refine wpList_mapUpdate_own _ rfl _ _ _ 211 rfl 3 23 (int_keyed U8) Jv _ B nn _ rfl (HO.out.kept (row:=none) ⟨F6.out.os,F6.out.tape,F6.out.output,F6.out.size,fun k hk _=>F6.out.block k hk⟩ (by simp)) (by have:=HNN.out;have:=HN.out;have:=IL.out;have:=SL.out;have:=KL.out;have:=UL.out;unfold maxLen;omega) _ _ _ rfl rfl hwf.out _ [] (plainElem_string Gf hsz.out) ?_;intro w7 hown hgrow)
           obtain⟨OW,B7⟩:=zg hown (k0R (a0a HBL.out F6.out) hgrow (by rw[HB.out];exact Z3 _));clear hown hgrow HLK;go_roundw
           case rel=>
            refine⟨u+1,by go_num,by have:=UL.out;omega,hid ⟨B7.out,nn+1,_,by have:=HNN.out;omega,OW.out,?_⟩⟩;rw[HST.out];exact HRP.out
           case measure=>simp[intOf]<;>(have:=UL.out;omega)
         .have q2:decide ((s:Int)+(u:Int)<=(n:Int))=false:=by simp;omega
          have e1:u=n-s+1:=by have:=SL.out;omega
          have f5:(u:Int)<=100:=by have:=HN.out;omega
          subst e1;clear hu hlt;have hck:=hid (c1y N D n i s k);go_wp2_with fail;go_roundw
          case rel=>exact⟨k+1,by go_num,by have:=KL.out;omega,hid (hG.out.mono (by have:=HN.out;omega) hck.out)⟩
          case measure=>simp[intOf]<;>(have:=KL.out;omega)
       .have q0:decide ((k:Int)<((n+1:Nat):Int))=false:=by simp;omega
        have dk:decide ((k:Int)<(n:Int)+1)=false:=by simp;omega
        have e1:k=n+1:=by omega
        subst e1;clear hk hlt;have hcs:=hid (c1n N D n i s);go_wp2_with fail;go_roundw
        case rel=>exact⟨s+1,by go_num,by have:=SL.out;omega,hid (hG.out.mono (by have:=HN.out;omega) hcs.out)⟩
        case measure=>simp[intOf]<;>(have:=SL.out;omega)
    .have q0:decide ((s:Int)<((n+1:Nat):Int))=false:=by simp;omega
     have d30:decide ((s:Int)<(n:Int)+1)=false:=by simp;omega
     have e1:s=n+1:=by omega
     subst e1;clear hs hlt;have hrow:=hid (c1z N D n i);go_wp2_with fail;go_roundw
     case rel=>exact⟨i+1,by go_num,by have:=IL.out;omega,hid (hG.out.mono (by have:=HN.out;omega) hrow.out)⟩
     case measure=>simp[intOf]<;>(have:=IL.out;omega)
  .have q0:decide ((i:Int)<((n+1:Nat):Int))=false:=by simp;omega
   have di:decide ((i:Int)<(n:Int)+1)=false:=by simp;omega
   have e1:i=n+1:=by omega
   subst e1;clear hi hlt;obtain⟨hbl,nn,Dm,h1,h2,h3⟩:=hG.out;obtain⟨HBL,H1,H2,H3⟩:=zd hbl h1 h2 h3;clear hbl h1 h2 h3;go_wp2_with fail;go_ret
   refine⟨⟨B,nn,Dm,rfl,by rw[<- HB.out];exact B1.out.size,by have:=H1.out;have:=HN.out;omega,H2.out,?_⟩,a0a B1.out HBL.out⟩;have e2:c2 N D n (n+1) 0 0 0=gV N D true n:=funext fun v=>v0Z HND.out n v
   rw[<- e2];exact H3.out
end
section
open Go.RowKit Go.Shelf
open Go.Lib (decDigits nDigits)
def d3 (t:Bool×Int×Int):Value:=.agg #[.bool t.1,.int .i64 t.2.1,.int .i64 t.2.2]
def b1n (N D:Nat)(l:List UInt8):Bool×Int×Int:=match s1 N D l 0 0 with
 | none=>(false,0,(l.length:Nat))
 | some (x,p)=>(true,(x:Nat),(p:Nat))
def y0Y (N D:Nat)(l:List UInt8):Bool×Int×Int:=match s1 N D l 0 0 with
 | none=>(false,0,(l.length:Nat))
 | some (x,p)=>match s1 N D l p 0 with
  | none=>(false,0,(l.length:Nat))
  | some (y,q)=>(true,(x:Int)-(y:Int),(q:Nat))
def oT (a b:ByteArray):Bool×Int×Int:=if gE a b=0 then b1n (bN (cW a)) (bN (qD a)) b.data.toList else (false,0,0)
def wT (a b:ByteArray):Bool×Int×Int:=if gE a b=0 then y0Y (bN (cW a)) (bN (qD a)) b.data.toList else (false,0,0)
theorem d0g {b:ByteArray}(h:c0t b=0):b.size<=256:=by
 have h5:=(d0h h 0).2.1;have h6:=a0z (b.extract 0 b.size);have h7:=(d0h h 0).2.2;rw[h5,A9,a0z]at h6;omega
def x0X (w:World)(a b:ByteArray)(ha:a.size<=100000)(hb:b.size<=100000)(hL:Lay w):
 Calls Tryz.prog 136 #[.string a,.string b,.int .i64 1] w fun e w'=>e=.returned (.tuple #[d3 (oT a b),.int .i64 (gE a b)])/\Below w.heap.size w w':=by
 by_cases he:gE a b=0
 .have hs:=d0g (d0o he).2;have hND:=(b0S (d0o he).1).2;have hl:b.data.toList.length=b.size:=a0z b;have h1:=j0U hND (l:=b.data.toList) b.data.toList.length 0 [] 0 (J5 _) (by omega);rw[oT,U0 he,b1n,he];cases hS:s1 (bN (cW a)) (bN (qD a)) b.data.toList 0 0 with
  | none=>
   rw[hS]at h1;refine (e0j w a b 1 (by omega) (by omega) ha hb he hL h1).mono fun e w' h=>?_
   rw[h.1];exact⟨by rw[hl];rfl,h.2⟩
  | some y=>
   obtain⟨x,p⟩:=y;rw[hS]at h1;have h2:=n0V hND b.data.toList.length 0 0 x p (J5 _) (by omega) hS;exact o0G w a b x p (by omega) (by omega) ha hb he hL h1
 .rw[oT,Q0 he];exact i0f w a b 1 ha hb he hL
def x0W (w:World)(a b:ByteArray)(ha:a.size<=100000)(hb:b.size<=100000)(hL:Lay w):
 Calls Tryz.prog 136 #[.string a,.string b,.int .i64 2] w fun e w'=>e=.returned (.tuple #[d3 (wT a b),.int .i64 (gE a b)])/\Below w.heap.size w w':=by
 by_cases he:gE a b=0
 .have hs:=d0g (d0o he).2;have hND:=(b0S (d0o he).1).2;have hl:b.data.toList.length=b.size:=a0z b;have h1:=z0t hND (l:=b.data.toList) b.data.toList.length 0 [] 0 (J5 _) (by omega);rw[wT,U0 he,y0Y,he];cases hS:s1 (bN (cW a)) (bN (qD a)) b.data.toList 0 0 with
  | none=>
   rw[hS]at h1;refine (e0j w a b 2 (by omega) (by omega) ha hb he hL h1).mono fun e w' h=>?_
   rw[h.1];exact⟨by rw[hl];rfl,h.2⟩
  | some y=>
   obtain⟨x,p⟩:=y;rw[hS]at h1;have h2:=n0V hND b.data.toList.length 0 0 x p (Nat.zero_le _) (by omega) hS;have h3:=j0U hND (l:=b.data.toList) b.data.toList.length p ([] ++ [x]) 0 h2.2.1 (by omega);dsimp only at h1 |-;rw[h3]at h1;cases hT:s1 (bN (cW a)) (bN (qD a)) b.data.toList p 0 with
   | none=>
    rw[hT]at h1;refine (e0j w a b 2 (by omega) (by omega) ha hb he hL h1).mono fun e w' h=>?_
    rw[h.1];exact⟨by rw[hl];rfl,h.2⟩
   | some z=>
    obtain⟨y,q⟩:=z;rw[hT]at h1;have h4:=n0V hND b.data.toList.length p 0 y q h2.2.1 (by omega) hT;exact o0F w a b x y q (by omega) (by omega) (by omega) ha hb he hL h1
 .rw[wT,Q0 he];exact i0f w a b 2 ha hb he hL
def b1Q (w:World)(a b:ByteArray)(ha:a.size<=100000)(hb:b.size<=100000)(hL:Lay w):
 Calls Tryz.prog 133 #[.string a,.string b] w fun e w'=>e=.returned (.tuple #[d3 (oT a b),.int .i64 (gE a b)])/\Below w.heap.size w w':=by
 have HC:=fun V hV=>hid (x0X V a b ha hb hV)
 obtain⟨t,ht⟩:=gn (oT a b);obtain⟨x,hx⟩:=gn (gE a b);rw[ht,hx]at HC;rw[ht,hx];obtain⟨d,v,u⟩:=t;simp only[d3]at HC;obtain⟨HL,b0,x0⟩:=zc hL ((J3 w.heap.size w).alloc nr (.cells #[.bool false,.int .i64 0,.int .i64 0] 62)) (Blk.new w #[.bool false,.int .i64 0,.int .i64 0] 62);clear ha hb hL hx ht;go_enter Tryz.func133,Tryz.ntmps133;go_wp2_with fail;refine (HC _ (HL.out.call b0.out)).out.mono ?_;rintro e w2 ⟨rfl,hb2⟩;obtain⟨b2,x2⟩:=zg (a0a b0.out hb2) (x0.out.call hb2);have r0:w2.cell? ⟨w.heap.size,0,none⟩=some (.bool false):=x2.out.cell 0;have r1:w2.cell? ⟨w.heap.size,1,none⟩=some (.int .i64 0):=x2.out.cell 1;have r2:w2.cell? ⟨w.heap.size,2,none⟩=some (.int .i64 0):=x2.out.cell 2;have f0:=x2.out.free 0;have f1:=x2.out.free 1;have f2:=x2.out.free 2;clear hb2;go_wp2_with fail;have s3:=((x2.out.set 0 (.bool d)).set 1 (.int .i64 v)).set 2 (.int .i64 u);have k0:=s3.cell 0;have k1:=s3.cell 1;have k2:=s3.cell 2;simp at k0 k1 k2;refine J6 (v:=.tuple #[.agg #[.bool d,.int .i64 v,.int .i64 u],.int .i64 x]) (by simp[results,Tryz.results133,go_sem,k0,k1,k2]) rfl ⟨rfl,?_⟩;exact ((b2.out.setCell nr _).setCell nr _).setCell nr _
def b1P (w:World)(a b:ByteArray)(ha:a.size<=100000)(hb:b.size<=100000)(hL:Lay w):
 Calls Tryz.prog 44 #[.string a,.string b] w fun e w'=>e=.returned (.tuple #[d3 (wT a b),.int .i64 (gE a b)])/\Below w.heap.size w w':=by
 have HC:=fun V hV=>hid (x0W V a b ha hb hV)
 obtain⟨t,ht⟩:=gn (wT a b);obtain⟨x,hx⟩:=gn (gE a b);rw[ht,hx]at HC;rw[ht,hx];obtain⟨d,v,u⟩:=t;simp only[d3]at HC;obtain⟨HL,b0,x0⟩:=zc hL ((J3 w.heap.size w).alloc nr (.cells #[.bool false,.int .i64 0,.int .i64 0] 62)) (Blk.new w #[.bool false,.int .i64 0,.int .i64 0] 62);clear ha hb hL hx ht;go_enter Tryz.func44,Tryz.ntmps44;go_wp2_with fail;refine (HC _ (HL.out.call b0.out)).out.mono ?_;rintro e w2 ⟨rfl,hb2⟩;obtain⟨b2,x2⟩:=zg (a0a b0.out hb2) (x0.out.call hb2);have r0:w2.cell? ⟨w.heap.size,0,none⟩=some (.bool false):=x2.out.cell 0;have r1:w2.cell? ⟨w.heap.size,1,none⟩=some (.int .i64 0):=x2.out.cell 1;have r2:w2.cell? ⟨w.heap.size,2,none⟩=some (.int .i64 0):=x2.out.cell 2;have f0:=x2.out.free 0;have f1:=x2.out.free 1;have f2:=x2.out.free 2;clear hb2;go_wp2_with fail;have s3:=((x2.out.set 0 (.bool d)).set 1 (.int .i64 v)).set 2 (.int .i64 u);have k0:=s3.cell 0;have k1:=s3.cell 1;have k2:=s3.cell 2;simp at k0 k1 k2;refine J6 (v:=.tuple #[.agg #[.bool d,.int .i64 v,.int .i64 u],.int .i64 x]) (by simp[results,Tryz.results44,go_sem,k0,k1,k2]) rfl ⟨rfl,?_⟩;exact ((b2.out.setCell nr _).setCell nr _).setCell nr _
end
end Go.Proofs.YtfkpfpobmobnbaaGreatDoor
