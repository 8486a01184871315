/- Texts that the proof rests on, merged: Sq3, Byd, Fd8, Sq4, C3, C4, Lasts, Last2, C5, C6, E1, SeqB, E2. -/
import Derived.Test.YtlmnpocifldpmaaGreatDoorKc6
import Derived.Deep.LoopGhost
set_option linter.unusedVariables false
set_option linter.unusedSimpArgs false
set_option linter.unusedSectionVars false
set_option maxRecDepth 100000
set_option maxHeartbeats 8000000
namespace Go.Proofs.YtlmnpocifldpmaaGreatDoor
open Go.RowKit
open Go.Lib (decDigits nDigits)
def sqB (g:Int→Nat)(n:Nat)(t:Int)(c:List Int):Nat→Nat
 | 0=>1
 | i+1=>sqB g n t c i*blw g n (t-c.getD i 0)
theorem l0h (g:Int→Nat)(n:Nat)(t:Int)(i:Nat):∀ (l:List Int) (k:Nat),i<k→sqF g n t i k l=zS n g ^ l.length
 | [],_,_=>rfl
 | c::r,k,h=>by
  rw[sqF,l0h g n t i r (k+1) (by omega),sq1,if_neg (by omega),if_neg (by omega),List.length_cons,Nat.pow_succ,Nat.mul_comm]
theorem n0R (g:Int→Nat)(n:Nat)(t:Int)(i:Nat)(c:List Int):∀ m k,k+m=i→i≤c.length→sqB g n t c k*sqF g n t i k (c.drop k)=sqB g n t c i*sqF g n t i i (c.drop i)
 | 0,k,h,_=>by
  obtain rfl:k=i:=by omega
  rfl
 | m+1,k,h,hi=>by
  have hk:k<c.length:=by omega
  have hd:c.getD k 0=c[k]:=by rw[List.getD_eq_getElem?_getD,List.getElem?_eq_getElem hk];rfl
  rw[← n0R g n t i c m (k+1) (by omega) hi,List.drop_eq_getElem_cons hk,sqF,sq1,if_pos (by omega),sqB,← hd,Nat.mul_assoc]
theorem t0u (g:Int→Nat)(n:Nat)(t:Int)(c:List Int):sqF g n t c.length 0 c=sqB g n t c c.length:=by
 have h:=n0R g n t c.length c c.length 0 (by omega) (Nat.le_refl _);rw[List.drop_length,sqF,Nat.mul_one]at h;rw[← h,sqB,Nat.one_mul];rfl
theorem t0t (g:Int→Nat)(n:Nat)(t:Int){c:List Int}{i:Nat}(hi:i<c.length):sqF g n t i 0 c=sqB g n t c i*(zS n g-blw g n (t-c.getD i 0))*zS n g ^ (c.length-1-i):=by
 have h:=n0R g n t i c i 0 (by omega) (by omega);have hd:c.getD i 0=c[i]:=by rw[List.getD_eq_getElem?_getD,List.getElem?_eq_getElem hi];rfl
 rw[List.drop_eq_getElem_cons hi,sqF,sq1,if_neg (by omega),if_pos rfl,l0h g n t i (c.drop (i+1)) (i+1) (by omega),List.length_drop,sqB,Nat.one_mul]at h;rw[Nat.mul_assoc,hd,show c.length-1-i=c.length-(i+1) by omega,← h];rfl
theorem s0z {g:Int→Nat}{n:Nat}(hz:zS n g≤2 ^ n)(t:Int)(c:List Int):∀ i,sqB g n t c i≤2 ^ (n*i)
 | 0=>by rw[Nat.mul_zero];exact Nat.le_refl _
 | i+1=>by
  rw[sqB,Nat.mul_succ,Nat.pow_add];exact Nat.mul_le_mul (s0z hz t c i) (Nat.le_trans (m0f g n _) hz)
theorem g0y {g:Int→Nat}{n:Nat}(hz:zS n g≤2 ^ n)(i:Nat):zS n g ^ i≤2 ^ (n*i):=by
 rw[Nat.pow_mul];exact Nat.pow_le_pow_left hz i
def sV (f:Int→Nat)(l:List Int):Nat:=(l.map f).sum
theorem s0E (f:Int→Nat):sV f []=0:=rfl
theorem k0n {f:Int→Nat}{l:List Int}{i:Nat}{v:Int}(h:l[i]?=some v):sV f (l.take (i+1))=sV f (l.take i)+f v:=by
 unfold sV;rw[List.take_add_one,h,Option.toList_some,List.map_append,List.sum_append];simp
theorem v0G {f:Int→Nat}{l:List Int}(i:Nat):sV f (l.take i)≤sV f l:=by
 have e:sV f l=sV f (l.take i)+sV f (l.drop i):=by
  conv=>lhs;rw[← List.take_append_drop i l]
  unfold sV;rw[List.map_append,List.sum_append]
 omega
theorem t0H {f:Int→Nat}{l m:List Int}(h:l.Perm m):sV f l=sV f m:=(h.map f).sum_nat
def q0o (g:Int→Nat)(n:Nat)(l:List Int):Prop:=∀ f:Int→Nat,(∀ v,g v=0→f v=0)→sV f l=zS n f
section
variable {gA gC : Int → Nat} {n : Nat} {kA kC : List Int} (hA : zS n gA ≤ 2 ^ n) (hC : zS n gC ≤ 2 ^ n) (rA : q0o gA n kA) (rC : q0o gC n kC)
def buV (g:Int→Nat)(most:Int)(v:Int):Nat:=if v<most then g v else 0
def i0s (g:Int→Nat)(k:List Int)(most:Int)(j:Nat):Nat:=sV (buV g most) (k.take j)
theorem t0c {g:Int→Nat}{k:List Int}(r:q0o g n k)(most:Int):i0s g k most k.length=blw g n most:=by
 unfold i0s;rw[List.take_length,r (buV g most) (fun v h=>by unfold buV;rw[h];split<;>rfl)];unfold blw;refine b0u fun y _ _=>?_
 unfold buV;by_cases h:y<most
 ·rw[if_pos h,if_pos (decide_eq_true h)]
 ·rw[if_neg h,if_neg (by simpa using h)]
theorem x0D {g:Int→Nat}{k:List Int}(hz:zS n g≤2 ^ n)(r:q0o g n k)(most:Int)(j:Nat):i0s g k most j≤2 ^ n:=by
 have h:=t0c r most;unfold i0s at h;rw[List.take_length]at h;have h1:=v0G (f:=buV g most) (l:=k) j;have h2:=m0f g n most;unfold i0s;omega
theorem u0Z {g:Int→Nat}{k:List Int}(hz:zS n g≤2 ^ n)(r:q0o g n k){j:Nat}{v most:Int}(h:k[j]?=some v)(hv:v<most)(hn:n≤1000):b0b (· + ·) (dyB (i0s g k most j) n) (dyB (g v) n)=dyB (i0s g k most (j+1)) n:=by
 have e:i0s g k most (j+1)=i0s g k most j+g v:=by
  have:=k0n (f:=buV g most) h;unfold i0s;rw[this];unfold buV;rw[if_pos hv]
 have:=x0D hz r most (j+1);rw[e,p0G (by omega) hn]
theorem u0Y {g:Int→Nat}{k:List Int}{j:Nat}{v most:Int}(h:k[j]?=some v)(hv:¬ v<most):i0s g k most (j+1)=i0s g k most j:=by
 have:=k0n (f:=buV g most) h;unfold i0s;rw[this];unfold buV;rw[if_neg hv];rfl
theorem q0H {i:Nat}(hC:zS n gC≤2 ^ n)(hm:n*(i+1)≤1000):b0b (· * ·) (dyB (zS n gC ^ i) (n*i)) (dyB (zS n gC) n)=dyB (zS n gC ^ (i+1)) (n*(i+1)):=by
 rw[j0G (g0y hC i) hC (by rw[Nat.mul_succ]at hm;exact hm),Nat.pow_succ,Nat.mul_succ]
def sqP (gA gC:Int→Nat)(n:Nat)(thr x:Int)(c:List Int)(i:Nat):Nat:=gA x*sqB gC n (thr+x) c i
theorem n0O (hA:zS n gA≤2 ^ n)(hC:zS n gC≤2 ^ n)(hx:∀ x,gA x≤2 ^ n)(thr x:Int)(c:List Int)(i:Nat):sqP gA gC n thr x c i≤2 ^ (n*(i+1)):=by
 unfold sqP;rw[Nat.mul_succ,Nat.add_comm,Nat.pow_add];exact Nat.mul_le_mul (hx x) (s0z hC _ _ _)
theorem q0F (hA:zS n gA≤2 ^ n)(hC:zS n gC≤2 ^ n)(hx:∀ x,gA x≤2 ^ n)(thr x:Int)(c:List Int){i:Nat}(hm:n*(i+2)≤1000):
 b0b (· * ·) (dyB (sqP gA gC n thr x c i) (n*(i+1))) (dyB (blw gC n (thr+x-c.getD i 0)) n)=dyB (sqP gA gC n thr x c (i+1)) (n*(i+2)):=by
 rw[j0G (n0O hA hC hx thr x c i) (Nat.le_trans (m0f gC n _) hC) (by rw[Nat.mul_succ]at hm;exact hm)];unfold sqP;rw[sqB,Nat.mul_assoc,show n*(i+1)+n=n*(i+2) from (Nat.mul_succ n (i+1)).symm]
theorem v0v (hA:zS n gA≤2 ^ n)(hC:zS n gC≤2 ^ n)(hx:∀ x,gA x≤2 ^ n)(thr x:Int){c:List Int}{i:Nat}(hi:i<c.length)(hm:n*(c.length+1)≤1000):
 b0b (· * ·) (b0b (· * ·) (dyB (sqP gA gC n thr x c i) (n*(i+1))) (b0b (· - ·) (dyB (zS n gC) n) (dyB (blw gC n (thr+x-c.getD i 0)) n))) (dyB (zS n gC ^ (c.length-1-i)) (n*(c.length-1-i)))=dyB (gA x*sqF gC n (thr+x) i 0 c) (n*(c.length+1)):=by
 have b1:=m0f gC n (thr+x-c.getD i 0);have e0:n*(i+1)+n+n*(c.length-1-i)=n*(c.length+1):=by
  rw[← Nat.mul_succ,← Nat.mul_add];congr 1;omega
 have m1:n*(i+1)+n≤1000:=by omega
 have l1:sqP gA gC n thr x c i*(zS n gC-blw gC n (thr+x-c.getD i 0))≤2 ^ (n*(i+1)+n):=by
  rw[Nat.pow_add];exact Nat.mul_le_mul (n0O hA hC hx thr x c i) (Nat.le_trans (Nat.sub_le _ _) hC)
 rw[s0U hC b1 (by omega),j0G (n0O hA hC hx thr x c i) (Nat.le_trans (Nat.sub_le _ _) hC) m1,j0G l1 (g0y hC _) (by omega),e0,t0t gC n _ hi];unfold sqP
 congr 1
 rw[Nat.mul_assoc,Nat.mul_assoc,Nat.mul_assoc]
def sqS (gA gC:Int→Nat)(n:Nat)(thr:Int)(c:List Int)(k:List Int)(i j:Nat):Nat:=sV (fun x=>gA x*sqF gC n (thr+x) i 0 c) (k.take j)
theorem n0N (rA:q0o gA n kA)(thr:Int)(c:List Int)(i:Nat):sqS gA gC n thr c kA i kA.length=sqT gA gC n thr c i:=by
 unfold sqS sqT;rw[List.take_length];exact rA _ fun v h=>by rw[h,Nat.zero_mul]
theorem n0M (hA:zS n gA≤2 ^ n)(hC:zS n gC≤2 ^ n)(thr:Int)(c:List Int){i:Nat}(hi:i≤c.length):sqT gA gC n thr c i≤2 ^ (n*(c.length+1)):=by
 have h1:=k0i gA gC n thr c;have h2:=n0I (f:=sqT gA gC n thr c) (i:=i) (n:=c.length+1) (by omega);have h3:zS n gA*zS n gC ^ c.length≤2 ^ n*2 ^ (n*c.length):=Nat.mul_le_mul hA (g0y hC _);rw[Nat.mul_succ,Nat.add_comm,Nat.pow_add];omega
theorem v0x (hA:zS n gA≤2 ^ n)(hC:zS n gC≤2 ^ n)(rA:q0o gA n kA)(thr:Int)(c:List Int){i:Nat}(hi:i≤c.length)(j:Nat):sqS gA gC n thr c kA i j≤2 ^ (n*(c.length+1)):=by
 have h:=n0N (gC:=gC) rA thr c i;unfold sqS at h;rw[List.take_length]at h;have h1:=v0G (f:=fun x=>gA x*sqF gC n (thr+x) i 0 c) (l:=kA) j;have h2:=n0M hA hC thr c hi;unfold sqS;omega
theorem n0K (hA:zS n gA≤2 ^ n)(hC:zS n gC≤2 ^ n)(rA:q0o gA n kA)(thr:Int){c:List Int}{i j:Nat}{x:Int}(hi:i≤c.length)(h:kA[j]?=some x)(hm:n*(c.length+1)≤1000):
 b0b (· + ·) (dyB (sqS gA gC n thr c kA i j) (n*(c.length+1))) (dyB (gA x*sqF gC n (thr+x) i 0 c) (n*(c.length+1)))=dyB (sqS gA gC n thr c kA i (j+1)) (n*(c.length+1)):=by
 have e:sqS gA gC n thr c kA i (j+1)=sqS gA gC n thr c kA i j+gA x*sqF gC n (thr+x) i 0 c:=k0n h;have:=v0x (gC:=gC) hA hC rA thr c hi (j+1);rw[e,p0G (by omega) hm]
theorem n0P (thr x:Int)(c:List Int):sqP gA gC n thr x c c.length=gA x*sqF gC n (thr+x) c.length 0 c:=by
 unfold sqP;rw[t0u]
def sqL (gA gC:Int→Nat)(n L:Nat):Nat:=2 ^ (n*(L+1))-zS n gA*zS n gC ^ L
theorem t0r (hA:zS n gA≤2 ^ n)(hC:zS n gC≤2 ^ n){L:Nat}(hm:n*(L+1)≤1000):b0b (· - ·) ⟨#[49]⟩ (b0b (· * ·) (dyB (zS n gA) n) (dyB (zS n gC ^ L) (n*L)))=dyB (sqL gA gC n L) (n*(L+1)):=by
 have e:n+n*L=n*(L+1):=by rw[Nat.mul_succ,Nat.add_comm]
 have h:zS n gA*zS n gC ^ L≤2 ^ (n*(L+1)):=by
  rw[← e,Nat.pow_add];exact Nat.mul_le_mul hA (g0y hC L)
 rw[j0G hA (g0y hC L) (by omega),e,← p0F (n*(L+1)),s0U (Nat.le_refl _) h hm];rfl
end
def m1B:ByteArray:=⟨#[45,49]⟩
def g0u (gA gC:Int→Nat)(n:Nat)(thr:Int)(c:List Int)(i:Nat):List (ByteArray×ByteArray):=(List.range i).map fun k=>(a0f k,dyB (sqT gA gC n thr c k) (n*(c.length+1)))
theorem g0D (gA gC:Int→Nat)(n:Nat)(thr:Int)(c:List Int)(i:Nat):g0u gA gC n thr c (i+1)=g0u gA gC n thr c i ++ [(a0f i,dyB (sqT gA gC n thr c i) (n*(c.length+1)))]:=by
 unfold g0u;rw[List.range_succ,List.map_append];rfl
theorem i0R (gA gC:Int→Nat)(n:Nat)(thr:Int)(c:List Int)(i:Nat):(g0u gA gC n thr c i).length=i:=by simp[g0u]
def sqW (gA gC:Int→Nat)(n:Nat)(thr:Int)(c:List Int)(i:Nat):List (ByteArray×ByteArray):=
 [(m1B,dyB (sqT gA gC n thr c c.length) (n*(c.length+1))),(a0H,dyB (sqL gA gC n c.length) (n*(c.length+1)))]++g0u gA gC n thr c i
theorem q0I (gA gC:Int→Nat)(n:Nat)(thr:Int)(c:List Int)(i:Nat):sqW gA gC n thr c (i+1)=sqW gA gC n thr c i ++ [(a0f i,dyB (sqT gA gC n thr c i) (n*(c.length+1)))]:=by
 unfold sqW;rw[g0D,List.append_assoc]
def sqD (gA gC:Int→Nat)(n:Nat)(thr:Int)(c:List Int):List (ByteArray×ByteArray):=(sqW gA gC n thr c c.length).filter s0J
theorem s0w (gA gC:Int→Nat)(n:Nat)(thr:Int)(c:List Int):((sqW gA gC n thr c c.length).map b0p).Nodup:=by
 unfold sqW g0u;rw[List.map_append,List.map_map];have hm:∀ k:Nat,∀ r:ByteArray,b0p (m1B,r)≠b0p (a0f k,r):=fun k r e=>by
  have e1:zB (-1)=a0f k:=ByteArray.ext (Array.ext' (by
   have:b0p (m1B,r)=(zB (-1)).data.toList:=show m1B.data.toList=(zB (-1)).data.toList from by decide +kernel
   rw[← this];exact e))
  rw[← k0X]at e1;have:=i0C e1;omega
 have hl:∀ k:Nat,(a0f k).data.toList≠a0H.data.toList:=fun k=>by
  have:=f0D (k:Int);rw[k0X]at this;exact this
 refine List.nodup_append.2 ⟨show [m1B.data.toList,a0H.data.toList].Nodup from by decide +kernel,?_,?_⟩
 ·rw[List.Nodup,List.pairwise_map];refine List.nodup_range.imp fun {a b} hab e=>hab ?_
  simp only[Function.comp,b0p,a0z]at e;exact c0P e
 ·intro a ha b hb e;subst e;simp only[List.mem_map,Function.comp]at hb;obtain⟨k,_,rfl⟩:=hb;simp only[List.map_cons,List.map_nil,List.mem_cons,List.not_mem_nil,or_false]at ha;rcases ha with h | h
  ·exact hm k ⟨#[]⟩ h.symm
  ·exact hl k h
theorem s0y (gA gC:Int→Nat)(n:Nat)(thr:Int)(c:List Int):((sqD gA gC n thr c).map b0p).Nodup:=(List.filter_sublist.map b0p).nodup (s0w gA gC n thr c)
def mxR (s t:ByteArray):ByteArray:=if cmE s t=0 then (if 0≤cmB s t then s else t) else ⟨#[]⟩
def w0V (F:ByteArray)(M:List (ByteArray×ByteArray))(t:ByteArray)(p:ByteArray×ByteArray):ByteArray:=b0b (· + ·) t (mxR (b0b (· - ·) p.2 (b0b (· * ·) F (e0h M p.1))) ⟨#[48]⟩)
def i0y (F:ByteArray)(L M:List (ByteArray×ByteArray)):ByteArray:=L.foldl (w0V F M) ⟨#[48]⟩
theorem g0n (F:ByteArray)(L M:List (ByteArray×ByteArray))(p:ByteArray×ByteArray):i0y F (L ++ [p]) M=w0V F M (i0y F L M) p:=by
 unfold i0y;rw[List.foldl_append];rfl
section
variable {G H m K : Nat} (hG0 : G ≠ 0) (hK : 0 < K ∧ K ≤ 3000) (hG : G * 2 ^ m < 10 ^ K) (hH : H * 2 ^ m < 10 ^ K)
include hG0 hK hG hH
theorem g0m:G*2 ^ m≠0:=Nat.mul_ne_zero hG0 (c0S m)
theorem x0C:2 ^ m<10 ^ K:=Nat.lt_of_le_of_lt (Nat.le_mul_of_pos_left _ (by omega)) hG
theorem d0m {z:Int}(hz:z.natAbs<10 ^ (K+4)):¬ ovQ (mkRat z (G*2 ^ m)):=by
 have h1:=a0j (k:=K+4) (by omega) hz;have h2:=a0j (k:=K) (by omega) hG;exact (c0O (K:=4000) (g0m hG0 hK hG hH) (by omega) (by omega)).fits (by omega) (by omega)
theorem m0c:¬ ovQ (mkRat (H:Int) G):=by
 have h1:=a0j (k:=K) (by omega) (Nat.lt_of_le_of_lt (Nat.le_mul_of_pos_right H (Nat.pos_of_ne_zero (c0S m))) hH);have h2:=a0j (k:=K) (by omega) (Nat.lt_of_le_of_lt (Nat.le_mul_of_pos_right G (Nat.pos_of_ne_zero (c0S m))) hG);exact (c0O (K:=4000) hG0 (by rw[Int.natAbs_natCast];omega) (by omega)).fits (by omega) (by omega)
theorem q0f {x:Nat}(hx:x≤2 ^ m):dyB x m=txQ (dyQ x m)∧¬ ovQ (dyQ x m):=by
 have h0:=x0C hG0 hK hG hH;have h1:=a0j (k:=K) (by omega) (Nat.lt_of_le_of_lt hx h0);have h2:=a0j (k:=K) (by omega) h0;refine⟨e0Z (c0S m) (by omega) (by omega),?_⟩;exact (c0O (K:=4000) (c0S m) (by rw[Int.natAbs_natCast];omega) (by omega)).fits (by omega) (by omega)
theorem u0W {x y:Nat}(hx:x≤2 ^ m)(hy:y≤2 ^ m):mxR (b0b (· - ·) (dyB x m) (b0b (· * ·) (txQ (mkRat (H:Int) G)) (dyB y m))) ⟨#[48]⟩=txQ (mkRat ((x*G-y*H:Nat):Int) (G*2 ^ m)):=by
 have hden:=g0m hG0 hK hG hH;have hKK:(10:Nat) ^ K≤10 ^ (K+4):=Nat.pow_le_pow_right (by omega) (by omega);obtain⟨x1,x2⟩:=q0f hG0 hK hG hH hx;obtain⟨y1,y2⟩:=q0f hG0 hK hG hH hy;have hyH:y*H<10 ^ K:=Nat.lt_of_le_of_lt (by rw[Nat.mul_comm];exact Nat.mul_le_mul_left H hy) hH;have hxG:x*G<10 ^ K:=Nat.lt_of_le_of_lt (by rw[Nat.mul_comm];exact Nat.mul_le_mul_left G hx) hG;have e1:mkRat (H:Int) G*dyQ y m=mkRat ((y*H:Nat):Int) (G*2 ^ m):=by
  unfold dyQ;rw[Rat.mkRat_mul_mkRat,Int.natCast_mul,Int.mul_comm]
 have f1:=d0m hG0 hK hG hH (z:=((y*H:Nat):Int)) (by rw[Int.natAbs_natCast];omega);have o1:=(d0a (f:=(· * ·)) (m0c hG0 hK hG hH) y2 (by show ¬ ovQ (_*_);rw[e1];exact f1)).1;have e2:dyQ x m-mkRat ((y*H:Nat):Int) (G*2 ^ m)=mkRat (((x*G:Nat):Int)-((y*H:Nat):Int)) (G*2 ^ m):=by
  have:dyQ x m=mkRat ((x*G:Nat):Int) (G*2 ^ m):=by
   unfold dyQ;rw[Nat.mul_comm G,Int.natCast_mul,Rat.mkRat_mul_right hG0]
  rw[this,Rat.sub_eq_add_neg,Rat.neg_mkRat,Rat.mkRat_add_mkRat _ _ hden hden,← Int.add_mul,Rat.mkRat_mul_right hden]
  rfl
 have f2:=d0m hG0 hK hG hH (z:=((x*G:Nat):Int)-((y*H:Nat):Int)) (by omega);have o2:=(d0a (f:=(· - ·)) x2 f1 (by show ¬ ovQ (_-_);rw[e2];exact f2)).1;have hz0:(⟨#[48]⟩:ByteArray)=txQ (mkRat 0 (G*2 ^ m)):=by
  rw[← h0s (G*2 ^ m)];exact e0Z hden (by rw[b0L];omega) (by have:=a0j (k:=K) (by omega) hG;omega)
 have f3:=d0m hG0 hK hG hH (z:=0) (by rw[Int.natAbs_zero];exact Nat.pow_pos (by omega));rw[x1,y1,o1];show mxR (b0b _ _ (txQ (_*_))) _=_
 rw[e1,o2];show mxR (txQ (_-_)) _=_
 rw[e2,hz0];obtain⟨c1,c2⟩:=s0W f2 f3;unfold mxR;rw[c2,if_pos rfl,c1];have e3:mkRat (((x*G:Nat):Int)-((y*H:Nat):Int)) (G*2 ^ m)-mkRat 0 (G*2 ^ m)=mkRat (((x*G:Nat):Int)-((y*H:Nat):Int)) (G*2 ^ m):=by
  rw[Rat.zero_mkRat,Rat.sub_eq_add_neg,show -(0:Rat)=0 from rfl,Rat.add_zero]
 unfold q0r;rw[e3,o0c hden];by_cases hc:y*H≤x*G
 ·rw[if_pos (by unfold v0C;split<;>(try split)<;>omega)]
  congr 2
  omega
 ·rw[if_neg (by unfold v0C;split<;>(try split)<;>omega),Nat.sub_eq_zero_of_le (by omega)]
  rfl
theorem u0X {M:List (ByteArray×ByteArray)}{x y:ByteArray×ByteArray→Nat}:∀ {L:List (ByteArray×ByteArray)},L.length≤1000→(∀ p∈L,x p≤2 ^ m∧y p≤2 ^ m∧p.2=dyB (x p) m∧e0h M p.1=dyB (y p) m) →
 i0y (txQ (mkRat (H:Int) G)) L M=txQ (mkRat (((L.map fun p=>x p*G-y p*H).sum:Nat):Int) (G*2 ^ m))∧(L.map fun p=>x p*G-y p*H).sum≤L.length*10 ^ K:=by
 intro L
 induction h:L.length generalizing L with
 | zero=>
  intro _ _;obtain rfl:=List.length_eq_zero_iff.1 h;refine⟨?_,by simp⟩;show (⟨#[48]⟩:ByteArray)=_
  rw[← h0s (G*2 ^ m)];exact e0Z (g0m hG0 hK hG hH) (by rw[b0L];omega) (by have:=a0j (k:=K) (by omega) hG;omega)
 | succ k ih=>
  intro hl hp;obtain⟨r,p,rfl⟩:∃ r p,L=r ++ [p]:=⟨L.dropLast,L.getLast (fun e=>by subst e;simp at h),(List.dropLast_concat_getLast _).symm⟩;rw[List.length_append,List.length_singleton]at h;obtain⟨i1,i2⟩:=ih (L:=r) (by omega) (by omega) (fun q hq=>hp q (List.mem_append_left _ hq));obtain⟨p1,p2,p3,p4⟩:=hp p (by simp);have hden:=g0m hG0 hK hG hH;have hxG:x p*G<10 ^ K:=Nat.lt_of_le_of_lt (by rw[Nat.mul_comm];exact Nat.mul_le_mul_left G p1) hG;have hs:(List.map (fun p=>x p*G-y p*H) (r ++ [p])).sum=(r.map fun p=>x p*G-y p*H).sum+(x p*G-y p*H):=by simp
  have hle:(r.map fun p=>x p*G-y p*H).sum+(x p*G-y p*H)≤(k+1)*10 ^ K:=by
   rw[Nat.add_mul,Nat.one_mul];have:=Nat.sub_le (x p*G) (y p*H);omega
  have big:(k+1)*10 ^ K<10 ^ (K+4):=by
   rw[Nat.pow_add,Nat.mul_comm];refine Nat.mul_lt_mul_of_pos_left ?_ (Nat.pow_pos (by omega));omega
  rw[hs];refine⟨?_,hle⟩;rw[g0n,i1,w0V,p3,p4,u0W hG0 hK hG hH p1 p2];have e:mkRat (((r.map fun p=>x p*G-y p*H).sum:Nat):Int) (G*2 ^ m)+mkRat ((x p*G-y p*H:Nat):Int) (G*2 ^ m)=mkRat (((r.map fun p=>x p*G-y p*H).sum+(x p*G-y p*H):Nat):Int) (G*2 ^ m):=by
   rw[Rat.mkRat_add_mkRat _ _ hden hden,← Int.add_mul,Rat.mkRat_mul_right hden,Int.natCast_add]
  rw[(d0a (f:=(· + ·)) (d0m hG0 hK hG hH (by rw[Int.natAbs_natCast];omega)) (d0m hG0 hK hG hH (by rw[Int.natAbs_natCast];omega)) (by show ¬ ovQ (_+_);rw[e];exact d0m hG0 hK hG hH (by rw[Int.natAbs_natCast];omega))).1];show txQ (_+_)=_
  rw[e]
end
theorem m0I (k:Nat):a0f k≠a0H:=fun e=>by
 have:=f0D (k:Int);rw[k0X]at this;exact this (congrArg (fun b:ByteArray=>b.data.toList) e)
theorem h0a (f:ByteArray→Nat):∀ (L:List (ByteArray×ByteArray)),(∀ p∈L,s0J p=false→f p.1=0)→((L.filter s0J).map fun p=>f p.1).sum=(L.map fun p=>f p.1).sum
 | [],_=>rfl
 | p::r,h=>by
  have ih:=h0a f r (fun q hq=>h q (List.mem_cons_of_mem _ hq));cases hp:s0J p
  ·rw[List.filter_cons_of_neg (by simp[hp]),ih,List.map_cons,List.sum_cons,h p (List.mem_cons_self ..) hp,Nat.zero_add]
  ·rw[List.filter_cons_of_pos hp,List.map_cons,List.sum_cons,ih,List.map_cons,List.sum_cons]
theorem r0E:m1B≠a0H:=by decide
theorem u0g (k:Nat):m1B≠a0f k:=fun e=>by
 have e1:zB (-1)=a0f k:=(show zB (-1)=m1B from by decide +kernel).trans e;rw[← k0X]at e1;have:=i0C e1;omega
def d0F (gA gC:Int→Nat)(n:Nat)(thr:Int)(c:List Int)(key:ByteArray):Nat:=if key=a0H then sqL gA gC n c.length else if key=m1B then sqT gA gC n thr c c.length else a0i (fun i=>if a0f i=key then sqT gA gC n thr c i else 0) c.length
theorem b0N (gA gC:Int→Nat)(n:Nat)(thr:Int)(c:List Int):d0F gA gC n thr c a0H=sqL gA gC n c.length:=if_pos rfl
theorem c0z (gA gC:Int→Nat)(n:Nat)(thr:Int)(c:List Int):d0F gA gC n thr c m1B=sqT gA gC n thr c c.length:=by
 unfold d0F;rw[if_neg r0E,if_pos rfl]
theorem d0E (gA gC:Int→Nat)(n:Nat)(thr:Int)(c:List Int){i:Nat}(hi:i<c.length):d0F gA gC n thr c (a0f i)=sqT gA gC n thr c i:=by
 unfold d0F;rw[if_neg (m0I i),if_neg (fun e=>u0g i e.symm),a0b (d:=fun j=>if j=i then sqT gA gC n thr c i else 0) (fun j _=>by
  by_cases e:j=i
  ·subst e;rw[if_pos rfl,if_pos rfl]
  ·rw[if_neg e,if_neg (fun h=>e (l0H h))]),e0o,if_pos hi]
def x0j (L:Nat)(key:ByteArray):Prop:=key=a0H∨key=m1B∨∃ k,k<L∧key=a0f k
theorem f0K {gA gC:Int→Nat}{n:Nat}{thr:Int}{c:List Int}{p:ByteArray×ByteArray}:p∈sqW gA gC n thr c c.length↔x0j c.length p.1∧p.2=dyB (d0F gA gC n thr c p.1) (n*(c.length+1)):=by
 obtain⟨k,v⟩:=p;unfold sqW g0u x0j;rw[List.mem_append,List.mem_map];simp only[List.mem_cons,List.not_mem_nil,or_false,Prod.mk.injEq]
 constructor
 ·rintro ((⟨rfl,rfl⟩ | ⟨rfl,rfl⟩) | ⟨i,hi,rfl,rfl⟩)
  ·exact⟨.inr (.inl rfl),by rw[c0z]⟩
  ·exact⟨.inl rfl,by rw[b0N]⟩
  ·have hi:=List.mem_range.1 hi;exact⟨.inr (.inr ⟨i,hi,rfl⟩),by rw[d0E gA gC n thr c hi]⟩
 ·rintro⟨rfl | rfl | ⟨i,hi,rfl⟩,rfl⟩
  ·exact .inl (.inr ⟨rfl,by rw[b0N]⟩)
  ·exact .inl (.inl ⟨rfl,by rw[c0z]⟩)
  ·exact .inr ⟨i,List.mem_range.2 hi,rfl,by rw[d0E gA gC n thr c hi]⟩
theorem h0o {gA gC:Int→Nat}{n:Nat}{thr:Int}{c:List Int}{p:ByteArray×ByteArray}:p∈sqD gA gC n thr c↔p∈sqW gA gC n thr c c.length∧p.2≠⟨#[48]⟩:=by
 unfold sqD s0J;rw[List.mem_filter];simp
theorem s0u {gA gC:Int→Nat}{n:Nat}{thr:Int}{c:List Int}{key:ByteArray}(hk:x0j c.length key):e0h (a0D (sqD gA gC n thr c)) key=dyB (d0F gA gC n thr c key) (n*(c.length+1)):=by
 have hin:(key,dyB (d0F gA gC n thr c key) (n*(c.length+1)))∈sqW gA gC n thr c c.length:=f0K.2 ⟨hk,rfl⟩;by_cases h:dyB (d0F gA gC n thr c key) (n*(c.length+1))=⟨#[48]⟩
 ·rw[h];refine n0x fun p hp e=>?_
  rw[b0x,h0o]at hp;have:=(f0K.1 hp.1).2;rw[e,h]at this;exact hp.2 this
 ·exact n0w (b0x.2 (h0o.2 ⟨hin,h⟩)) (q0N (s0y gA gC n thr c))
theorem t0s (gA gC:Int→Nat)(n:Nat)(thr:Int)(c:List Int)(f:ByteArray→Nat):((sqW gA gC n thr c c.length).map fun p=>f p.1).sum=f m1B+f a0H+a0i (fun i=>f (a0f i)) c.length:=by
 unfold sqW;rw[List.map_append,List.sum_append];have:∀ m,((g0u gA gC n thr c m).map fun p=>f p.1).sum=a0i (fun i=>f (a0f i)) m:=by
  intro m
  induction m with
  | zero=>rfl
  | succ m ih=>rw[g0D,List.map_append,List.sum_append,ih];simp[a0i]
 rw[this];simp
theorem g0F {N1 D1 N2 D2 n e s e' s':Nat}(h1:N1<D1)(h2:N2<D2)(hN1:0<N1)(hN2:0<N2)(hs:s≤e)(hs':s'≤e'){K:Nat}(hK:0<K∧K≤3000){thr:Int}{c c':List Int}(hl:c.length=c'.length)(hm:n*(c.length+1)≤1000)(hlen:c.length<900)
 (hG:N1 ^ e*N2 ^ e'*2 ^ (n*(c.length+1))<10 ^ K) (hH:D1 ^ e*D2 ^ e'*2 ^ (n*(c.length+1))<10 ^ K)
 (hd:∀ (j:Nat) (a b:Int),c[j]?=some a→c'[j]?=some b→b-a≤s∧(s:Int)-(b-a)≤s'):
 cmB (i0y (txQ (mkRat ((D1 ^ e*D2 ^ e':Nat):Int) (N1 ^ e*N2 ^ e'))) (a0D (sqD (gV N1 D1 true n) (gV N2 D2 true n) n thr c)) (a0D (sqD (gV N1 D1 true n) (gV N2 D2 true n) n thr c'))) (b0b (· * ·) (txQ (mkRat ((D1 ^ e*D2 ^ e':Nat):Int) (N1 ^ e*N2 ^ e'))) (e0h (a0D (sqD (gV N1 D1 true n) (gV N2 D2 true n) n thr c)) a0H))≤0 ∧
 e0h (a0D (sqD (gV N1 D1 true n) (gV N2 D2 true n) n thr c)) a0H=e0h (a0D (sqD (gV N1 D1 true n) (gV N2 D2 true n) n thr c')) a0H:=by
 have hpriv:=m0r (n:=n) h1 h2 hs hs' (thr:=thr) hl hd;have hzA:zS n (gV N1 D1 true n)≤2 ^ n:=by have:=j0A h1 true n;omega
 have hzC:zS n (gV N2 D2 true n)≤2 ^ n:=by have:=j0A h2 true n;omega
 have hle1:=fun i (hi:i≤c.length)=>n0M hzA hzC thr c hi
 have hle2:=fun i (hi:i≤c'.length)=>n0M hzA hzC thr c' hi
 obtain⟨m,hmm⟩:∃ m,n*(c.length+1)=m:=⟨_,rfl⟩;have hG0:N1 ^ e*N2 ^ e'≠0:=Nat.ne_of_gt (Nat.mul_pos (Nat.pow_pos hN1) (Nat.pow_pos hN2));have hGH:N1 ^ e*N2 ^ e'≤D1 ^ e*D2 ^ e':=Nat.mul_le_mul (Nat.pow_le_pow_left (by omega) e) (Nat.pow_le_pow_left (by omega) e');have hB:zS n (gV N1 D1 true n)*zS n (gV N2 D2 true n) ^ c.length≤2 ^ m:=by
  rw[← hmm,Nat.mul_succ,Nat.add_comm,Nat.pow_add];exact Nat.mul_le_mul hzA (g0y hzC _)
 obtain⟨gA,hgA⟩:∃ g,gV N1 D1 true n=g:=⟨_,rfl⟩;obtain⟨gC,hgC⟩:∃ g,gV N2 D2 true n=g:=⟨_,rfl⟩;rw[hgA,hgC]at hpriv hle1 hle2 hB ⊢;rw[hmm]at hpriv hm hG hH hle1;rw[← hl,hmm]at hle2;generalize D1 ^ e*D2 ^ e'=H at *
 generalize N1 ^ e*N2 ^ e'=G at *
 have hR:sqL gA gC n c.length=sqL gA gC n c'.length:=by rw[hl]
 have hRle:sqL gA gC n c.length≤2 ^ m:=by unfold sqL;rw[hmm];exact Nat.sub_le _ _
 have vc:∀ key,x0j c.length key→d0F gA gC n thr c key≤2 ^ m∧d0F gA gC n thr c' key≤2 ^ m∧e0h (a0D (sqD gA gC n thr c)) key=dyB (d0F gA gC n thr c key) m∧e0h (a0D (sqD gA gC n thr c')) key=dyB (d0F gA gC n thr c' key) m:=fun key hk=>by
  have e1:=s0u (gA:=gA) (gC:=gC) (n:=n) (thr:=thr) (c:=c) hk;have e2:=s0u (gA:=gA) (gC:=gC) (n:=n) (thr:=thr) (c:=c') (key:=key) (by rwa[← hl]);rw[← hl]at e2;rw[hmm]at e1 e2;refine⟨?_,?_,e1,e2⟩
  ·rcases hk with rfl | rfl | ⟨k,h1,rfl⟩
   ·rw[b0N];exact hRle
   ·rw[c0z];exact hle1 _ (Nat.le_refl _)
   ·rw[d0E gA gC n thr c h1];exact hle1 k (by omega)
  ·rcases hk with rfl | rfl | ⟨k,h1,rfl⟩
   ·rw[b0N,← hR];exact hRle
   ·rw[c0z];exact hle2 _ (by omega)
   ·rw[d0E gA gC n thr c' (by omega)];exact hle2 k (by omega)
 obtain⟨l1,l2,l3,l4⟩:=vc a0H (.inl rfl);rw[b0N]at l1 l3;rw[b0N,← hR]at l2 l4;refine⟨?_,by rw[l3,l4]⟩;have hlenW:(a0D (sqD gA gC n thr c)).length≤1000:=by
  have e1:(a0D (sqD gA gC n thr c)).length=(sqD gA gC n thr c).length:=(List.mergeSort_perm _ _).length_eq;have e2:(sqD gA gC n thr c).length≤(sqW gA gC n thr c c.length).length:=List.length_filter_le _ _;have e3:(sqW gA gC n thr c c.length).length=2+c.length:=by simp[sqW,g0u];omega
  omega
 obtain⟨b1,b2⟩:=u0X (G:=G) (H:=H) (m:=m) (K:=K) hG0 hK hG hH (M:=a0D (sqD gA gC n thr c')) (x:=fun p=>d0F gA gC n thr c p.1) (y:=fun p=>d0F gA gC n thr c' p.1) (L:=a0D (sqD gA gC n thr c)) hlenW (fun p hp=>by
  rw[b0x,h0o]at hp;obtain⟨k1,k2⟩:=f0K.1 hp.1;obtain⟨v1,v2,-,v4⟩:=vc p.1 k1;rw[hmm]at k2;exact⟨v1,v2,k2,v4⟩)
 have hS:((a0D (sqD gA gC n thr c)).map fun p=>d0F gA gC n thr c p.1*G-d0F gA gC n thr c' p.1*H).sum=a0i (fun i=>sqT gA gC n thr c i*G-sqT gA gC n thr c' i*H) (c.length+1):=by
  have hp:(a0D (sqD gA gC n thr c)).Perm (sqD gA gC n thr c):=List.mergeSort_perm _ _;rw[(hp.map _).sum_nat];show ((sqD gA gC n thr c).map fun p=>(fun k=>d0F gA gC n thr c k*G-d0F gA gC n thr c' k*H) p.1).sum=_
  unfold sqD;rw[h0a (fun k=>d0F gA gC n thr c k*G-d0F gA gC n thr c' k*H) _ (fun p hp hz=>by
   obtain⟨k1,e⟩:=f0K.1 hp;have hz':p.2=⟨#[48]⟩:=by unfold s0J at hz;simpa using hz
   rw[hz',hmm]at e;have:=(n0b (vc p.1 k1).1 hm).1 e.symm;show d0F gA gC n thr c p.1*G-_=0
   rw[this,Nat.zero_mul,Nat.zero_sub])]
  rw[t0s gA gC n thr c (fun k=>d0F gA gC n thr c k*G-d0F gA gC n thr c' k*H)];show (d0F gA gC n thr c m1B*G-d0F gA gC n thr c' m1B*H)+(d0F gA gC n thr c a0H*G-d0F gA gC n thr c' a0H*H)+a0i (fun i=>d0F gA gC n thr c (a0f i)*G-d0F gA gC n thr c' (a0f i)*H) c.length=_
  have e0:d0F gA gC n thr c a0H*G-d0F gA gC n thr c' a0H*H=0:=by
   rw[b0N,b0N,← hR];exact Nat.sub_eq_zero_of_le (Nat.mul_le_mul_left _ hGH)
  have e1:a0i (fun i=>d0F gA gC n thr c (a0f i)*G-d0F gA gC n thr c' (a0f i)*H) c.length=a0i (fun i=>sqT gA gC n thr c i*G-sqT gA gC n thr c' i*H) c.length:=a0b fun i hi=>by rw[d0E gA gC n thr c hi,d0E gA gC n thr c' (by omega)]
  rw[e0,e1,c0z,c0z,← hl,a0i];omega
 rw[b1,l3,hS];have hfin:a0i (fun i=>sqT gA gC n thr c i*G-sqT gA gC n thr c' i*H) (c.length+1)≤sqL gA gC n c.length*H:=by
  unfold sqL;rw[hmm,Nat.sub_mul];omega
 obtain⟨f1,f2⟩:=q0f hG0 hK hG hH l1;have hden:=g0m hG0 hK hG hH;have hKK:(10:Nat) ^ K≤10 ^ (K+4):=Nat.pow_le_pow_right (by omega) (by omega);have hyH:sqL gA gC n c.length*H<10 ^ K:=Nat.lt_of_le_of_lt (by rw[Nat.mul_comm];exact Nat.mul_le_mul_left H l1) hH;have e1:mkRat (H:Int) G*dyQ (sqL gA gC n c.length) m=mkRat ((sqL gA gC n c.length*H:Nat):Int) (G*2 ^ m):=by
  unfold dyQ;rw[Rat.mkRat_mul_mkRat,Int.natCast_mul,Int.mul_comm]
 have f3:=d0m hG0 hK hG hH (z:=((sqL gA gC n c.length*H:Nat):Int)) (by rw[Int.natAbs_natCast];omega);have f4:=d0m hG0 hK hG hH (z:=((a0i (fun i=>sqT gA gC n thr c i*G-sqT gA gC n thr c' i*H) (c.length+1):Nat):Int)) (by rw[Int.natAbs_natCast];omega);rw[f1,(d0a (f:=(· * ·)) (m0c hG0 hK hG hH) f2 (by show ¬ ovQ (_*_);rw[e1];exact f3)).1];show cmB _ (txQ (_*_))≤0
 rw[e1,(s0W f4 f3).1];have e3:mkRat ((a0i (fun i=>sqT gA gC n thr c i*G-sqT gA gC n thr c' i*H) (c.length+1):Nat):Int) (G*2 ^ m)-mkRat ((sqL gA gC n c.length*H:Nat):Int) (G*2 ^ m)=mkRat (((a0i (fun i=>sqT gA gC n thr c i*G-sqT gA gC n thr c' i*H) (c.length+1):Nat):Int)-((sqL gA gC n c.length*H:Nat):Int)) (G*2 ^ m):=by
  rw[Rat.sub_eq_add_neg,Rat.neg_mkRat,Rat.mkRat_add_mkRat _ _ hden hden,← Int.add_mul,Rat.mkRat_mul_right hden]
  rfl
 unfold q0r;rw[e3,o0c hden];unfold v0C
 split
 ·exact Int.le_refl _
 ·split
  ·omega
  ·omega
open Go.Shelf
theorem o0D {a b:Nat}:decide (b0G a b≤0)=decide (a≤b):=by
 unfold b0G
 split
 ·simp;omega
 ·split<;>simp<;>omega
theorem u0P (w:World)(n d:ByteArray):
 Calls Tryz.prog 304 #[.string n,.string d] w fun e w'=>e=.returned (.func (.func 313) #[] #[.pointer (some ⟨w.heap.size,0,none⟩),.pointer (some ⟨w.heap.size+1,0,none⟩)])∧w'=(w.alloc (.cells #[.string n] 22)).alloc (.cells #[.string d] 22):=by
 go_enter Tryz.func304,Tryz.ntmps304;go_wp2_with fail;go_ret
 exact⟨rfl,rfl⟩
theorem w0N (w:World)(bn bd N D K T:Nat)(hn:Blk w bn #[.string (a0f N)] 22)(hd:Blk w bd #[.string (a0f D)] 22)(hf:Fits N D K T)(hL:Lay w):
 Calls Tryz.prog 313 #[.string (a0f K),.string (a0f T),.pointer (some ⟨bn,0,none⟩),.pointer (some ⟨bd,0,none⟩)] w fun e w'=>e=.returned (.tuple #[.int .i64 (sdV N D K T:Nat),.bool (sdB N D K T)])∧Below w.heap.size w w':=by
 have dN:=a0N hf.n (by decide) (by decide);have dD:=a0N hf.d (by decide) (by decide);have dK:=a0N hf.k (by decide) (by decide);have dT:=a0N hf.t (by decide) (by decide);have f1:=e0d hf.n hf.t;have f2:=e0d hf.k hf.d;have dP:=a0N f1 (by decide) (by decide);have dQ:=a0N f2 (by decide) (by decide);have dS:=a0N (g0h f2 (s0T hf.d (by decide))) (by decide) (by decide);have T1:=fun V hV=>hid (p0Z V (a0f N) (a0f T) (a0M dN) (a0M dT) hV)
 have T2:=fun V hV=>hid (p0Z V (a0f K) (a0f D) (a0M dK) (a0M dD) hV)
 have T3:=fun V hV=>hid (q0a V (a0f (K*D)) (a0f D) (a0M dQ) (a0M dD) hV)
 have C1:=fun V=>hid (o0S V (a0f (N*T)) (a0f (K*D)) (a0M dP) (a0M dQ))
 have C2:=fun V=>hid (o0S V (a0f (K*D+D)) (a0f (N*T)) (a0M dS) (a0M dP))
 rw[c0J dN dT dP]at T1;rw[c0J dK dD dQ]at T2;rw[c0J dQ dD dS]at T3;rw[i0n dP dQ]at C1;rw[i0n dS dP]at C2;have HL:=hid hL;have HN:=hid hn;have HD:=hid hd;have c0:=hn.cell 0;have c1:=hd.cell 0;simp only[List.getElem?_toArray,List.getElem?_cons_zero]at c0 c1;have hSV:sdV N D K T=if N*T≤K*D then 0 else 1:=rfl
 have hSB:sdB N D K T=(decide (N*T≤K*D) || decide (K*D+D≤N*T)):=rfl;rw[hSV,hSB];obtain⟨P,hP⟩:∃ P,N*T=P:=⟨_,rfl⟩;obtain⟨Q,hQ⟩:∃ Q,K*D=Q:=⟨_,rfl⟩;rw[hP]at T1 C1 C2 ⊢;rw[hQ]at T2 T3 C1 C2 ⊢;obtain⟨sn,hsn⟩:∃ s,a0f N=s:=⟨_,rfl⟩;obtain⟨sd,hsd⟩:∃ s,a0f D=s:=⟨_,rfl⟩;obtain⟨sk,hsk⟩:∃ s,a0f K=s:=⟨_,rfl⟩;obtain⟨st,hst⟩:∃ s,a0f T=s:=⟨_,rfl⟩;rw[hsn]at T1 c0 HN;rw[hsd]at T2 T3 c1 HD;rw[hsk]at T2 ⊢;rw[hst]at T1 ⊢;clear hsn hsd hsk hst hP hQ hSV hSB dN dD dK dT f1 f2 dP dQ dS hf hL hn hd;go_enter Tryz.func313,Tryz.ntmps313;go_wp2_with fail;refine a0n [0,1,3,4] 4 (fun W'=>W'.cell? ⟨bn,0,none⟩=some (.string sn)∧W'.cell? ⟨bd,0,none⟩=some (.string sd)) (by kernel_rfl) (by kernel_rfl) (by kernel_rfl) (by kernel_rfl) ⟨c0,c1⟩ ?_
 iterate 4
  refine⟨_,rfl,?_⟩;apply Exists.intro
  refine⟨.inl ⟨by rfl,?_⟩,?_⟩
  ·(intro W' hW'
    obtain⟨q1,q2⟩:=hW'
    go_simp
    try (with_reducible rfl))
  simp only[Act.put,List.setIfInBounds_toArray,List.set_cons_zero,List.set_cons_succ]
 refine a0c (i:=2) (by kernel_rfl) (by rfl) (by rfl) ?_;go_wp2_with fail;refine (T1 _ (HL.out.call (Below.refl _ _).drew)).out.mono ?_;rintro e w1 ⟨rfl,hb1⟩;have y1:=hid (show Below w.heap.size w w1 from (Below.refl _ _).drew.trans hb1);have N1:=hid (HN.out.call y1.out);have D1:=hid (HD.out.call y1.out);clear hb1;go_wp2_with fail;refine⟨⟨N1.out.cell 0,D1.out.cell 0⟩,?_⟩;refine a0c (i:=5) (by kernel_rfl) (by rfl) (by rfl) ?_;go_wp2_with fail;refine (T2 _ (HL.out.call y1.out)).out.mono ?_;rintro e w2 ⟨rfl,hb2⟩;have y2:=hid (a0a y1.out hb2);have N2:=hid (N1.out.call hb2);have D2:=hid (D1.out.call hb2);clear hb2;go_wp2_with fail;refine⟨⟨N2.out.cell 0,D2.out.cell 0⟩,?_⟩;refine a0c (i:=6) (by kernel_rfl) (by rfl) (by rfl) ?_;go_wp2_with fail;refine⟨⟨N2.out.cell 0,D2.out.cell 0⟩,?_⟩;refine a0c (i:=7) (by kernel_rfl) (by rfl) (by rfl) ?_;go_wp2_with fail;refine⟨⟨N2.out.cell 0,D2.out.cell 0⟩,?_⟩;refine wpAnyH_done (by kernel_rfl) ?_ _;simp only[b0l];go_wp2_with fail;refine (C1 _).out.mono ?_;rintro e w3 ⟨rfl,hb3⟩;have y3:=hid (a0a y2.out hb3);have D3:=hid (D2.out.call hb3);clear hb3;have o1:=o0D (a:=P) (b:=Q);obtain⟨x1,hx1⟩:∃ x,b0G P Q=x:=⟨_,rfl⟩;rw[hx1]at o1 ⊢;clear hx1;by_cases h:P≤Q
 ·simp only[h,decide_true,if_true,Bool.true_or]at o1 ⊢;go_wp2_with fail;go_ret2
  exact⟨rfl,y3.out⟩
 ·have o2:=o0D (a:=Q+D) (b:=P);have d3:=D3.out.cell 0;simp only[List.getElem?_toArray,List.getElem?_cons_zero]at d3;obtain⟨x2,hx2⟩:∃ x,b0G (Q+D) P=x:=⟨_,rfl⟩;obtain⟨r,hr⟩:∃ r,decide (Q+D≤P)=r:=⟨_,rfl⟩;rw[hx2]at o2 C2;rw[hr]at o2;simp only[h,decide_false,if_false,Bool.false_or]at o1 ⊢;clear hx2;go_wp2_with fail;refine (T3 _ (HL.out.call y3.out)).out.mono ?_;rintro e w4 ⟨rfl,hb4⟩;have y4:=hid (a0a y3.out hb4);clear hb4;go_wp2_with fail;refine (C2 _).out.mono ?_;rintro e w5 ⟨rfl,hb5⟩;have y5:=hid (a0a y4.out hb5);clear hb5;go_wp2_with fail;go_ret2
  exact⟨rfl,y5.out⟩
def i0K (b k t:ByteArray)(bn bd:Nat)(dn:Bool)(v u:Int):Array Value:=
 #[.string b,.string k,.string t,.func (.func 313) #[] #[.pointer (some ⟨bn,0,none⟩),.pointer (some ⟨bd,0,none⟩)],.bool dn,.int .i64 v,.int .i64 u]
structure Toss (w:World)(g bn bd:Nat)(b:ByteArray)(N D K T u:Nat):Prop where
 blk:Blk w g (i0K b (a0f K) (a0f T) bn bd false 0 u) 314
 num:Blk w bn #[.string (a0f N)] 22
 den:Blk w bd #[.string (a0f D)] 22
 ln:bn<g
 ld:bd<g
theorem w0P (w:World)(g bn bd:Nat)(b:ByteArray)(N D K T u:Nat)(ht:Toss w g bn bd b N D K T u)(hf:Fits N D K T)(hL:Lay w)(hs:b.size≤100000)(hu:u≤b.size):
 Calls Tryz.prog 305 #[.pointer (some ⟨g,0,none⟩)] w fun e w'=>
  Below g w w' ∧
  ((sdB N D K T=true∧e=.returned .nilFunc∧Blk w' g (i0K b (a0f K) (a0f T) bn bd true (sdV N D K T:Nat) u) 314) ∨
   (sdB N D K T=false∧u=b.size∧e=.returned .nilFunc∧Toss w' g bn bd b N D K T u) ∨
   (sdB N D K T=false∧u<b.size∧e=.returned (.func (.func 316) #[.pointer (some ⟨g,0,none⟩)] #[])∧Toss w' g bn bd b N D K T u)):=by
 have HB:=hid ht.blk;have HN:=hid ht.num;have HD:=hid ht.den;have LN:=hid ht.ln;have LD:=hid ht.ld;have LG:=hid (Blk.lt ht.blk);have HF:=hid hf;have HL:=hid hL;have HS:=hid hs;have HU:=hid hu;have c0:w.cell? ⟨g,0,none⟩=some (.string b):=ht.blk.cell 0;have c1:w.cell? ⟨g,1,none⟩=some (.string (a0f K)):=ht.blk.cell 1;have c2:w.cell? ⟨g,2,none⟩=some (.string (a0f T)):=ht.blk.cell 2;have c3:w.cell? ⟨g,3,none⟩=some (.func (.func 313) #[] #[.pointer (some ⟨bn,0,none⟩),.pointer (some ⟨bd,0,none⟩)]):=ht.blk.cell 3;have e51:∀ args w,(callFunc 313 args).run Tryz.prog w=.ok (.enter 313 args) w:=enters_of Tryz.func313 (by kernel_rfl) rfl;obtain⟨sk,hsk⟩:∃ s,a0f K=s:=⟨_,rfl⟩;obtain⟨st,hst⟩:∃ s,a0f T=s:=⟨_,rfl⟩;have HK:=hid hsk;have HT:=hid hst;rw[hsk]at c1;rw[hst]at c2;have CS:=hid (w0N w.drew bn bd N D K T ht.num ht.den hf (hL.call (Below.refl _ _).drew));rw[hsk,hst]at CS;obtain⟨xv,hxv⟩:∃ x,sdV N D K T=x:=⟨_,rfl⟩;obtain⟨xb,hxb⟩:∃ x,sdB N D K T=x:=⟨_,rfl⟩;rw[hxv,hxb]at CS;rw[hxv,hxb];clear hsk hst ht hf hL hs hu hxv hxb;go_enter Tryz.func305,Tryz.ntmps305;go_wp2_with fail;refine a0n [0,1,2,3,4,5,6,7,8,9,10,11] 6 (fun W'=>(W'.cell? ⟨g,1,none⟩=some (.string sk)∧W'.cell? ⟨g,2,none⟩=some (.string st))∧W'.cell? ⟨g,3,none⟩=some (.func (.func 313) #[] #[.pointer (some ⟨bn,0,none⟩),.pointer (some ⟨bd,0,none⟩)])) (by kernel_rfl) (by kernel_rfl) (by kernel_rfl) (by kernel_rfl) ⟨⟨c1,c2⟩,c3⟩ ?_
 iterate 12
  refine⟨_,rfl,?_⟩;apply Exists.intro
  refine⟨.inl ⟨by rfl,?_⟩,?_⟩
  ·(intro W' hW'
    obtain⟨⟨q1,q2⟩,q3⟩:=hW'
    go_simp
    try (with_reducible rfl))
  (dsimp only[Act.put];try simp only[List.setIfInBounds_toArray,List.set_cons_zero,List.set_cons_succ])
 refine a0c (i:=12) (by kernel_rfl) (by rfl) (by rfl) ?_;go_wp2_with fail;refine CS.out.mono ?_;rintro e w1 ⟨rfl,hb1⟩;have y1:=hid (show Below w.heap.size w w1 from (Below.refl _ _).drew.trans hb1);have B1:=hid (HB.out.call y1.out);have N1:=hid (HN.out.call y1.out);have D1:=hid (HD.out.call y1.out);have d0:w1.cell? ⟨g,0,none⟩=some (.string b):=B1.out.cell 0;have d1:w1.cell? ⟨g,1,none⟩=some (.string (a0f K)):=B1.out.cell 1;have d2:w1.cell? ⟨g,2,none⟩=some (.string (a0f T)):=B1.out.cell 2;have d3:w1.cell? ⟨g,3,none⟩=some (.func (.func 313) #[] #[.pointer (some ⟨bn,0,none⟩),.pointer (some ⟨bd,0,none⟩)]):=B1.out.cell 3;have d4:w1.cell? ⟨g,4,none⟩=some (.bool false):=B1.out.cell 4;have d5:w1.cell? ⟨g,5,none⟩=some (.int .i64 0):=B1.out.cell 5;have d6:w1.cell? ⟨g,6,none⟩=some (.int .i64 u):=B1.out.cell 6;have f4:=B1.out.free 4;have f5:=B1.out.free 5;rw[HK.out]at d1;rw[HT.out]at d2;clear hb1 c0 c1 c2 c3;go_wp2_with fail;refine⟨⟨⟨d1,d2⟩,d3⟩,?_⟩;refine a0Z (is:=[13,14,15,16,17]) (g:=0) (by kernel_rfl) rfl ⟨⟨d1,d2⟩,d3⟩ (by kernel_rfl) ?_
 iterate 5
  refine⟨_,rfl,?_⟩;apply Exists.intro
  refine⟨.inl ⟨by rfl,?_⟩,?_⟩
  ·(intro W' hW'
    clear hW'
    go_simp
    try (with_reducible rfl))
  (dsimp only[Act.put];try simp only[List.setIfInBounds_toArray,List.set_cons_zero,List.set_cons_succ])
 refine wpAnyH_done (by kernel_rfl) ?_ _;simp only[b0l];cases xb
 ·go_wp2_with fail;refine a0n [0,1,2,3,4,5,6,7,8,9,10] 0 (fun W'=>W'.cell? ⟨g,0,none⟩=some (.string b)∧W'.cell? ⟨g,6,none⟩=some (.int .i64 u)) (by kernel_rfl) (by kernel_rfl) (by kernel_rfl) (by kernel_rfl) ⟨d0,d6⟩ ?_
  iterate 11
   refine⟨_,rfl,?_⟩;apply Exists.intro
   refine⟨.inl ⟨by rfl,?_⟩,?_⟩
   ·(intro W' hW'
     obtain⟨q1,q2⟩:=hW'
     go_simp
     try (with_reducible rfl))
   (dsimp only[Act.put];try simp only[List.setIfInBounds_toArray,List.set_cons_zero,List.set_cons_succ])
  refine wpAnyH_done (by kernel_rfl) ?_ _;simp only[b0l];have y2:=hid y1.out.drew;have T2:Hid (Toss w1.drew g bn bd b N D K T u):=⟨B1.out,N1.out,D1.out,LN.out,LD.out⟩;obtain⟨r,hr⟩:∃ r,((u:Int)==(b.size:Int))=r:=⟨_,rfl⟩;rw[hr];have HR:=hid hr;clear hr d0 d1 d2 d3 d4 d5 d6 f4 f5 e51;cases r
  ·have HU2:=hid (show u<b.size from by have h1:=HU.out;have h2:=HR.out;simp at h2;omega);go_wp2_with fail;go_ret
   exact⟨y2.out.mono (Nat.le_of_lt LG.out),.inr ⟨HU2.out,rfl,T2.out⟩⟩
  ·have HU2:=hid (show u=b.size from by have h2:=HR.out;simp at h2;omega);go_wp2_with fail;go_ret
   exact⟨y2.out.mono (Nat.le_of_lt LG.out),.inl ⟨HU2.out,rfl,T2.out⟩⟩
 ·go_wp2_with fail;go_ret
  have r1:=(B1.out.set 4 (.bool true)).set 5 (.int .i64 xv);refine⟨?_,⟨rfl,?_⟩⟩
  ·exact ((y1.out.mono (Nat.le_of_lt LG.out)).setCell (Nat.le_refl _) _).setCell (Nat.le_refl _) _
  ·simpa[i0K]using r1
end Go.Proofs.YtlmnpocifldpmaaGreatDoor
namespace Go.Proofs.YtlmnpocifldpmaaGreatDoor
open Go.RowKit
variable {P : Program} {Q : Exit → Act → World → Prop}
def c0R (P:Program)(ops:Array Oper)(Q:Exit→Act→World→Prop)(rest:List Oper):Exit→Act→World→Prop
 | .normal,a,w=>wpList P ops Q rest a w
 | e,a,w=>Q e a w
theorem h0N {md:Region.Mode}{ops:Array Oper}:∀ (fuel:Nat) (listed:Array Bool) (a:Act) (w:World),wpAny P md ops (b0l Q) fuel listed a w→wpAny P md ops Q fuel listed a w:=by
 intro fuel
 induction fuel with
 | zero=>exact fun _ _ _ h=>h
 | succ fuel ih=>
  rintro listed a w ⟨h1,h2⟩;refine⟨h1,fun i hi=>?_⟩;have h:=h2 i hi;unfold wpOp at h ⊢
  split at h
  ·rename_i ho
   exact ih _ _ _ h
  ·rename_i o ho
   split at h
   ·rename_i hw
    rw[if_pos hw];rcases h with h | ⟨_,a',w',h⟩
    ·exact .inl (f0E (fun a w h=>ih _ _ _ h) (fun _ _ _ h=>h.elim) (fun ⟨_,_,h⟩=>h.elim) h)
    ·exact h.elim
   ·rename_i hw
    rw[if_neg hw];exact ih _ _ _ h
theorem r0r {ops:Array Oper}{oz:Oper}{Q':Exit→Act→World→Prop}{a:Act}{w:World}(hB:g0E ops oz=true)
 (hP:∀ c a w,Q' (.panic c) a w→Q (.panic c) a w) (hL:LetsOut Q'→LetsOut Q) (hN:∀ a w,Q' .normal a w→oz.wp P a w (fun a w=>Q .normal a w) Q∨(oz.asks P a w∧LetsOut Q))
 (h:wpAny P .any ops Q' ops.size (Array.replicate ops.size false) a w):wpAny P .any (ops.push oz) Q (ops.push oz).size (Array.replicate (ops.push oz).size false) a w:=by
 simp only[g0E,Bool.and_eq_true,List.all_eq_true,List.any_eq_true,List.mem_range,decide_eq_true_eq,Option.isNone_iff_eq_none,Array.mem_toList_iff]at hB;obtain⟨⟨⟨⟨h1,h2⟩,h3⟩,h4⟩,h5⟩:=hB;have hl:=m0m (P:=P) (md:=.any) (ops:=ops) (oz:=oz) (fun i o ho=>h1 o (Array.mem_of_getElem? ho)) h2 (fun e he _=>h3 e he)
  (fun i hi=>by
   obtain⟨e,he,hb,hon⟩:=h4 i hi;refine⟨e,he,hb,?_⟩;simp only[Bool.or_eq_true,beq_iff_eq]at hon;refine hon.imp (fun h=>h) fun hx=>?_
   split at hx
   ·rename_i o ho
    simp only[List.any_eq_true,Bool.and_eq_true,beq_iff_eq,Array.mem_toList_iff]at hx;obtain⟨f,hf,hfb,hfo⟩:=hx;exact⟨o,ho,f,hf,hfb,hfo⟩
   ·cases hx)
  (fun i o ho e he _=>by
   have:=h5 i (Array.getElem?_eq_some_iff.1 ho).1;rw[ho]at this;simp only[List.all_eq_true,Array.mem_toList_iff,decide_eq_true_eq]at this;exact this e he) hP hL hN ops.size (Array.replicate ops.size false) a w (by simp) (fun j o _ hj=>by simp[Array.getD]at hj) h
 have hr:Array.replicate (ops.push oz).size false=(Array.replicate ops.size false).push false:=by
  rw[Array.size_push];exact Array.replicate_succ
 rw[hr,Array.size_push];exact hl
def l0M (l:List Oper):Nat→Nat→Bool
 | 0,_=>true
 | k+1,n=>(match l[n]? with | some oz=>g0E (l.take n).toArray oz | none=>false) && l0M l k (n+1)
theorem j0P (l:List Oper){a:Act}{w:World}:∀ (k n:Nat),n+k=l.length→l0M l k n=true →
 wpAny P .any (l.take n).toArray (c0R P l.toArray Q (l.drop n)) (l.take n).toArray.size (Array.replicate (l.take n).toArray.size false) a w →
 wpAny P .any l.toArray Q l.toArray.size (Array.replicate l.toArray.size false) a w
 | 0,n,hn,_,h=>by
  have e1:l.take n=l:=List.take_of_length_le (by omega);have e2:l.drop n = []:=List.drop_of_length_le (by omega);have e3:c0R P l.toArray Q []=Q:=by
   funext e a w
   cases e<;>simp[c0R,wpList]
  rw[e1,e2,e3]at h;exact h
 | k+1,n,hn,hB,h=>by
  simp only[l0M,Bool.and_eq_true]at hB;obtain⟨h1,h2⟩:=hB;have hlt:n<l.length:=by omega
  rw[List.getElem?_eq_getElem hlt]at h1;have e1:l.take (n+1)=l.take n ++ [l[n]]:=List.take_succ_eq_append_getElem hlt;have e2:l.drop n=l[n]::l.drop (n+1):=List.drop_eq_getElem_cons hlt;refine j0P l k (n+1) (by omega) h2 ?_;have e3:(l.take (n+1)).toArray=(l.take n).toArray.push l[n]:=by rw[e1];simp
  rw[e3];have hgz:l[n].guard=none:=by
   simp only[g0E,Bool.and_eq_true,Option.isNone_iff_eq_none]at h1;exact h1.1.1.1.2
  refine r0r h1 (Q':=c0R P l.toArray Q (l.drop n)) (fun _ _ _ h=>h) (fun ⟨a,w,h⟩=>⟨a,w,h⟩) (fun a w hq=>?_) h;have hq':wpList P l.toArray Q (l.drop n) a w:=hq;rw[e2]at hq';unfold wpList at hq';have hw:Region.wanted l[n] (yielded l.toArray a.tmps)=true:=by simp[Region.wanted,hgz]
  rw[if_pos hw]at hq';rcases hq' with hq' | ⟨h3,h4⟩
  ·exact .inl (f0E (fun _ _ h=>h) (fun _ _ _ h=>h) (fun ⟨a,w,h⟩=>⟨a,w,h⟩) hq')
  ·exact .inr ⟨h3,by obtain⟨a,w,h⟩:=h4;exact⟨a,w,h⟩⟩
theorem c0a {id:Nat}{a:Act}{w:World}{l:List Oper}(n k:Nat)(is:List Nat)(g:Nat)(S:World→Prop)(hm:P.follows .mixedOrders=true)(hk:n+k=l.length)(hlast:l0M l k n=true)(hsel:Region.noSelect (l.take n).toArray=true)(hg:g+is.length=(l.take n).toArray.size)(hB:j0g .any (l.take n).toArray is (Array.replicate (l.take n).toArray.size false)=true)(hS:S w.drew)
 (h:e0i P (l.take n) S (fun a'=>wpAnyH P .any (l.take n).toArray (b0l (c0R P l.toArray Q (l.drop n))) S g (m0u is (Array.replicate (l.take n).toArray.size false)) a' w.drew) is a):(Code.region id l.toArray true).wp P Q a w:=by
 refine wp_region_any hm (j0P l k n hk hlast ?_);have h2:=c0v (P:=P) (md:=.any) (Q:=c0R P l.toArray Q (l.drop n)) (S:=S) hsel (g:=g) hS is (Array.replicate (l.take n).toArray.size false) a hB h;rw[hg]at h2;exact h0N _ _ _ _ (wpAny_of_held (S:=S) _ _ _ _ h2)
end Go.Proofs.YtlmnpocifldpmaaGreatDoor
namespace Go.Proofs.YtlmnpocifldpmaaGreatDoor
open Go.RowKit
variable {P : Program} {Q : Exit → Act → World → Prop} {md : Region.Mode} {ops : Array Oper} {oz : Oper}
inductive Dep (md:Region.Mode) (ops:Array Oper) (oz:Oper):Nat→Prop
 | here {e:Edge}:e∈oz.after→Region.binds md e=true→Dep md ops oz e.on
 | step {i:Nat} {o:Oper} {f:Edge}:Dep md ops oz i→ops[i]?=some o→f∈o.after→Region.binds md f=true→Dep md ops oz f.on
theorem Dep.on {listed:Array Bool}(hc:Closed md ops listed)(h:∀ e∈oz.after,Region.binds md e=true→listed.getD e.on false=true){i:Nat}(hd:Dep md ops oz i):listed.getD i false=true:=by
 induction hd with
 | here he hb=>exact h _ he hb
 | step _ ho hf hb ih=>exact hc _ _ ho ih _ hf hb
theorem f0g {L0:List Nat}(hz:∀ e∈oz.after,Region.binds md e=true→e.on<ops.size)(hz2:∀ i,i<ops.size→i∈L0∨Dep md ops oz i)(hfwd:∀ i o,ops[i]?=some o→∀ e∈o.after,Region.binds md e=true→e.on<i){listed:Array Bool}(hs:listed.size=ops.size)(hcl:Closed md ops listed)(h0L:∀ i∈L0,listed.getD i false=true)(hn:¬ g0x ops.size listed):
 ∀ j,j∈Region.ready md (ops.push oz) (listed.push false)→j∈Region.ready md ops listed:=by
 intro j hj;rw[mem_ready]at hj ⊢;obtain⟨h0,o,ho,hall⟩:=hj;have hlt:j<ops.size+1:=by have:=(Array.getElem?_eq_some_iff.1 ho).1;simpa using this
 by_cases hj':j=ops.size
 ·subst hj';have:o=oz:=by simpa using ho.symm
  subst this;refine absurd (fun i hi=>?_) hn;rcases hz2 i hi with h | h
  ·exact h0L i h
  ·refine Dep.on hcl (fun e he hb=>?_) h;have h1:=hall e he hb;have h2:=hz e he hb;rwa[a0m (by omega)]at h1
 ·have hjl:j<ops.size:=by omega
  rw[Array.getElem?_push_lt hjl]at ho;rw[a0m (by omega)]at h0;refine⟨h0,o,by rw[Array.getElem?_eq_getElem hjl];exact ho,fun e he hb=>?_⟩;have h1:=hall e he hb;have h2:=hfwd j o (by rw[Array.getElem?_eq_getElem hjl];exact ho) e he hb;rwa[a0m (by omega)]at h1
theorem j0X {Q':Exit→Act→World→Prop}{L0:List Nat}(hgd:∀ (i:Nat) (o:Oper),ops[i]?=some o→o.guard=none)(hgz:oz.guard=none)
 (hz:∀ e∈oz.after,Region.binds md e=true→e.on<ops.size) (hz2:∀ i,i<ops.size→i∈L0∨Dep md ops oz i)
 (hfwd:∀ i o,ops[i]?=some o→∀ e∈o.after,Region.binds md e=true→e.on<i)
 (hP:∀ c a w,Q' (.panic c) a w→Q (.panic c) a w) (hL:LetsOut Q'→LetsOut Q) (hN:∀ a w,Q' .normal a w→oz.wp P a w (fun a w=>Q .normal a w) Q∨(oz.asks P a w∧LetsOut Q)):
 ∀ (fuel:Nat) (listed:Array Bool) (a:Act) (w:World),listed.size=ops.size→Closed md ops listed→(∀ i∈L0,listed.getD i false=true)→wpAny P md ops Q' fuel listed a w→wpAny P md (ops.push oz) Q (fuel+1) (listed.push false) a w:=by
 have lastStep:∀ (fuel:Nat) (listed:Array Bool) (a:Act) (w:World),listed.size=ops.size→g0x ops.size listed→Q' .normal a w→wpAny P md (ops.push oz) Q (fuel+1) (listed.push false) a w:=by
  intro fuel listed a w hs hall hq;have hmem:ops.size∈Region.ready md (ops.push oz) (listed.push false):=by
   rw[mem_ready];refine⟨by rw[← hs];simp[Array.getD],oz,by simp,fun e he hb=>?_⟩;have:=hz e he hb;rw[a0m (by omega)];exact hall _ this
  refine⟨fun h=>(by rw[h]at hmem;cases hmem),fun j hj=>?_⟩;have hje:=c0n hs hall j hj;subst hje;have hdone:Region.ready md (ops.push oz) ((listed.push false).setIfInBounds ops.size true) = []:=by
   refine List.eq_nil_iff_forall_not_mem.2 fun k hk=>?_
   rw[mem_ready]at hk;obtain⟨h0,o,ho,_⟩:=hk;have hlt:k<ops.size+1:=by have:=(Array.getElem?_eq_some_iff.1 ho).1;simpa using this
   by_cases hk':k=ops.size
   ·subst hk';simp[Array.getD,hs]at h0
   ·have h1:k<ops.size:=by omega
    have h2:=hall k h1;have h3:k<listed.size:=by omega
    simp[Array.getD,h3,Nat.lt_succ_of_lt h3,Ne.symm hk',Array.getElem_push_lt h3]at h0 h2;rw[h0]at h2;cases h2
  unfold wpOp;simp only[Array.getElem?_push_size];have hw:Region.wanted oz (yielded (ops.push oz) a.tmps)=true:=by simp[Region.wanted,hgz]
  rw[if_pos hw];refine (hN a w hq).imp (fun hx=>Oper.wp_mono (fun a' w' h'=>?_) hx) id;cases fuel with
  | zero=>exact⟨hdone,h'⟩
  | succ fuel=>exact⟨fun _=>h',fun k hk=>by rw[hdone]at hk;cases hk⟩
 intro fuel
 induction fuel with
 | zero=>
  intro listed a w hs _ _ h;exact lastStep 0 listed a w hs (b0H hfwd hs h.1) h.2
 | succ fuel ih=>
  intro listed a w hs hcl h0L h;by_cases hall:g0x ops.size listed
  ·refine lastStep (fuel+1) listed a w hs hall (h.1 (List.eq_nil_iff_forall_not_mem.2 fun k hk=>?_));rw[mem_ready]at hk;obtain⟨h0,o,ho,_⟩:=hk;have h1:=(Array.getElem?_eq_some_iff.1 ho).1;have h2:=hall k h1;have h3:k<listed.size:=by omega
   simp[Array.getD,h3]at h0 h2;rw[h0]at h2;cases h2
  ·refine⟨fun hr=>?_,fun j hj=>?_⟩
   ·have:Region.ready md ops listed = []:=List.eq_nil_iff_forall_not_mem.2 fun k hk=>by
     have hk2:k∈Region.ready md (ops.push oz) (listed.push false):=by
      rw[mem_ready]at hk ⊢;obtain⟨h0,o,ho,hh⟩:=hk;have h1:=(Array.getElem?_eq_some_iff.1 ho).1;refine⟨by rw[a0m (by omega)];exact h0,o,by rw[Array.getElem?_push_lt h1,← Array.getElem?_eq_getElem h1];exact ho,fun e he hb=>?_⟩;rw[a0m (by have:=hfwd k o ho e he hb;omega)];exact hh e he hb
     rw[hr]at hk2;cases hk2
    exact absurd (b0H hfwd hs this) hall
   ·have hj':=f0g hz hz2 hfwd hs hcl h0L hall j hj;have h1:=h.2 j hj';have hlt:j<ops.size:=by
     rw[mem_ready]at hj';obtain⟨_,o,ho,_⟩:=hj';exact (Array.getElem?_eq_some_iff.1 ho).1
    unfold wpOp at h1 ⊢;rw[Array.getElem?_push_lt hlt];rw[Array.getElem?_eq_getElem hlt]at h1;simp only at h1 ⊢;have hg:=hgd j _ (Array.getElem?_eq_getElem hlt);have hw1:Region.wanted ops[j] (yielded (ops.push oz) a.tmps)=true:=by simp[Region.wanted,hg]
    have hw2:Region.wanted ops[j] (yielded ops a.tmps)=true:=by simp[Region.wanted,hg]
    rw[if_pos hw1];rw[if_pos hw2]at h1;rcases h1 with h1 | ⟨h1,h2⟩
    ·refine .inl (f0E (fun a' w' h'=>?_) hP hL h1);rw[h0t (by omega)];exact ih _ _ _ (by simp[hs]) (hcl.set hj') (fun i hi=>getD_set_true (h0L i hi)) h'
    ·exact .inr ⟨h1,hL h2⟩
def s0a (md:Region.Mode)(ops:Array Oper)(j i:Nat):Bool:=match ops[j]? with | some o=>o.after.toList.any (fun f=>Region.binds md f && f.on==i) | none=>false
theorem m0Z {j i:Nat}(h:s0a md ops j i=true):∃ o f,ops[j]?=some o∧f∈o.after∧Region.binds md f=true∧f.on=i:=by
 unfold s0a at h
 split at h
 ·rename_i o ho
  simp only[List.any_eq_true,Bool.and_eq_true,beq_iff_eq,Array.mem_toList_iff]at h;obtain⟨f,hf,hb,hon⟩:=h;exact⟨o,f,ho,hf,hb,hon⟩
 ·cases h
def x0d (md:Region.Mode)(ops:Array Oper)(known:List Nat):List (Nat×Nat)→List Nat
 | []=>known
 | (i,j)::r=>x0d md ops (if (known.contains j && s0a md ops j i)=true then i::known else known) r
theorem l0b:∀ (r:List (Nat×Nat)) (known:List Nat),(∀ i∈known,Dep md ops oz i)→∀ i∈x0d md ops known r,Dep md ops oz i
 | [],known,h=>h
 | (i,j)::r,known,h=>by
  unfold x0d;refine l0b r _ ?_;by_cases hc:(known.contains j && s0a md ops j i)=true
  ·rw[if_pos hc];simp only[Bool.and_eq_true]at hc;obtain⟨hj,hx⟩:=hc;obtain⟨o,f,ho,hf,hb,hon⟩:=m0Z hx;intro m hm;rcases List.mem_cons.1 hm with rfl | hm
   ·rw[← hon];exact .step (h j (by simpa using hj)) ho hf hb
   ·exact h m hm
  ·rw[if_neg hc];exact h
def h0p (md:Region.Mode)(ops:Array Oper)(oz:Oper)(L0:List Nat)(via:List (Nat×Nat)):Bool:=
 ops.toList.all (fun o=>o.guard.isNone) && oz.guard.isNone && oz.after.toList.all (fun e => !Region.binds md e || decide (e.on<ops.size)) &&
 (List.range ops.size).all (fun i=>L0.contains i || (x0d md ops ((oz.after.toList.filter (Region.binds md)).map (·.on)) via).contains i) &&
 (List.range ops.size).all (fun i=>match ops[i]? with | some o=>o.after.toList.all (fun e => !Region.binds md e || decide (e.on<i)) | none=>true)
theorem o0I {Q':Exit→Act→World→Prop}{L0:List Nat}{via:List (Nat×Nat)}{a:Act}{w:World}{fuel:Nat}{listed:Array Bool}(hB:h0p md ops oz L0 via=true)(hs:listed.size=ops.size)(hcl:Closed md ops listed)(h0L:∀ i∈L0,listed.getD i false=true)
 (hP:∀ c a w,Q' (.panic c) a w→Q (.panic c) a w) (hL:LetsOut Q'→LetsOut Q) (hN:∀ a w,Q' .normal a w→oz.wp P a w (fun a w=>Q .normal a w) Q∨(oz.asks P a w∧LetsOut Q))
 (h:wpAny P md ops Q' fuel listed a w):wpAny P md (ops.push oz) Q (fuel+1) (listed.push false) a w:=by
 simp only[h0p,Bool.and_eq_true,List.all_eq_true,List.mem_range,decide_eq_true_eq,Option.isNone_iff_eq_none,Array.mem_toList_iff,Bool.or_eq_true,Bool.not_eq_true']at hB;obtain⟨⟨⟨⟨h1,h2⟩,h3⟩,h4⟩,h5⟩:=hB;refine j0X (L0:=L0) (fun i o ho=>h1 o (Array.mem_of_getElem? ho)) h2 (fun e he hb=>?_) (fun i hi=>?_) (fun i o ho e he hb=>?_) hP hL hN fuel listed a w hs hcl h0L h
 ·rcases h3 e he with h | h
  ·rw[hb]at h;cases h
  ·exact h
 ·rcases h4 i hi with h | h
  ·exact .inl (by simpa using h)
  ·refine .inr (l0b via _ (fun j hj=>?_) i (by simpa using h));obtain⟨e,he,rfl⟩:=List.mem_map.1 hj;obtain⟨he1,he2⟩:=List.mem_filter.1 he;exact .here (by simpa using he1) he2
 ·have:=h5 i (Array.getElem?_eq_some_iff.1 ho).1;rw[ho]at this;simp only[List.all_eq_true,Array.mem_toList_iff,Bool.or_eq_true,Bool.not_eq_true',decide_eq_true_eq]at this;rcases this e he with h | h
  ·rw[hb]at h;cases h
  ·exact h
def h0S (l:List Oper)(L0:List Nat)(via:List (Nat×Nat)):Nat→Nat→Bool
 | 0,_=>true
 | k+1,n=>(match l[n]? with | some oz=>h0p .any (l.take n).toArray oz L0 via | none=>false) && h0S l L0 via k (n+1)
def k0N (md:Region.Mode)(ops:Array Oper)(listed:Array Bool):Bool:=
 (List.range ops.size).all fun j => !listed.getD j false || (match ops[j]? with | some o=>o.after.toList.all (fun e => !Region.binds md e || listed.getD e.on false) | none=>true)
theorem j0L {listed:Array Bool}(h:k0N md ops listed=true):Closed md ops listed:=by
 intro j o ho hj e he hb;simp only[k0N,List.all_eq_true,List.mem_range,Bool.or_eq_true,Bool.not_eq_true']at h;rcases h j (Array.getElem?_eq_some_iff.1 ho).1 with h1 | h1
 ·rw[hj]at h1;cases h1
 ·rw[ho]at h1;simp only[List.all_eq_true,Array.mem_toList_iff,Bool.or_eq_true,Bool.not_eq_true']at h1;rcases h1 e he with h2 | h2
  ·rw[hb]at h2;cases h2
  ·exact h2
theorem Closed.pushed {listed:Array Bool}(h:Closed md ops listed)(hs:listed.size=ops.size)(hfwd:∀ i o,ops[i]?=some o→∀ e∈o.after,Region.binds md e=true→e.on<i):Closed md (ops.push oz) (listed.push false):=by
 intro j o ho hj e he hb;have hlt:j<ops.size+1:=by have:=(Array.getElem?_eq_some_iff.1 ho).1;simpa using this
 by_cases hj2:j=ops.size
 ·subst hj2
  exfalso
  simp[Array.getD,← hs]at hj
 ·have h1:j<ops.size:=by omega
  rw[Array.getElem?_push_lt h1]at ho;rw[a0m (by omega)]at hj;have ho':ops[j]?=some o:=by rw[Array.getElem?_eq_getElem h1];exact ho
  have h2:=hfwd j o ho' e he hb;rw[a0m (by omega)];exact h j o ho' hj e he hb
theorem h0i (l:List Oper)(L0:List Nat)(via:List (Nat×Nat)){a:Act}{w:World}:∀ (k n fuel:Nat) (listed:Array Bool),n+k=l.length→h0S l L0 via k n=true→listed.size=(l.take n).toArray.size→Closed .any (l.take n).toArray listed→(∀ i∈L0,listed.getD i false=true) →
 wpAny P .any (l.take n).toArray (c0R P l.toArray Q (l.drop n)) fuel listed a w →
 wpAny P .any l.toArray Q (fuel+k) (listed++Array.replicate k false) a w
 | 0,n,fuel,listed,hn,_,hs,hc,h0,h=>by
  have e1:l.take n=l:=List.take_of_length_le (by omega);have e2:l.drop n = []:=List.drop_of_length_le (by omega);have e3:c0R P l.toArray Q []=Q:=by
   funext e a w
   cases e<;>simp[c0R,wpList]
  rw[e1,e2,e3]at h;simpa using h
 | k+1,n,fuel,listed,hn,hB,hs,hc,h0,h=>by
  simp only[h0S,Bool.and_eq_true]at hB;obtain⟨h1,h2⟩:=hB;have hlt:n<l.length:=by omega
  rw[List.getElem?_eq_getElem hlt]at h1;have e1:l.take (n+1)=l.take n ++ [l[n]]:=List.take_succ_eq_append_getElem hlt;have e2:l.drop n=l[n]::l.drop (n+1):=List.drop_eq_getElem_cons hlt;have e3:(l.take (n+1)).toArray=(l.take n).toArray.push l[n]:=by rw[e1];simp
  have h1':=h1;simp only[h0p,Bool.and_eq_true,List.all_eq_true,List.mem_range,Option.isNone_iff_eq_none,Array.mem_toList_iff,Bool.or_eq_true,Bool.not_eq_true',decide_eq_true_eq]at h1';have hgz:l[n].guard=none:=h1'.1.1.1.2;have hfwd:∀ (i:Nat) (o:Oper),(l.take n).toArray[i]?=some o→∀ e∈o.after,Region.binds .any e=true→e.on<i:=by
   intro i o ho e he hb;have:=h1'.2 i (Array.getElem?_eq_some_iff.1 ho).1;rw[ho]at this;simp only[List.all_eq_true,Array.mem_toList_iff,Bool.or_eq_true,Bool.not_eq_true',decide_eq_true_eq]at this;rcases this e he with h | h
   ·rw[hb]at h;cases h
   ·exact h
  have step:=o0I (P:=P) (md:=.any) (ops:=(l.take n).toArray) (oz:=l[n]) (Q:=c0R P l.toArray Q (l.drop (n+1))) (Q':=c0R P l.toArray Q (l.drop n)) (L0:=L0) (via:=via) (a:=a) (w:=w) (fuel:=fuel) (listed:=listed) h1 hs hc h0 (fun _ _ _ h=>h) (fun ⟨a,w,h⟩=>⟨a,w,h⟩) (fun a w hq=>by
   have hq':wpList P l.toArray Q (l.drop n) a w:=hq;rw[e2]at hq';unfold wpList at hq';have hw:Region.wanted l[n] (yielded l.toArray a.tmps)=true:=by simp[Region.wanted,hgz]
   rw[if_pos hw]at hq';rcases hq' with hq' | ⟨h3,h4⟩
   ·exact .inl (f0E (fun _ _ h=>h) (fun _ _ _ h=>h) (fun ⟨a,w,h⟩=>⟨a,w,h⟩) hq')
   ·exact .inr ⟨h3,by obtain⟨a,w,h⟩:=h4;exact⟨a,w,h⟩⟩) h
  rw[← e3]at step;have:=h0i l L0 via k (n+1) (fuel+1) (listed.push false) (by omega) h2 (by rw[e3,Array.size_push,Array.size_push,hs]) (by rw[e3];exact hc.pushed hs hfwd) (fun i hi=>by
   have hx:=h0 i hi;by_cases hi2:i<listed.size
   ·rw[a0m hi2];exact hx
   ·simp[Array.getD,hi2]at hx) step
  have e5:listed.push false++Array.replicate k false=listed++Array.replicate (k+1) false:=by
   apply Array.ext_getElem?
   intro i;simp only[Array.getElem?_append,Array.getElem?_push,Array.size_push,Array.getElem?_replicate];by_cases h1:i<listed.size
   ·have h2:i<listed.size+1:=by omega
    have h3:¬ i=listed.size:=by omega
    simp[h1,h2,h3]
   ·by_cases h2:i=listed.size
    ·subst h2;simp
    ·have h3:¬ i<listed.size+1:=by omega
     simp[h1,h3];have e:i-(listed.size+1)<k↔i-listed.size<k+1:=by omega
     simp[e]
  rw[e5]at this;rw[show fuel+(k+1)=fuel+1+k by omega];exact this
theorem f0F {l:List Oper}{S:World→Prop}{L L':Act→Prop}(hL:∀ a,L a→L' a):∀ (is:List Nat) (a:Act),e0i P l S L is a→e0i P l S L' is a
 | [],a,h=>hL a h
 | i::is,a,⟨o,ho,v,hy,h⟩=>⟨o,ho,v,hy,f0F hL is _ h⟩
theorem p0m:∀ (fuel:Nat) (listed:Array Bool) (a:Act) (w:World),wpAny P md ops Q fuel listed a w→wpAnyH P md ops Q (fun _=>True) fuel listed a w:=by
 intro fuel
 induction fuel with
 | zero=>exact fun _ _ _ h=>h
 | succ fuel ih=>
  rintro listed a w ⟨h1,h2⟩;refine⟨h1,fun i hi=>?_⟩;have h:=h2 i hi;unfold wpOp at h ⊢
  split at h
  ·rename_i ho
   exact⟨trivial,ih _ _ _ h⟩
  ·rename_i o ho
   split at h
   ·rename_i hw
    rw[if_pos hw];exact h.imp (fun h=>Oper.wp_mono (fun a w h=>⟨trivial,ih _ _ _ h⟩) h) id
   ·rename_i hw
    rw[if_neg hw];exact⟨trivial,ih _ _ _ h⟩
theorem k0C {id:Nat}{a:Act}{w:World}{l:List Oper}(n k:Nat)(pre:List Nat)(via:List (Nat×Nat))(is:List Nat)(g:Nat)(S:World→Prop)(hm:P.follows .mixedOrders=true)(hk:n+k=l.length)
 (hsel0:Region.noSelect l.toArray=true) (hpre:j0g .any l.toArray pre (Array.replicate l.toArray.size false)=true)
 (hlast:h0S l pre via k n=true) (hset:m0u pre (Array.replicate l.toArray.size false)=m0u pre (Array.replicate n false)++Array.replicate k false) (hsz:(m0u pre (Array.replicate n false)).size=(l.take n).toArray.size) (hclo:k0N .any (l.take n).toArray (m0u pre (Array.replicate n false))=true) (hon:(pre.all fun i=>(m0u pre (Array.replicate n false)).getD i false)=true)
 (hsel:Region.noSelect (l.take n).toArray=true) (hg:g+is.length+k+pre.length=l.toArray.size) (hB:j0g .any (l.take n).toArray is (m0u pre (Array.replicate n false))=true) (hS:S w.drew)
 (h:e0i P l (fun _=>True) (fun a1=>e0i P (l.take n) S (fun a'=>wpAnyH P .any (l.take n).toArray (b0l (c0R P l.toArray (b0l Q) (l.drop n))) S g (m0u is (m0u pre (Array.replicate n false))) a' w.drew) is a1) pre a):(Code.region id l.toArray true).wp P Q a w:=by
 refine wp_region_any hm (h0N _ _ _ _ (wpAny_of_held (S:=fun _=>True) _ _ _ _ ?_));have h1:=c0v (P:=P) (md:=.any) (Q:=Q) (S:=fun _=>True) (w:=w.drew) hsel0 (g:=g+is.length+k) trivial pre (Array.replicate l.toArray.size false) a hpre ?_
 ·rw[hg]at h1;exact h1
 ·refine f0F (fun a1 h2=>?_) pre a h;refine p0m _ _ _ _ ?_;rw[hset];refine h0i l pre via k n (g+is.length) _ hk hlast hsz (j0L hclo) (fun i hi=>by simpa using List.all_eq_true.1 hon i hi) ?_;exact h0N _ _ _ _ (wpAny_of_held (S:=S) _ _ _ _ (c0v (P:=P) (md:=.any) (S:=S) hsel (g:=g) hS is _ a1 hB h2))
end Go.Proofs.YtlmnpocifldpmaaGreatDoor
namespace Go.Proofs.YtlmnpocifldpmaaGreatDoor
open Go.RowKit
open Go.Shelf
open Go.Lib (decDigits nDigits)
theorem m0b (V:World)(K:Nat)(hK:K<10 ^ eK)(hL:Lay V):Calls Tryz.prog 315 #[.string (a0f K),.string (a0f K)] V fun e w'=>e=.returned (.string (a0f (K+K)))∧Below V.heap.size V w':=by
 have dK:=a0N hK (by decide) (by decide);have h:=q0a V (a0f K) (a0f K) (a0M dK) (a0M dK) hL;rw[c0J dK dK (a0N (g0h hK hK) (by decide) (by decide))]at h;exact h
theorem x0B (V:World)(K:Nat)(hK:K<10 ^ (eK+1))(hL:Lay V):Calls Tryz.prog 315 #[.string (a0f K),.string ⟨#[49]⟩] V fun e w'=>e=.returned (.string (a0f (K+1)))∧Below V.heap.size V w':=by
 have dK:=a0N hK (by decide) (by decide);have e1:(⟨#[49]⟩:ByteArray)=a0f 1:=by unfold a0f;rw[i0i]
 have d1:nDigits 1≤4000:=a0N (n:=1) (k:=1) (by decide) (by decide) (by decide);have h:=q0a V (a0f K) (a0f 1) (a0M dK) (a0M d1) hL;rw[c0J dK d1 (a0N (k:=eK+1+1) (g0h hK (Nat.lt_of_lt_of_le (show 1<10 by decide) (Nat.le_self_pow (by decide) 10))) (by decide) (by decide))]at h;rw[e1];exact h
theorem w0O (w:World)(g bn bd:Nat)(b:ByteArray)(N D K T u:Nat)(ht:Toss w g bn bd b N D K T u)(hf:Fits N D K T)(hL:Lay w)(hs:b.size≤100000)(hu:u<b.size)(hG:q0p g):
 Calls Tryz.prog 316 #[.pointer (some ⟨g,0,none⟩)] w fun e w'=>
  Below g w w'∧e=.returned (.func (.func 305) #[.pointer (some ⟨g,0,none⟩)] #[])∧Toss w' g bn bd b N D (K+K+(if b[u]=49 then 1 else 0)) (T+T) (u+1):=by
 have HB:=hid ht.blk;have HN:=hid ht.num;have HD:=hid ht.den;have LN:=hid ht.ln;have LD:=hid ht.ld;have LG:=hid (Blk.lt ht.blk);have HL:=hid hL;have HS:=hid hs;have HG:=hid hG;have c1:w.cell? ⟨g,1,none⟩=some (.string (a0f K)):=ht.blk.cell 1;have c2:w.cell? ⟨g,2,none⟩=some (.string (a0f T)):=ht.blk.cell 2;have P1:=fun V hV=>hid (m0b V K hf.k hV)
 have P2:=fun V hV=>hid (m0b V T hf.t hV)
 have P3:=fun V hV=>hid (x0B V (K+K) (g0h hf.k hf.k) hV)
 obtain⟨sk,hsk⟩:∃ s,a0f K=s:=⟨_,rfl⟩;obtain⟨st,hst⟩:∃ s,a0f T=s:=⟨_,rfl⟩;rw[hsk]at c1 P1 HB;rw[hst]at c2 P2 HB;clear hsk hst ht hf hL hs hG;go_enter Tryz.func316,Tryz.ntmps316;go_wp2_with fail;refine k0C 20 6 [1] [(13,14),(12,13),(11,12),(17,18),(16,17),(15,16),(20,21),(23,24)] [0,2,3,4,5,6,7,8,9,11,12,13,14,15,16,17,18] 2 (fun W'=>W'.cell? ⟨g,1,none⟩=some (.string sk)∧W'.cell? ⟨g,2,none⟩=some (.string st)) (by kernel_rfl) (by kernel_rfl) (by kernel_rfl) (by kernel_rfl) (by kernel_rfl) (by kernel_rfl) (by kernel_rfl) (by kernel_rfl) (by kernel_rfl) (by kernel_rfl) (by kernel_rfl) (by kernel_rfl) ⟨c1,c2⟩ ?_
 iterate 1
  refine⟨_,rfl,?_⟩;apply Exists.intro
  refine⟨.inl ⟨by rfl,?_⟩,?_⟩
  ·(intro W' hW'
    clear hW'
    go_simp
    try (with_reducible rfl))
  (dsimp only[Act.put];try simp only[List.setIfInBounds_toArray,List.set_cons_zero,List.set_cons_succ])
 iterate 17
  refine⟨_,rfl,?_⟩;apply Exists.intro
  refine⟨.inl ⟨by rfl,?_⟩,?_⟩
  ·(intro W' hW'
    obtain⟨q1,q2⟩:=hW'
    go_simp
    try (with_reducible rfl))
  (dsimp only[Act.put];try simp only[List.setIfInBounds_toArray,List.set_cons_zero,List.set_cons_succ])
 refine a0c (i:=10) (by kernel_rfl) (by rfl) (by rfl) ?_;go_wp2_with fail;refine (P1 _ (HL.out.call (Below.refl _ _).drew)).out.mono ?_;rintro e w1 ⟨rfl,hb1⟩;have y1:=hid (show Below w.heap.size w w1 from (Below.refl _ _).drew.trans hb1);have B1:=hid (HB.out.call y1.out);clear hb1;go_wp2_with fail;refine⟨⟨B1.out.cell 1,B1.out.cell 2⟩,?_⟩;refine a0c (i:=19) (by kernel_rfl) (by rfl) (by rfl) ?_;go_wp2_with fail;refine (P2 _ (HL.out.call y1.out)).out.mono ?_;rintro e w2 ⟨rfl,hb2⟩;have y2:=hid (a0a y1.out hb2);have B2:=hid (HB.out.call y2.out);have N2:=hid (HN.out.call y2.out);have D2:=hid (HD.out.call y2.out);clear hb2;go_wp2_with fail;refine⟨⟨B2.out.cell 1,B2.out.cell 2⟩,?_⟩;refine wpAnyH_done (by kernel_rfl) ?_ _;simp only[b0l,c0R,List.drop_succ_cons,List.drop_zero];have d1:w2.cell? ⟨g,1,none⟩=some (.string sk):=B2.out.cell 1;have d2:w2.cell? ⟨g,2,none⟩=some (.string st):=B2.out.cell 2;have f1:=B2.out.free 1;have f2:=B2.out.free 2;obtain⟨kk,hkk⟩:∃ s,a0f (K+K)=s:=⟨_,rfl⟩;obtain⟨tt,htt⟩:∃ s,a0f (T+T)=s:=⟨_,rfl⟩;rw[hkk,htt];have HKK:=hid hkk;have HTT:=hid htt;rw[hkk]at P3;clear hkk htt c1 c2 P1 P2;go_wp2_with fail;simp only[b0l];have b3:Blk ((w2.setCell ⟨g,1,none⟩ (.string kk)).setCell ⟨g,2,none⟩ (.string tt)) g (i0K b kk tt bn bd false 0 u) 314:=by
  have:=(B2.out.set 1 (.string kk)).set 2 (.string tt);simpa[i0K]using this
 have z3:Below g w2 ((w2.setCell ⟨g,1,none⟩ (.string kk)).setCell ⟨g,2,none⟩ (.string tt)):=(((Below.refl g w2).setCell (Nat.le_refl _) _).setCell (Nat.le_refl _) _);obtain⟨w3,hw3⟩:∃ w3,(w2.setCell ⟨g,1,none⟩ (.string kk)).setCell ⟨g,2,none⟩ (.string tt)=w3:=⟨_,rfl⟩;rw[hw3]at b3 z3 ⊢;have B3:=hid b3;have N3:=hid (N2.out.below z3 LN.out);have D3:=hid (D2.out.below z3 LD.out);have y3:=hid ((y2.out.mono (Nat.le_of_lt LG.out)).trans z3);have L3:=hid ((HL.out.call y2.out).below z3 HG.out);have HZ3:=hid z3;have HW3:=hid hw3;clear b3 z3 hw3 d1 d2 f1 f2;have d0:w3.cell? ⟨g,0,none⟩=some (.string b):=B3.out.cell 0;have d6:w3.cell? ⟨g,6,none⟩=some (.int .i64 u):=B3.out.cell 6;have h0:(0:Int)≤(u:Int):=by omega
 have h1:(u:Int)<(b.size:Int):=by omega
 go_wp2_with fail;refine a0n [0,1,2,3,4,5,6,7,8,9,10] 0 (fun W'=>W'.cell? ⟨g,0,none⟩=some (.string b)∧W'.cell? ⟨g,6,none⟩=some (.int .i64 u)) (by kernel_rfl) (by kernel_rfl) (by kernel_rfl) (by kernel_rfl) ⟨d0,d6⟩ ?_
 iterate 11
  refine⟨_,rfl,?_⟩;apply Exists.intro
  refine⟨.inl ⟨by rfl,?_⟩,?_⟩
  ·(intro W' hW'
    obtain⟨q1,q2⟩:=hW'
    go_simp
    try (with_reducible rfl))
  (dsimp only[Act.put];try simp only[List.setIfInBounds_toArray,List.set_cons_zero,List.set_cons_succ])
 refine wpAnyH_done (by kernel_rfl) ?_ _;simp only[b0l];have e1:((b[u].toNat:Int)==49)=decide (b[u]=49):=by
  rw[Bool.eq_iff_iff,beq_iff_eq,decide_eq_true_iff]
  constructor
  ·intro h;apply UInt8.toNat_inj.1
   simp;omega
  ·intro h;rw[h]
   rfl
 rw[e1];have d1:w3.cell? ⟨g,1,none⟩=some (.string kk):=B3.out.cell 1;have f1:=B3.out.free 1;have f6:=B3.out.free 6;have q6:IntKind.i64.wrap ((u:Int)+1)=(u:Int)+1:=IntWalk.i64_in _ ⟨by omega,by have:=HS.out;omega⟩;clear e1;by_cases hb:b[u]=49
 ·simp only[hb,decide_true,if_true];have HBU:=hid hb;clear hb;go_wp2_with fail;refine (P3 _ (L3.out.call (Below.refl _ _).drew)).out.mono ?_;rintro e w4 ⟨rfl,hb4⟩;have y34:=hid (show Below w3.heap.size w3 w4 from (Below.refl _ _).drew.trans hb4);clear hb4;have lg3:=Blk.lt B3.out;have B4:=hid (B3.out.call y34.out);have N4:=hid (N3.out.call y34.out);have D4:=hid (D3.out.call y34.out);have y4:=hid (y3.out.trans (y34.out.mono (Nat.le_of_lt lg3)));have g1:w4.cell? ⟨g,1,none⟩=some (.string kk):=B4.out.cell 1;have g6:w4.cell? ⟨g,6,none⟩=some (.int .i64 u):=B4.out.cell 6;have k1:=B4.out.free 1;have k6:=B4.out.free 6;clear d0 d1 d6 f1 f6 lg3;go_wp2_with fail;go_ret
  have r:=(B4.out.set 1 (.string (a0f (K+K+1)))).set 6 (.int .i64 ((u:Int)+1));refine⟨(y4.out.setCell (Nat.le_refl _) _).setCell (Nat.le_refl _) _,rfl,?_⟩;refine⟨?_,(N4.out.other (by simp;have:=LN.out;omega) _).other (by simp;have:=LN.out;omega) _,(D4.out.other (by simp;have:=LD.out;omega) _).other (by simp;have:=LD.out;omega) _,LN.out,LD.out⟩;rw[HTT.out,show ((u+1:Nat):Int)=(u:Int)+1 by omega];exact r
 ·simp only[hb,decide_false,if_false,Nat.add_zero];have HBU:=hid hb;clear hb d1 f1;go_wp2_with fail;go_ret
  have r:=(show Blk w3.drew g (i0K b kk tt bn bd false 0 u) 314 from B3.out).set 6 (.int .i64 ((u:Int)+1));refine⟨y3.out.drew.setCell (Nat.le_refl _) _,rfl,?_⟩;refine⟨?_,(N3.out).other (by simp;have:=LN.out;omega) _,(D3.out).other (by simp;have:=LD.out;omega) _,LN.out,LD.out⟩;rw[HKK.out,HTT.out,show ((u+1:Nat):Int)=(u:Int)+1 by omega];exact r
def w0I (x:Bool×Nat×Nat):Value:=.agg #[.bool x.1,.int .i64 (x.2.1:Nat),.int .i64 (x.2.2:Nat)]
def j0q (g:Nat):Value:=.func (.func 305) #[.pointer (some ⟨g,0,none⟩)] #[]
def m0x (g:Nat):Value:=.func (.func 316) #[.pointer (some ⟨g,0,none⟩)] #[]
def i0H (w:World)(g:Nat):Nat:=match w.cell? ⟨g,6,none⟩ with | some (.int _ u)=>u.toNat | _=>0
def e0f (n g:Nat)(nx:Value)(w:World):Nat:=match nx with
 | .func (.func f) _ _=>2*(n-i0H w g)+(if f=305 then 2 else 1)
 | _=>0
def x0G (g bn bd:Nat)(b:ByteArray)(N D:Nat)(nx:Value)(w:World):Prop:=
 (∃ K T u,nx=j0q g∧Toss w g bn bd b N D K T u∧Cell K T u∧u≤b.size∧b0R N D b.data.toList 0 1 0=b0R N D b.data.toList K T u) ∨
 (∃ K T u,nx=m0x g∧Toss w g bn bd b N D K T u∧Cell K T u∧u<b.size∧sdB N D K T=false∧b0R N D b.data.toList 0 1 0=b0R N D b.data.toList K T u) ∨
 (∃ (k t:ByteArray) (x:Bool×Nat×Nat),nx=.nilFunc∧Blk w g (i0K b k t bn bd x.1 (x.2.1:Nat) (x.2.2:Nat)) 314∧x=b0R N D b.data.toList 0 1 0)
theorem d0p {w:World}{g bn bd:Nat}{b k t:ByteArray}{d:Bool}{v:Int}{u:Nat}(h:Blk w g (i0K b k t bn bd d v u) 314):i0H w g=u:=by
 have h6:w.cell? ⟨g,6,none⟩=some (.int .i64 (u:Int)):=h.cell 6;unfold i0H;rw[h6];simp
theorem d0B {n g:Nat}{w:World}:e0f n g (j0q g) w=2*(n-i0H w g)+2:=by simp[e0f,j0q]
theorem h0b {n g:Nat}{w:World}:e0f n g (m0x g) w=2*(n-i0H w g)+1:=by simp[e0f,m0x]
theorem u0d (fn:Fn)(bs cs:Array Value)(W:World):(binOp BinOp.neq 316 (.func fn bs cs) .nilFunc).run Tryz.prog W=.ok (.bool true) W:=by
 kernel_rfl
theorem r0z (W:World):(binOp BinOp.neq 316 .nilFunc .nilFunc).run Tryz.prog W=.ok (.bool false) W:=by
 kernel_rfl
theorem q0c (w:World)(p b:ByteArray)(hp:p.size≤100000)(hb:b.size≤256)(hc:d0l b=0)(he:cPE p=0)(hL:Lay w):
 Calls Tryz.prog 285 #[.string p,.string b] w fun e w'=>e=.returned (.tuple #[w0I (b0R (bN (cW p)) (bN (qD p)) b.data.toList 0 1 0),.int .i64 0])∧Below w.heap.size w w':=by
 have HP:=fun V hV=>hid (u0Q V p hp hV)
 rw[he]at HP;simp only[if_true]at HP;have HC:=fun V=>hid (q0b V b (by omega))
 rw[hc]at HC;obtain⟨e1,e2,hN,hD,hle⟩:=s0X he;obtain⟨N,hn⟩:∃ N,bN (cW p)=N:=⟨_,rfl⟩;obtain⟨D,hd⟩:∃ D,bN (qD p)=D:=⟨_,rfl⟩;rw[hn]at e1 hN;rw[hd]at e2 hD;rw[e1,e2]at HP;rw[hn,hd];have HN:=hid hN;have HD:=hid hD;have HL:=hid hL;have HB:=hid hb;have z0:=d0V (s:=(⟨#[48]⟩:ByteArray)) rfl;clear hn hd e1 e2 hN hD hle hL hc he hp;obtain⟨sn,hsn⟩:∃ s,a0f N=s:=⟨_,rfl⟩;obtain⟨sd,hsd⟩:∃ s,a0f D=s:=⟨_,rfl⟩;rw[hsn,hsd]at HP;have HSN:=hid hsn;have HSD:=hid hsd;clear hsn hsd z0 hb;have e27:∀ args w,(callFunc 305 args).run Tryz.prog w=.ok (.enter 305 args) w:=enters_of Tryz.func305 (by kernel_rfl) rfl;have e54:∀ args w,(callFunc 316 args).run Tryz.prog w=.ok (.enter 316 args) w:=enters_of Tryz.func316 (by kernel_rfl) rfl;go_enter Tryz.func285,Tryz.ntmps285;go_wp2_with fail;refine (HP _ (HL.out.call ((Below.refl _ _).alloc (Nat.le_refl _) _))).out.mono ?_;rintro e w1 ⟨rfl,hb1⟩;have x1:=hid ((Blk.new w #[.bool false,.int .i64 0,.int .i64 0] 82).call hb1);have y1:=hid (a0a ((Below.refl w.heap.size w).alloc (Nat.le_refl _) (.cells #[.bool false,.int .i64 0,.int .i64 0] 82)) hb1);clear hb1;go_wp2_with fail;refine (HC _).out.mono ?_;rintro e w2 ⟨rfl,hb2⟩;have x2:=hid (x1.out.call hb2);have y2:=hid (a0a y1.out hb2);clear hb2;go_wp2_with fail;refine (u0P _ _ _).mono ?_;rintro e w3 ⟨rfl,rfl⟩;go_wp2_with fail;have hsz2:w2.heap.size=w2.heap.size:=rfl;obtain⟨g,hg⟩:∃ g,g=w2.heap.size+1+1:=⟨_,rfl⟩;obtain⟨bn,hbn⟩:∃ g,g=w2.heap.size:=⟨_,rfl⟩;obtain⟨bd,hbd⟩:∃ g,g=w2.heap.size+1:=⟨_,rfl⟩;obtain⟨W0,hW0⟩:∃ W0,(((w2.alloc (Obj.cells #[Value.string sn] 22)).alloc (Obj.cells #[Value.string sd] 22)).alloc
  (Obj.cells #[Value.string b,Value.string { data:=#[48] },Value.string { data:=#[49] },Value.func (Fn.func 313) #[] #[Value.pointer (some { block:=w2.heap.size,off:=0 }),Value.pointer (some { block:=w2.heap.size+1,off:=0 })],Value.bool false,Value.int IntKind.i64 0,Value.int IntKind.i64 0] 314))=W0:=⟨_,rfl⟩
 rw[hW0,← hg,← hbd,← hbn];have t0:Toss W0 g bn bd b N D 0 1 0:=by
  refine⟨?_,?_,?_,by omega,by omega⟩
  ·rw[← hW0,hbn,hbd];have e0:a0f 0=⟨#[48]⟩:=by unfold a0f;rw[b0W]
   have e1:a0f 1=⟨#[49]⟩:=by unfold a0f;rw[i0i]
   rw[e0,e1];exact Blk.made _ _ _ (by simp;omega)
  ·rw[← hW0,HSN.out,hbn];exact ((Blk.new w2 _ _).alloc _).alloc _
  ·rw[← hW0,HSD.out,hbd];exact (Blk.made _ _ _ (by simp)).alloc _
 have b0:Below w2.heap.size w2 W0:=by
  rw[← hW0];exact (((Below.refl _ _).alloc (Nat.le_refl _) _).alloc (by simp) _).alloc (by simp;omega) _
 have HG:=hid hg;have hLG:q0p g:=by
  have h1:=(HL.out.call y2.out).lt;exact⟨by have:=h1.1;omega,by have:=h1.2;omega⟩
 have HLG:=hid hLG;have T0:=hid t0;have B0:=hid b0;clear hW0 hg hbn hbd t0 b0 hsz2 HP HC hLG;have hq1:=fun (fn:Fn) (bs cs:Array Value) (W:World)=>u0d fn bs cs W
 have hq2:=fun (W:World)=>r0z W
 go_loopw [10] (fun nx wr=>x0G g bn bd b N D nx wr∧Hid (Below w2.heap.size w2 wr)) (fun nx wr=>e0f b.size g nx wr)
 case atStart=>exact⟨.inl ⟨0,1,0,rfl,T0.out,⟨rfl,by omega⟩,by omega,rfl⟩,B0.out⟩
 case round=>
  obtain⟨hI,hB⟩:=hrel;rcases hI with ⟨K,T,u,rfl,ht,hc,hu,heq⟩ | ⟨K,T,u,rfl,ht,hc,hu,hsb,heq⟩ | ⟨k,t,x,rfl,hbk,hx⟩
  ·have HT:=hid ht;have HCl:=hid hc;have HU:=hid hu;have HE:=hid heq;have HM:=hid (d0p ht.blk);clear ht hc hu heq;simp only[j0q];go_wp2_with fail;refine (w0P _ g bn bd b N D K T u HT.out (HCl.out.fits (by have:=HU.out;have:=HB.out;omega) HN.out HD.out) ((HL.out.call y2.out).call hB.out) (by have:=HB.out;omega) HU.out).mono ?_;rintro e w5 ⟨hb5,hcases⟩;have B5:=hid (hB.out.trans (hb5.mono (by have:=HG.out;omega)));clear hb5;rcases hcases with ⟨h1,rfl,h2⟩ | ⟨h1,h3,rfl,h2⟩ | ⟨h1,h3,rfl,h2⟩
   ·have K1:=hid h1;have K2:=hid h2;clear h1 h2;go_wp2_with fail;go_roundw
    case rel=>exact⟨.inr (.inr ⟨_,_,(true,sdV N D K T,u),rfl,K2.out,by rw[HE.out,k0e K1.out]⟩),B5⟩
    case measure=>exact (by show e0f b.size g .nilFunc _<e0f b.size g (j0q g) _;rw[d0B];simp[e0f])
   ·have K1:=hid h1;have K2:=hid h2;have K3:=hid h3;clear h1 h2 h3;go_wp2_with fail;go_roundw
    case rel=>exact⟨.inr (.inr ⟨_,_,(false,0,u),rfl,K2.out.blk,by rw[HE.out,K3.out,← a0r,k0d K1.out]⟩),B5⟩
    case measure=>exact (by show e0f b.size g .nilFunc _<e0f b.size g (j0q g) _;rw[d0B];simp[e0f])
   ·have K1:=hid h1;have K2:=hid h2;have K3:=hid h3;clear h1 h2 h3;go_wp2_with fail;go_roundw
    case rel=>exact⟨.inr (.inl ⟨K,T,u,rfl,K2.out,HCl.out,K3.out,K1.out,HE.out⟩),B5⟩
    case measure=>exact (by show e0f b.size g (m0x g) _<e0f b.size g (j0q g) _;rw[d0B,h0b,HM.out,d0p K2.out.blk];omega)
  ·have HT:=hid ht;have HCl:=hid hc;have HU:=hid hu;have HE:=hid heq;have HSB:=hid hsb;have HM:=hid (d0p ht.blk);clear ht hc hu heq hsb;simp only[m0x];go_wp2_with fail;refine (w0O _ g bn bd b N D K T u HT.out (HCl.out.fits (by have:=HU.out;have:=HB.out;omega) HN.out HD.out) ((HL.out.call y2.out).call hB.out) (by have:=HB.out;omega) HU.out HLG.out).mono ?_;rintro e w5 ⟨hb5,rfl,h2⟩;have B5:=hid (hB.out.trans (hb5.mono (by have:=HG.out;omega)));have K2:=hid h2;clear hb5 h2;go_wp2_with fail;go_roundw
   case rel=>exact⟨.inl ⟨_,_,u+1,rfl,K2.out,HCl.out.next (by split<;>omega),HU.out,by
    rw[HE.out];exact k0c HSB.out (by rw[a0r];exact HU.out)⟩,B5⟩
   case measure=>exact (by show e0f b.size g (j0q g) _<e0f b.size g (m0x g) _;rw[d0B,h0b,HM.out,d0p K2.out.blk];have:=HU.out;omega)
  ·have HK:=hid hbk;have HX:=hid hx;have x3:=hid (x2.out.call hB.out);have d4:wr.cell? ⟨g,4,none⟩=some (.bool x.1):=hbk.cell 4;have d5:wr.cell? ⟨g,5,none⟩=some (.int .i64 (x.2.1:Nat)):=hbk.cell 5;have d6:wr.cell? ⟨g,6,none⟩=some (.int .i64 (x.2.2:Nat)):=hbk.cell 6;have r0:wr.cell? ⟨w.heap.size,0,none⟩=some (.bool false):=x3.out.cell 0;have r1:wr.cell? ⟨w.heap.size,1,none⟩=some (.int .i64 0):=x3.out.cell 1;have r2:wr.cell? ⟨w.heap.size,2,none⟩=some (.int .i64 0):=x3.out.cell 2;have f0:=x3.out.free 0;have f1:=x3.out.free 1;have f2:=x3.out.free 2;clear hbk hx;go_wp2_with fail;have s3:=((x3.out.set 0 (.bool x.1)).set 1 (.int .i64 (x.2.1:Nat))).set 2 (.int .i64 (x.2.2:Nat));have k0:=s3.cell 0;have k1:=s3.cell 1;have k2:=s3.cell 2;simp at k0 k1 k2;refine bodyPost_ret (v:=.tuple #[.agg #[.bool x.1,.int .i64 (x.2.1:Nat),.int .i64 (x.2.2:Nat)],.int .i64 0]) (by simp[results,Tryz.results285,go_sem,k0,k1,k2]) rfl ⟨by rw[← HX.out];rfl,?_⟩;exact (((y2.out.trans (hB.out.mono y2.out.size)).setCell (Nat.le_refl _) _).setCell (Nat.le_refl _) _).setCell (Nat.le_refl _) _
def gE (a b:ByteArray):Int:=if gPE a≠0 then gPE a else d0l b
theorem i0c (w:World)(a b:ByteArray)(ha:a.size≤100000)(hb:b.size≤100000)(hL:Lay w):
 Calls Tryz.prog 174 #[.string a,.string b] w fun e w'=>e=.returned (.int .i64 (gE a b))∧Below w.heap.size w w':=by
 have HR:=hid (g0f w a ha hL);have HC:=fun V=>hid (k0T V b (by omega))
 obtain⟨s1,hs1⟩:∃ s,(if gPE a=0 then cW a else ⟨#[]⟩)=s:=⟨_,rfl⟩;obtain⟨s2,hs2⟩:∃ s,(if gPE a=0 then qD a else ⟨#[]⟩)=s:=⟨_,rfl⟩;rw[hs1,hs2]at HR;clear hs1 hs2;by_cases h1:gPE a=0
 ·have e1:gE a b=d0l b:=by rw[gE,if_neg (fun h=>h h1)]
  rw[e1];rw[h1]at HR;by_cases h2:t0b b=true
  ·have e2:q0h b=0:=if_pos h2;rw[e2]at HC;by_cases h3:256<b.size
   ·have e3:d0l b=4:=by rw[d0l,if_pos h2,if_pos h3]
    have q0:decide ((256:Int)<(b.size:Int))=true:=by simp;omega
    rw[e3];clear h1 h2 h3 e1 e2 e3 hL;go_enter Tryz.func174,Tryz.ntmps174;go_wp2_with fail;refine HR.out.mono ?_;rintro e w1 ⟨rfl,hb1⟩;have y1:=hid hb1;clear hb1;go_wp2_with fail;refine (HC _).out.mono ?_;rintro e w2 ⟨rfl,hb2⟩;have y2:=hid (a0a y1.out hb2);clear hb2;go_wp2_with fail;go_ret
    exact⟨rfl,y2.out⟩
   ·have e3:d0l b=0:=by rw[d0l,if_pos h2,if_neg h3]
    have q0:decide ((256:Int)<(b.size:Int))=false:=by simp;omega
    rw[e3];clear h1 h2 h3 e1 e2 e3 hL;go_enter Tryz.func174,Tryz.ntmps174;go_wp2_with fail;refine HR.out.mono ?_;rintro e w1 ⟨rfl,hb1⟩;have y1:=hid hb1;clear hb1;go_wp2_with fail;refine (HC _).out.mono ?_;rintro e w2 ⟨rfl,hb2⟩;have y2:=hid (a0a y1.out hb2);clear hb2;go_wp2_with fail;go_ret
    exact⟨rfl,y2.out⟩
  ·have e2:q0h b=3:=if_neg h2;have e3:d0l b=3:=if_neg h2;rw[e2]at HC;rw[e3];clear h1 h2 e1 e2 e3 hL;go_enter Tryz.func174,Tryz.ntmps174;go_wp2_with fail;refine HR.out.mono ?_;rintro e w1 ⟨rfl,hb1⟩;have y1:=hid hb1;clear hb1;go_wp2_with fail;refine (HC _).out.mono ?_;rintro e w2 ⟨rfl,hb2⟩;have y2:=hid (a0a y1.out hb2);clear hb2;go_wp2_with fail;go_ret
   exact⟨rfl,y2.out⟩
 ·have e1:gE a b=gPE a:=by rw[gE,if_pos h1]
  rw[e1];obtain⟨x,hx⟩:∃ x,gPE a=x:=⟨_,rfl⟩;rw[hx]at HR h1 ⊢;have q0:(x==0)=false:=by simpa using h1
  have q1:(x != 0)=true:=by simpa using h1
  clear h1 e1 hx hL;go_enter Tryz.func174,Tryz.ntmps174;go_wp2_with fail;refine HR.out.mono ?_;rintro e w1 ⟨rfl,hb1⟩;have y1:=hid hb1;clear hb1;go_wp2_with fail;go_ret
  exact⟨rfl,y1.out⟩
theorem u0A (w:World)(a b:ByteArray):
 Calls Tryz.prog 242 #[.string a,.string b] w fun e w'=>e=.returned (.func (.func 284) #[] #[.pointer (some ⟨w.heap.size,0,none⟩),.pointer (some ⟨w.heap.size+1,0,none⟩)])∧w'=(w.alloc (.cells #[.string a] 22)).alloc (.cells #[.string b] 33):=by
 go_enter Tryz.func242,Tryz.ntmps242;go_wp2_with fail;go_ret
 exact⟨rfl,rfl⟩
end Go.Proofs.YtlmnpocifldpmaaGreatDoor
namespace Go.Proofs.YtlmnpocifldpmaaGreatDoor
open Go.RowKit
def t0f {α : Type}(M n:Nat)(P:Program)(g:Nat)(lb:Array Value)(encs : α→Array Value)(Kp:World→World→Prop)(Ok:List α→α→Prop)(S Sp:List α→Prop)(w:World):Prop:=
 ∀ (l:Nat) (J Jx:List α→World→Prop) (W:World),Below w.heap.size w W→AbidesFrom W.heap.size J→AbidesFrom W.heap.size Jx →
  (∀ pre x W1,Ok pre x→J pre W1→YieldAt Fence.wide (n-1) P l (encs x) W1 fun e W2=>
   (e=.returned (.bool true)∧J (pre ++ [x]) W2∧Kp W1 W2)∨(e=.returned (.bool false)∧Jx (pre ++ [x]) W2)) →
  (∀ pre W1,J pre W1→pre.length≤M) →
  J [] W →
  CallsIn Fence.wide n P g (#[.func (.yield l) #[] #[]]++lb) W fun e W2=>(∃ v,e=.returned v)∧((∃ xs,S xs∧J xs W2)∨(∃ pre,Sp pre∧Jx pre W2))
theorem o0m {α : Type}{P:Program}{n:Nat}{g:Operand}{ps:Array Tmp}{assign body:Code}{Q:Exit→Act→World→Prop}{a:Act}{w:World}(h1:1≤n)
 {gf:Nat} {lb:Array Value} (hg:a.eval g=.func (.func gf) #[] lb) (eg:∀ args w,(callFunc gf args).run P w=.ok (.enter gf args) w)
 {encs : α→Array Value} {Kp:World→World→Prop} {Ok:List α→α→Prop} {S Sp:List α→Prop} {w0:World} {M:Nat} (hseq:t0f M (n-1) P gf lb encs Kp Ok S Sp w0)
 (hKt:∀ {A B C:World},Kp A B→Kp B C→Kp A C) (hKb:∀ (W:World) (l:Nat) (o o2:Obj),w.heap.size≤l→W.heap[l]?=some o→o.isCells=false→o.isWalk=false→Kp W (W.putObj l o2)) (hb0:Below w0.heap.size w0 w) (hps:∀ x,(encs x).size=ps.size)
 (I:List α→World→Prop) (Ix:Code→List α→World→Prop) (hI:OwnFrom w.heap.size I) (hIx:∀ c,OwnFrom w.heap.size (Ix c)) (h0:I [] w) (hM:∀ pre W,I pre W→pre.length≤M) (a1 : α→Act)
 (hassign:∀ (l:Nat) (x : α) (W:World) (K:Act→World→Prop),K (a1 x) W →
  assign.wpIn (Fence.wide.inRound l) (n-1-1) P (Exit.then K (fun _ _ _=>False)) { tmps:=(ps.zip (encs x)).foldl (fun t (p,v)=>t.setIfInBounds p v) a.tmps,defers:=[] } W)
 (hbody:∀ (l:Nat) (pre:List α) (x : α) (W:World),Ok pre x→I pre W→body.wpIn (Fence.wide.inRound l) (n-1-1) P (ownPostG w.heap.size Kp I Ix (pre ++ [x]) W) (a1 x) W)
 (hdone:∀ (D:Nat) (xs:List α) (W:World),w.heap.size≤D→S xs→I xs W→W.heap[D]?=some (.deferred (some []))→Q .normal { a with defers:={ target:=.collected D,args:=#[] } :: a.defers } W)
 (hstop:∀ (D:Nat) (c:Code) (pre:List α) (W:World),w.heap.size≤D→Sp pre→Ix c pre W→W.heap[D]?=some (.deferred (some []))→c.wpIn Fence.wide n P Q { a with defers:={ target:=.collected D,args:=#[] } :: a.defers } W):
 (Code.rangeFunc g ps assign body).wpIn Fence.wide n P Q a w:=by
 refine wpIn_rangeFunc fun fn hfn=>?_
 obtain⟨R,hR⟩:∃ R:LoopState→Option Code→Loop,∀ s p,R s p = { state:=s,pending:=p,fn,tmps:=a.tmps,params:=ps,assign,body,defers:=w.heap.size }:=⟨_,fun _ _=>rfl⟩;have hs:∀ s p,(R s p).state=s:=fun s p=>by rw[hR]
 obtain⟨W1,e1⟩:∃ W1,W1=(w.alloc (.deferred (some []))).alloc (.loop (R .ready none)):=⟨_,rfl⟩;have z1:w.heap.size≤W1.heap.size:=by rw[e1];simp;omega
 have k1:Kept w.heap.size (R .ready none) W1:=by
  rw[e1];refine⟨?_,(Below.heap_alloc _ _ _ (by simp)).trans (World.alloc_heap_new w _)⟩;have:=World.alloc_heap_new (w.alloc (.deferred (some []))) (.loop (R .ready none));rwa[World.size_alloc]at this
 have i1:I [] W1:=by rw[e1];exact hI.alloc _ (hI.alloc _ h0)
 have b1:Below w0.heap.size w0 W1:=by
  have:Below w.heap.size w W1:=by rw[e1];exact ((Below.refl _ w).alloc (Nat.le_refl _) _).alloc (by simp) _
  exact hb0.trans (this.mono hb0.size)
 refine⟨w.heap.size+1,[{ target:=.collected w.heap.size,args:=#[] }],W1,{ target:=.fn (.func gf) lb,args:=#[.func (.yield (w.heap.size+1)) #[] #[]] },W1,gf,#[.func (.yield (w.heap.size+1)) #[] #[]]++lb,W1,?_,?_,fun f hf=>trivial,?_,fun _=>h1,?_⟩
 ·have:=run_enterLoop_outer (P:=P) (w:=w) fn a.tmps ps assign body;rw[e1,hR];exact this
 ·simp only[resolve,hg];simp[go_sem]
 ·simp[invoke,go_sem,eg]
 ·refine (hseq (w.heap.size+1) (fun pre W=>I pre W∧Kept w.heap.size (R .ready none) W) (fun pre W=>∃ c,Ix c pre W∧Kept w.heap.size (R .done (some c)) W) W1 b1
   (fun s A B row hs hg2 hr=>⟨hI s A B row hs.1 hg2 (fun k e=>?_),hs.2.cells hg2 (fun k e=>(hr k e).2)⟩)
   (fun s A B row hs hg2 hr=>?_) (fun pre x W hok hJ=>?_) (fun pre W h=>hM pre W h.1) ⟨i1,k1⟩).mono ?_
  ·obtain⟨h2,o,h3,h4⟩:=hr k e;exact⟨Nat.le_trans z1 h2,o,h3,Obj.not_cells_of_walk h4⟩
  ·obtain⟨c,hc,hk⟩:=hs;refine⟨c,hIx c s A B row hc hg2 (fun k e=>?_),hk.cells hg2 (fun k e=>(hr k e).2)⟩;obtain⟨h2,o,h3,h4⟩:=hr k e;exact⟨Nat.le_trans z1 h2,o,h3,Obj.not_cells_of_walk h4⟩
  ·obtain⟨hi,hk⟩:=hJ;have hy:=run_yield (P:=P) (args:=encs x) hk.loop (by rw[hR];exact hps x);have kb:=hk.put (R .busy none);have bg:=run_beginRound (P:=P) hk.loop (hs _ _);rw[show ({ R .ready none with state:=.busy }:Loop)=R .busy none by rw[hR,hR]]at bg;have kk:Kp W (W.putObj (w.heap.size+1) (.loop (R .busy none))):=hKb _ _ _ _ (by omega) hk.loop rfl rfl;rw[hR]at hy;refine⟨fn,_,assign,body,hy,roundIn_of_wpIn hfn (hassign _ x W _ ⟨_,bg,?_⟩)⟩;refine wpIn_mono (hbody _ pre x _ hok (b0z hI hk (Nat.le_refl _) hi _)) ?_;have fin:∀ (j:Option Code) (W3:World),Kept w.heap.size (R .busy none) W3→(Instr.endRound (w.heap.size+1) j).run P W3=.ok (.bool j.isNone) (W3.putObj (w.heap.size+1) (.loop (R (if j.isNone then .ready else .done) j))):=fun j W3 h3=>by
    have:=run_endRound (P:=P) j h3.loop;rw[this,hR,hR]
   rintro e a3 W3 hp;cases e with
   | normal=>
    obtain⟨p1,p2,p3⟩:=hp;have k3:=kb.from p1 (Nat.le_refl _)
    exact⟨_,_,fin none W3 k3,.inl ⟨rfl,⟨b0z hI k3 (Nat.le_refl _) p3 _,k3.put _⟩,hKt (hKt kk p2) (hKb _ _ _ _ (by omega) k3.loop rfl rfl)⟩⟩
   | ret=>
    have k3:=kb.from hp.1 (Nat.le_refl _)
    exact⟨_,_,fin (some .ret) W3 k3,.inr ⟨rfl,.ret,b0z (hIx _) k3 (Nat.le_refl _) hp.2 _,k3.put _⟩⟩
   | exit id=>
    have k3:=kb.from hp.1 (Nat.le_refl _)
    exact⟨_,_,fin (some (.exit id)) W3 k3,.inr ⟨rfl,.exit id,b0z (hIx _) k3 (Nat.le_refl _) hp.2 _,k3.put _⟩⟩
   | goto t=>
    have k3:=kb.from hp.1 (Nat.le_refl _)
    exact⟨_,_,fin (some (.goto t)) W3 k3,.inr ⟨rfl,.goto t,b0z (hIx _) k3 (Nat.le_refl _) hp.2 _,k3.put _⟩⟩
   | panic ch=>exact hp.elim
   | outgrown=>exact hp.elim
  ·have en:∀ {s p W2},Kept w.heap.size (R s p) W2→s ≠ .busy→(Instr.endLoop (w.heap.size+1)).run P W2=.ok p (W2.putObj (w.heap.size+1) (.loop (R .exhausted p))):=fun {s p W2} h2 hne=>by
    have:=run_endLoop (P:=P) h2.loop (by rw[hs];exact hne);rw[this,hR,hR]
   rintro e W2 ⟨⟨v,rfl⟩,⟨xs,hS,hi,hk⟩ | ⟨pre,hSp,c,hi,hk⟩⟩
   ·exact⟨none,_,en hk (by simp),hdone _ xs _ (Nat.le_refl _) hS (b0z hI hk (Nat.le_refl _) hi _) (hk.put (R .exhausted none)).calls⟩
   ·exact⟨some c,_,en hk (by simp),hstop _ c pre _ (Nat.le_refl _) hSp (b0z (hIx c) hk (Nat.le_refl _) hi _) (hk.put (R .exhausted (some c))).calls⟩
open Go.Shelf
open Go.Lib (decDigits nDigits)
attribute [local go_sem] Oper.semAt_some
theorem b0Y {b:ByteArray}(h:d0l b=0)(p:Nat):d0l (b.extract p b.size)=0∧(b.extract p b.size).data.toList=b.data.toList.drop p∧(b.extract p b.size).size≤256:=by
 have hl:b.data.toList.length=b.size:=a0r b;have e:(b.extract p b.size).data.toList=b.data.toList.drop p:=by
  rw[a0U,List.take_of_length_le (by rw[List.length_drop];omega)]
 unfold d0l at h
 split at h
 ·rename_i hb
  split at h
  ·cases h
  ·rename_i h2
   have hs:(b.extract p b.size).size≤256:=by
    have:=a0r (b.extract p b.size);rw[e,List.length_drop]at this;omega
   refine⟨?_,e,hs⟩;have hb2:t0b (b.extract p b.size)=true:=by
    unfold t0b at hb ⊢;rw[e];rw[List.all_eq_true]at hb ⊢;exact fun x hx=>hb x (List.mem_of_mem_drop hx)
   rw[d0l,if_pos hb2,if_neg (by omega)]
 ·cases h
theorem k0L {Kp:World→World→Prop}(M n:Nat)(hn:1≤n)(w:World)(ba bb:Nat)(a b:ByteArray)(hKr:∀ W,Kp W W)(hKt:∀ {A B C:World},Kp A B→Kp B C→Kp A C)(ha:a.size≤100000)(hc:d0l b=0)(he:cPE a=0)
 (hread:∀ W1 W2,Below w.heap.size w W1→Kp W1 W2→W2.cell? ⟨ba,0,none⟩=some (.string a)∧W2.cell? ⟨bb,0,none⟩=some (.string b)∧Lay W2) (hKb:∀ W1 W2,Below W1.heap.size W1 W2→Kp W1 W2):
 t0f M n Tryz.prog 284 #[.pointer (some ⟨ba,0,none⟩),.pointer (some ⟨bb,0,none⟩)] (fun x:Nat×Nat=>#[.int .i64 (x.1:Int),.int .i64 (x.2:Int)]) Kp
  (fun pre x=>(a0y (bN (cW a)) (bN (qD a)) b.data.toList (d0U pre)).1=true∧x=(d0U pre+(a0y (bN (cW a)) (bN (qD a)) b.data.toList (d0U pre)).2.2,(a0y (bN (cW a)) (bN (qD a)) b.data.toList (d0U pre)).2.1))
  (fun xs=>(a0y (bN (cW a)) (bN (qD a)) b.data.toList (d0U xs)).1=false) (fun _=>True) w:=by
 intro l J Jx W hW hJ hJx hY hM h0;have HR:=hid hread;have HY:=hid hY;have HW:=hid hW;have HJ:=hid hJ;have HJx:=hid hJx;have HM:=hid hM;have HKr:=hid hKr;have HKt:Hid (∀ A B C:World,Kp A B→Kp B C→Kp A C):=fun A B C h k=>hKt h k
 have HKb:=hid hKb;have HC:=hid hc;have HE:=hid he;have HA:=hid ha;clear hread hY hW hJ hJx hKr hKt hM hKb hc he ha;refine callsIn_of_wp Tryz.func284 rfl trivial ?_ rfl;simp only[Tryz.ntmps284,List.size_toArray,List.length_cons,List.length_nil,Nat.reduceAdd,Nat.reduceSub,Array.replicate_succ,Array.replicate_zero,List.push_toArray,List.append_toArray,List.nil_append,List.cons_append]
 gi_wp2
 obtain⟨RR,hRR⟩:∃ RR:Nat→Value→World→Prop,RR=fun k i wr=>∃ pre:List (Nat×Nat),i=.int .i64 (d0U pre:Nat)∧d0U pre≤b.size∧k+pre.length=M∧J pre wr∧Kp W wr:=⟨_,rfl⟩
 have HRR:=hid hRR;clear hRR
 gi_loopw [4,5,6] (fun i x5 x6 wr=>∃ k,RR k i wr) (fun i x5 x6 wr=>leastOf (fun k=>RR k i wr))
 case atStart=>exact⟨M,by rw[HRR.out];exact⟨[],rfl,Nat.zero_le _,by simp,h0,HKr.out W⟩⟩
 case round=>
  obtain⟨hk,hmin⟩:=leastOf_spec hrel;obtain⟨k,hkk⟩:∃ k,leastOf (fun k=>RR k u4 wr)=k:=⟨_,rfl⟩;rw[hkk]at hk hmin;rw[HRR.out]at hk;obtain⟨pre,rfl,hp,hlen,hJ,hK⟩:=hk;obtain⟨c0,c1,hLay⟩:=HR.out W wr HW.out hK;obtain⟨p,hpp⟩:∃ p,d0U pre=p:=⟨_,rfl⟩;obtain⟨q1,q2,q3⟩:=b0Y HC.out p;have q4:=fun V hV=>hid (q0c V a (b.extract p b.size) HA.out q3 q1 HE.out hV)
  rw[q2]at q4;obtain⟨x,hx⟩:∃ x,b0R (bN (cW a)) (bN (qD a)) (b.data.toList.drop p) 0 1 0=x:=⟨_,rfl⟩;rw[hx]at q4;have hxc:a0y (bN (cW a)) (bN (qD a)) b.data.toList p=x:=hx;have hle:=a0R (N:=bN (cW a)) (D:=bN (qD a)) (l:=b.data.toList) (p:=p) (by rw[a0r,← hpp];exact hp);rw[hxc,a0r]at hle;have HX:=hid hxc;have HLE:=hid hle;have HP:=hid hpp;have HLEN:=hid hlen;have HJw:=hid hJ;have HK:=hid hK;have HLay:=hid hLay;have HREL:=hid hrel;have HKK:=hid hkk;rw[hpp]at hp ⊢ HREL;have h0:(0:Int)≤(p:Int):=by omega
  have h1:(p:Int)≤(b.size:Int):=by omega
  clear hx hxc hle hpp hlen hJ hK hLay q1 q2 q3 hmin hrel hkk hp;obtain⟨d,v,u⟩:=x;simp only[w0I]at q4
  gi_wp2_with fail
  refine wpIn_wide.2 ?_;refine a0n [0,1,2,3] 7 (fun W'=>W'.cell? ⟨ba,0,none⟩=some (.string a)∧W'.cell? ⟨bb,0,none⟩=some (.string b)) (by kernel_rfl) (by kernel_rfl) (by kernel_rfl) (by kernel_rfl) ⟨c0,c1⟩ ?_
  iterate 4
   refine⟨_,rfl,?_⟩;apply Exists.intro
   refine⟨.inl ⟨by rfl,?_⟩,?_⟩
   ·(intro W' hW'
     obtain⟨q1,q2⟩:=hW'
     go_simp
     try (with_reducible rfl))
   (dsimp only[Act.put];try simp only[List.setIfInBounds_toArray,List.set_cons_zero,List.set_cons_succ])
  refine e0I (i:=4) (j:=8) (by kernel_rfl) (by rfl) (by rfl) (by rfl) (by rfl) ?_ ?_
  ·go_wp2_with fail;refine (q4 _ (HLay.out.call (Below.refl _ _).drew)).out.mono ?_;rintro e w1 ⟨rfl,hb1⟩;have y1:=hid (show Below wr.heap.size wr w1 from (Below.refl _ _).drew.trans hb1);have s0:=(y1.out.cell (a0k c0)).trans c0;have s1:=(y1.out.cell (a0k c1)).trans c1;clear hb1;go_wp2_with fail;refine⟨⟨s0,s1⟩,?_⟩;refine a0Z (is:=[5,6,7]) (g:=3) (by kernel_rfl) rfl ⟨s0,s1⟩ (by kernel_rfl) ?_
   iterate 3
    refine⟨_,rfl,?_⟩;apply Exists.intro
    refine⟨.inl ⟨by rfl,?_⟩,?_⟩
    ·(intro W' hW'
      clear hW'
      go_simp
      try (with_reducible rfl))
    (dsimp only[Act.put];try simp only[List.setIfInBounds_toArray,List.set_cons_zero,List.set_cons_succ])
   refine a0c (i:=8) (by kernel_rfl) (by rfl) (by rfl) ?_;go_wp2_with fail;have s2:=((Below.refl w1.heap.size w1).alloc (Nat.le_refl _) (.cells #[.bool false,.int .i64 0,.int .i64 0] 82));have s3:=(s2.cell (a0k s0)).trans s0;have s4:=(s2.cell (a0k s1)).trans s1;refine⟨⟨s3,s4⟩,?_⟩;refine a0c (i:=9) (by kernel_rfl) (by rfl) (by rfl) ?_;have bk:=Blk.new w1 #[.bool false,.int .i64 0,.int .i64 0] 82;have r0:(w1.alloc (.cells #[.bool false,.int .i64 0,.int .i64 0] 82)).cell? ⟨w1.heap.size,0,none⟩=some (.bool false):=bk.cell 0;have r1:(w1.alloc (.cells #[.bool false,.int .i64 0,.int .i64 0] 82)).cell? ⟨w1.heap.size,1,none⟩=some (.int .i64 0):=bk.cell 1;have r2:(w1.alloc (.cells #[.bool false,.int .i64 0,.int .i64 0] 82)).cell? ⟨w1.heap.size,2,none⟩=some (.int .i64 0):=bk.cell 2;have f0:=bk.free 0;have f1:=bk.free 1;have f2:=bk.free 2;obtain⟨dB,hdB⟩:∃ n,w1.heap.size=n:=⟨_,rfl⟩;have HDB:=hid hdB;have LT0:=hid (a0k s0);have LT1:=hid (a0k s1);obtain⟨w2,hw2⟩:∃ w2,w1.alloc (.cells #[.bool false,.int .i64 0,.int .i64 0] 82)=w2:=⟨_,rfl⟩;rw[hw2]at s3 s4 bk r0 r1 r2 f0 f1 f2 ⊢;rw[hw2]at s2;rw[hdB]at bk r0 r1 r2 f0 f1 f2 s2 LT0 LT1 ⊢;have BK:=hid bk;have y2:=hid (y1.out.trans (s2.mono (by have:=y1.out.size;omega)));clear s0 s1 s2 hdB hw2 bk;go_wp2_with fail;have bk3:Blk (((w2.setCell ⟨dB,0,none⟩ (.bool d)).setCell ⟨dB,1,none⟩ (.int .i64 (v:Nat))).setCell ⟨dB,2,none⟩ (.int .i64 (u:Nat))) dB #[.bool d,.int .i64 (v:Nat),.int .i64 (u:Nat)] 82:=by
    have:=((BK.out.set 0 (.bool d)).set 1 (.int .i64 (v:Nat))).set 2 (.int .i64 (u:Nat));simpa using this
   have y3:Below wr.heap.size wr (((w2.setCell ⟨dB,0,none⟩ (.bool d)).setCell ⟨dB,1,none⟩ (.int .i64 (v:Nat))).setCell ⟨dB,2,none⟩ (.int .i64 (u:Nat))):=
    have hge:wr.heap.size≤dB:=by rw[← HDB.out];exact y1.out.size
    ((y2.out.setCell hge _).setCell hge _).setCell hge _
   obtain⟨V,hV⟩:∃ V,((w2.setCell ⟨dB,0,none⟩ (.bool d)).setCell ⟨dB,1,none⟩ (.int .i64 (v:Nat))).setCell ⟨dB,2,none⟩ (.int .i64 (u:Nat))=V:=⟨_,rfl⟩;rw[hV]at bk3 y3 ⊢;have s5:=(y3.cell (a0k c0)).trans c0;have s6:=(y3.cell (a0k c1)).trans c1;have BV:=hid bk3;have YV:=hid y3;clear hV bk3 y3 r0 r1 r2 f0 f1 f2 s3 s4;refine⟨⟨s5,s6⟩,?_⟩;refine a0c (i:=10) (by kernel_rfl) (by rfl) (by rfl) ?_;go_wp2_with fail;refine⟨⟨s5,s6⟩,?_⟩;refine wpAnyH_done (by kernel_rfl) ?_ _;simp only[b0l];have e0:V.cell? ⟨dB,0,none⟩=some (.bool d):=BV.out.cell 0;have e1:V.cell? ⟨dB,1,none⟩=some (.int .i64 (v:Nat)):=BV.out.cell 1;have e2:V.cell? ⟨dB,2,none⟩=some (.int .i64 (u:Nat)):=BV.out.cell 2;have ew:IntKind.i64.wrap ((p:Int)+(u:Nat))=((p+u:Nat):Int):=by
    have h2:=HLE.out;have h3:=(b0Y HC.out 0).2.2;have h4:b.size≤256:=by
     have h5:=(b0Y HC.out 0).2.1;have h6:=a0r (b.extract 0 b.size);rw[h5,List.drop_zero,a0r]at h6;omega
    rw[IntWalk.i64_in _ ⟨by omega,by omega⟩];omega
   clear s5 s6;have hJV:J pre V:=HJ.out pre wr V none HJw.out ⟨YV.out.os,YV.out.tape,YV.out.output,YV.out.size,fun k hk _=>YV.out.block k hk⟩ (fun r e=>by cases e);have hKV:Kp W V:=HKt.out _ _ _ HK.out (HKb.out _ _ YV.out);have HJV:=hid hJV;have HKV:=hid hKV;clear hJV hKV;cases d
   ·gi_wp2_with fail
    refine⟨fun f hf=>(by cases hf),?_⟩
    gi_wp2_with fail
    refine bodyPost_ret (results_none rfl _ _ _) rfl ?_;exact⟨⟨_,rfl⟩,.inl ⟨pre,by rw[HP.out,HX.out],HJV.out⟩⟩
   ·obtain⟨fn,tmps,assign,body,hy,hR⟩:=HY.out pre (p+u,v) V ⟨by rw[HP.out,HX.out],by rw[HP.out,HX.out]⟩ HJV.out;dsimp only at hy;rw[Int.natCast_add]at hy;have HYR:=hid hR
    gi_wp2_with fail
    refine HYR.out.mono ?_;rintro e W3 (⟨rfl,hJ3,hk3⟩ | ⟨rfl,hJx3⟩)
    ·have hM3:=HM.out _ _ hJ3;rw[List.length_append,List.length_singleton]at hM3;have RN:=hid (show RR (k-1) (.int .i64 ((p:Int)+(u:Nat))) W3 from by
      rw[HRR.out];refine⟨pre ++ [(p+u,v)],by rw[b0a,Int.natCast_add],by rw[b0a];exact HLE.out,?_,hJ3,HKt.out _ _ _ HKV.out hk3⟩;rw[List.length_append,List.length_singleton];have:=HLEN.out;omega)
     have HK1:=hid (show 1≤k from by have:=HLEN.out;omega);clear hJ3 hk3 hM3 hy hR
     gi_wp2_with fail
     go_roundw
     case rel=>exact⟨_,RN.out⟩
     case measure=>
      have h1:=(leastOf_spec (p:=fun k=>RR k (.int .i64 ((p:Int)+(u:Nat))) W3) ⟨_,RN.out⟩).2 _ RN.out;have h2:=HKK.out;rw[HP.out]at h2;have h3:=HK1.out;show leastOf (fun k=>RR k (.int .i64 ((p:Int)+(u:Nat))) W3)<leastOf (fun k=>RR k (.int .i64 (p:Nat)) wr)
      rw[h2];omega
    ·clear hy hR
     gi_wp2_with fail
     refine bodyPost_ret (results_none rfl _ _ _) rfl ?_;exact⟨⟨_,rfl⟩,.inr ⟨_,trivial,hJx3⟩⟩
  ·go_wp2_with fail;have b0:Blk (wr.alloc (.cells #[.bool false,.int .i64 0,.int .i64 0] 82)).drew wr.heap.size #[.bool false,.int .i64 0,.int .i64 0] 82:=Blk.new wr #[.bool false,.int .i64 0,.int .i64 0] 82;have a0:Below wr.heap.size wr (wr.alloc (.cells #[.bool false,.int .i64 0,.int .i64 0] 82)).drew:=((Below.refl _ _).alloc (Nat.le_refl _) _).drew;obtain⟨dB,hdB⟩:∃ n,wr.heap.size=n:=⟨_,rfl⟩;have HDB:=hid hdB;obtain⟨w1,hw1⟩:∃ w1,(wr.alloc (.cells #[.bool false,.int .i64 0,.int .i64 0] 82)).drew=w1:=⟨_,rfl⟩;rw[hw1]at b0 a0 ⊢;rw[hdB]at b0 ⊢;have A0:=hid a0;have BB0:=hid b0;have s0:=(a0.cell (a0k c0)).trans c0;have s1:=(a0.cell (a0k c1)).trans c1;clear hw1 hdB a0 b0;refine⟨⟨s0,s1⟩,?_⟩;refine a0c (i:=4) (by kernel_rfl) (by rfl) (by rfl) ?_;go_wp2_with fail;refine (q4 _ (HLay.out.call A0.out)).out.mono ?_;rintro e w2 ⟨rfl,hb2⟩;have y2:=hid (A0.out.trans (hb2.mono A0.out.size));have BK:=hid (BB0.out.call hb2);have s3:=(y2.out.cell (a0k c0)).trans c0;have s4:=(y2.out.cell (a0k c1)).trans c1;clear hb2 s0 s1;go_wp2_with fail;refine⟨⟨s3,s4⟩,?_⟩;refine a0Z (is:=[5,6,7]) (g:=2) (by kernel_rfl) rfl ⟨s3,s4⟩ (by kernel_rfl) ?_
   iterate 3
    refine⟨_,rfl,?_⟩;apply Exists.intro
    refine⟨.inl ⟨by rfl,?_⟩,?_⟩
    ·(intro W' hW'
      clear hW'
      go_simp
      try (with_reducible rfl))
    (dsimp only[Act.put];try simp only[List.setIfInBounds_toArray,List.set_cons_zero,List.set_cons_succ])
   have r0:w2.cell? ⟨dB,0,none⟩=some (.bool false):=BK.out.cell 0;have r1:w2.cell? ⟨dB,1,none⟩=some (.int .i64 0):=BK.out.cell 1;have r2:w2.cell? ⟨dB,2,none⟩=some (.int .i64 0):=BK.out.cell 2;have f0:=BK.out.free 0;have f1:=BK.out.free 1;have f2:=BK.out.free 2;refine a0c (i:=9) (by kernel_rfl) (by rfl) (by rfl) ?_;go_wp2_with fail;have bk3:Blk (((w2.setCell ⟨dB,0,none⟩ (.bool d)).setCell ⟨dB,1,none⟩ (.int .i64 (v:Nat))).setCell ⟨dB,2,none⟩ (.int .i64 (u:Nat))) dB #[.bool d,.int .i64 (v:Nat),.int .i64 (u:Nat)] 82:=by
    have:=((BK.out.set 0 (.bool d)).set 1 (.int .i64 (v:Nat))).set 2 (.int .i64 (u:Nat));simpa using this
   have y3:Below wr.heap.size wr (((w2.setCell ⟨dB,0,none⟩ (.bool d)).setCell ⟨dB,1,none⟩ (.int .i64 (v:Nat))).setCell ⟨dB,2,none⟩ (.int .i64 (u:Nat))):=
    have hge:wr.heap.size≤dB:=by rw[← HDB.out];exact Nat.le_refl _
    ((y2.out.setCell hge _).setCell hge _).setCell hge _
   obtain⟨V,hV⟩:∃ V,((w2.setCell ⟨dB,0,none⟩ (.bool d)).setCell ⟨dB,1,none⟩ (.int .i64 (v:Nat))).setCell ⟨dB,2,none⟩ (.int .i64 (u:Nat))=V:=⟨_,rfl⟩;rw[hV]at bk3 y3 ⊢;have s5:=(y3.cell (a0k c0)).trans c0;have s6:=(y3.cell (a0k c1)).trans c1;have BV:=hid bk3;have YV:=hid y3;clear hV bk3 y3 r0 r1 r2 f0 f1 f2 s3 s4;refine⟨⟨s5,s6⟩,?_⟩;refine a0c (i:=10) (by kernel_rfl) (by rfl) (by rfl) ?_;go_wp2_with fail;refine⟨⟨s5,s6⟩,?_⟩;refine wpAnyH_done (by kernel_rfl) ?_ _;simp only[b0l];have e0:V.cell? ⟨dB,0,none⟩=some (.bool d):=BV.out.cell 0;have e1:V.cell? ⟨dB,1,none⟩=some (.int .i64 (v:Nat)):=BV.out.cell 1;have e2:V.cell? ⟨dB,2,none⟩=some (.int .i64 (u:Nat)):=BV.out.cell 2;have ew:IntKind.i64.wrap ((p:Int)+(u:Nat))=((p+u:Nat):Int):=by
    have h2:=HLE.out;have h3:=(b0Y HC.out 0).2.2;have h4:b.size≤256:=by
     have h5:=(b0Y HC.out 0).2.1;have h6:=a0r (b.extract 0 b.size);rw[h5,List.drop_zero,a0r]at h6;omega
    rw[IntWalk.i64_in _ ⟨by omega,by omega⟩];omega
   clear s5 s6;have hJV:J pre V:=HJ.out pre wr V none HJw.out ⟨YV.out.os,YV.out.tape,YV.out.output,YV.out.size,fun k hk _=>YV.out.block k hk⟩ (fun r e=>by cases e);have hKV:Kp W V:=HKt.out _ _ _ HK.out (HKb.out _ _ YV.out);have HJV:=hid hJV;have HKV:=hid hKV;clear hJV hKV;cases d
   ·gi_wp2_with fail
    refine⟨fun f hf=>(by cases hf),?_⟩
    gi_wp2_with fail
    refine bodyPost_ret (results_none rfl _ _ _) rfl ?_;exact⟨⟨_,rfl⟩,.inl ⟨pre,by rw[HP.out,HX.out],HJV.out⟩⟩
   ·obtain⟨fn,tmps,assign,body,hy,hR⟩:=HY.out pre (p+u,v) V ⟨by rw[HP.out,HX.out],by rw[HP.out,HX.out]⟩ HJV.out;dsimp only at hy;rw[Int.natCast_add]at hy;have HYR:=hid hR
    gi_wp2_with fail
    refine HYR.out.mono ?_;rintro e W3 (⟨rfl,hJ3,hk3⟩ | ⟨rfl,hJx3⟩)
    ·have hM3:=HM.out _ _ hJ3;rw[List.length_append,List.length_singleton]at hM3;have RN:=hid (show RR (k-1) (.int .i64 ((p:Int)+(u:Nat))) W3 from by
      rw[HRR.out];refine⟨pre ++ [(p+u,v)],by rw[b0a,Int.natCast_add],by rw[b0a];exact HLE.out,?_,hJ3,HKt.out _ _ _ HKV.out hk3⟩;rw[List.length_append,List.length_singleton];have:=HLEN.out;omega)
     have HK1:=hid (show 1≤k from by have:=HLEN.out;omega);clear hJ3 hk3 hM3 hy hR
     gi_wp2_with fail
     go_roundw
     case rel=>exact⟨_,RN.out⟩
     case measure=>
      have h1:=(leastOf_spec (p:=fun k=>RR k (.int .i64 ((p:Int)+(u:Nat))) W3) ⟨_,RN.out⟩).2 _ RN.out;have h2:=HKK.out;rw[HP.out]at h2;have h3:=HK1.out;show leastOf (fun k=>RR k (.int .i64 ((p:Int)+(u:Nat))) W3)<leastOf (fun k=>RR k (.int .i64 (p:Nat)) wr)
      rw[h2];omega
    ·clear hy hR
     gi_wp2_with fail
     refine bodyPost_ret (results_none rfl _ _ _) rfl ?_;exact⟨⟨_,rfl⟩,.inr ⟨_,trivial,hJx3⟩⟩
end Go.Proofs.YtlmnpocifldpmaaGreatDoor
