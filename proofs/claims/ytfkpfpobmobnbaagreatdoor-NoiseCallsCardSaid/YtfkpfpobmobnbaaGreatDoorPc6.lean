/- Texts that the proof rests on, merged: R2h, R1q, R1f, R1g, R1h, R1i, R1j, R2a, R2m, Rp3, R1e, Nt, Rp10, Pc2, Rp11, Rp12, Pn6, Rp13, Fd4, Sq3, Fn0, Rq0, Sh6. -/
import Derived.Test.YtfkpfpobmobnbaaGreatDoorPc5
import Derived.Deep.RegionHeld3
import Derived.IntWalk
import Derived.Deep.DeepCutAuto
import Derived.Deep.CutBlock
import Derived.Deep.AppendLies
import Derived.WalkLawsBesides
import Derived.Sort.Walk0
import Derived.Shelf.SlSortCmp.WholeK
import Derived.Shelf.SlGeneric
import Derived.Shelf.Small.Bits
import Derived.Ground.SlsfProg
import Derived.Ground.NamesProg
import Derived.Test.YtfkpfpobmobnbaaGreatDoorProg
set_option linter.defProp false
set_option linter.unusedVariables false
set_option linter.unusedSimpArgs false
set_option linter.unusedSectionVars false
set_option maxRecDepth 100000
set_option maxHeartbeats 8000000
namespace Go.Proofs.YtfkpfpobmobnbaaGreatDoor
section
open Go.RowKit
open Go.Lib (decDigits nDigits)
def y0T (m:Bool)(B1 B2 T:ByteArray)(x:Int):Prop:=
 (4000<B1.size/\T=⟨#[]⟩/\x=5)\/(B1.size<=4000/\4000<B2.size/\T=⟨#[]⟩/\x=5) \/
 (B1.size<=4000/\B2.size<=4000/\x=0/\((m=false/\B2=⟨#[49]⟩/\T=B1)\/(m=true/\B2=⟨#[49]⟩/\T=⟨#[45]⟩++B1)\/(m=false/\¬ B2=⟨#[49]⟩/\T=B1++⟨#[47]⟩++B2)\/(m=true/\¬ B2=⟨#[49]⟩/\T=⟨#[45]⟩++B1++⟨#[47]⟩++B2)))
def Nd:=@Go.Proofs.Tryz.ntmps73
def i0F (w:World)(m:Bool)(N D:Value)(n d:Nat)(B1 B2 T:ByteArray)(x:Int)(hn:IsN .i64 w N n)(hd:IsN .i64 w D d)(hln:(limbs n).length<=1000000)(hld:(limbs d).length<=1000000)
 (e1:a0g n=B1) (e2:a0g d=B2) (key:y0T m B1 B2 T x):
 Calls Tryz.prog 73 #[.agg #[.bool m,N,D]] w fun e w'=>e=.returned (.tuple #[.string T,.int .i64 x])/\Below w.heap.size w w':=by
 obtain⟨HN,HD,LN,LD,E1,E2⟩:=kx hn hd hln hld e1 e2;obtain⟨a1,c1,rfl,_⟩:=hn.openI;obtain⟨a2,c2,rfl,_⟩:=hd.openI;obtain⟨k1,hk1⟩:=gn ((limbs n).length);obtain⟨k2,hk2⟩:=gn ((limbs d).length);rw[hk1]at HN |-;rw[hk2]at HD |-;clear hn hd hln hld e1 e2 hk1 hk2;unfold y0T at key;rcases key with ⟨h1,rfl,rfl⟩ | ⟨h1,h2,rfl,rfl⟩ | ⟨h1,h2,rfl,⟨rfl,rfl,rfl⟩ | ⟨rfl,rfl,rfl⟩ | ⟨rfl,h3,rfl⟩ | ⟨rfl,h3,rfl⟩⟩
 .have q0:decide ((4000:Int)<(B1.size:Int))=true:=by simp;omega
  clear h1;go_enter Tryz.func73,Nd;go_wp2_with fail;obtain⟨W,hW⟩:=gn (w.alloc (.cells #[.bool m,.slice a1 k1 c1,.slice a2 k2 c2] 81));rw[hW];have X0:Below w.heap.size w W:=by rw[<- hW];exact br0.alloc nr _
  have Y0:Blk W w.heap.size #[.bool m,.slice a1 k1 c1,.slice a2 k2 c2] 81:=by rw[<- hW];exact Blk.new w _ _
  have K:Hid (∀ w',Below W.heap.size W w'->w'.cell? ⟨w.heap.size,0,none⟩=some (.bool m)/\w'.cell? ⟨w.heap.size,1,none⟩=some (.slice a1 k1 c1)/\w'.cell? ⟨w.heap.size,2,none⟩=some (.slice a2 k2 c2)):=
   fun w' hb=>⟨(Y0.call hb).cell 0,(Y0.call hb).cell 1,(Y0.call hb).cell 2⟩
  have HX0:=hid X0;obtain⟨k0,k1',k2'⟩:=K W br0;obtain⟨XN,XD⟩:=zg (HN.out.call HX0.out) (HD.out.call HX0.out);clear Y0 X0 hW
  go_region_held3 (fun w'=>w'.cell? ⟨w.heap.size,0,none⟩=some (.bool m)/\w'.cell? ⟨w.heap.size,1,none⟩=some (.slice a1 k1 c1)/\w'.cell? ⟨w.heap.size,2,none⟩=some (.slice a2 k2 c2))
   (first
    | exact K.out _ br0.drew
    | exact K.out _ bb2.out
    | exact K.out _ bb1.out)
   (first
    | (go_at_call_of 154 (Value.slice a1 k1 c1);refine (a0P _ _ n (XN.out.call (by first | exact bb2.out | exact br0.drew)) LN.out).mono ?_;rintro e w1 ⟨rfl,hb1⟩;rw[b0o,E1.out];have bb1:=hid (a0a (by first | exact bb2.out | exact br0.drew) hb1))
    | (go_at_call_of 154 (Value.slice a2 k2 c2);refine (a0P _ _ d (XD.out.call (by first | exact bb1.out | exact br0.drew)) LD.out).mono ?_;rintro e w2 ⟨rfl,hb2⟩;rw[b0o,E2.out];have bb2:=hid (a0a (by first | exact bb1.out | exact br0.drew) hb2)))
  go_wp2_with fail;go_ret2
  exact⟨rfl,a0a HX0.out bb2.out⟩
 .have q0:decide ((4000:Int)<(B1.size:Int))=false:=by simp;omega
  have q1:decide ((4000:Int)<(B2.size:Int))=true:=by simp;omega
  clear h1 h2;go_enter Tryz.func73,Nd;go_wp2_with fail;obtain⟨W,hW⟩:=gn (w.alloc (.cells #[.bool m,.slice a1 k1 c1,.slice a2 k2 c2] 81));rw[hW];have X0:Below w.heap.size w W:=by rw[<- hW];exact br0.alloc nr _
  have Y0:Blk W w.heap.size #[.bool m,.slice a1 k1 c1,.slice a2 k2 c2] 81:=by rw[<- hW];exact Blk.new w _ _
  have K:Hid (∀ w',Below W.heap.size W w'->w'.cell? ⟨w.heap.size,0,none⟩=some (.bool m)/\w'.cell? ⟨w.heap.size,1,none⟩=some (.slice a1 k1 c1)/\w'.cell? ⟨w.heap.size,2,none⟩=some (.slice a2 k2 c2)):=
   fun w' hb=>⟨(Y0.call hb).cell 0,(Y0.call hb).cell 1,(Y0.call hb).cell 2⟩
  have HX0:=hid X0;obtain⟨k0,k1',k2'⟩:=K W br0;obtain⟨XN,XD⟩:=zg (HN.out.call HX0.out) (HD.out.call HX0.out);clear Y0 X0 hW
  go_region_held3 (fun w'=>w'.cell? ⟨w.heap.size,0,none⟩=some (.bool m)/\w'.cell? ⟨w.heap.size,1,none⟩=some (.slice a1 k1 c1)/\w'.cell? ⟨w.heap.size,2,none⟩=some (.slice a2 k2 c2))
   (first
    | exact K.out _ br0.drew
    | exact K.out _ bb2.out
    | exact K.out _ bb1.out)
   (first
    | (go_at_call_of 154 (Value.slice a1 k1 c1);refine (a0P _ _ n (XN.out.call (by first | exact bb2.out | exact br0.drew)) LN.out).mono ?_;rintro e w1 ⟨rfl,hb1⟩;rw[b0o,E1.out];have bb1:=hid (a0a (by first | exact bb2.out | exact br0.drew) hb1))
    | (go_at_call_of 154 (Value.slice a2 k2 c2);refine (a0P _ _ d (XD.out.call (by first | exact bb1.out | exact br0.drew)) LD.out).mono ?_;rintro e w2 ⟨rfl,hb2⟩;rw[b0o,E2.out];have bb2:=hid (a0a (by first | exact bb1.out | exact br0.drew) hb2)))
  go_wp2_with fail;go_ret2
  exact⟨rfl,a0a HX0.out bb2.out⟩
 focus
  have q0:decide ((4000:Int)<(T.size:Int))=false:=by simp;omega
  clear h2
 rotate_left
 .have q0:decide ((4000:Int)<(B1.size:Int))=false:=by simp;omega
  clear h2;go_enter Tryz.func73,Nd;go_wp2_with fail;obtain⟨W,hW⟩:=gn (w.alloc (.cells #[.bool true,.slice a1 k1 c1,.slice a2 k2 c2] 81));rw[hW];have X0:Below w.heap.size w W:=by rw[<- hW];exact br0.alloc nr _
  have Y0:Blk W w.heap.size #[.bool true,.slice a1 k1 c1,.slice a2 k2 c2] 81:=by rw[<- hW];exact Blk.new w _ _
  have K:Hid (∀ w',Below W.heap.size W w'->w'.cell? ⟨w.heap.size,0,none⟩=some (.bool true)/\w'.cell? ⟨w.heap.size,1,none⟩=some (.slice a1 k1 c1)/\w'.cell? ⟨w.heap.size,2,none⟩=some (.slice a2 k2 c2)):=
   fun w' hb=>⟨(Y0.call hb).cell 0,(Y0.call hb).cell 1,(Y0.call hb).cell 2⟩
  have HX0:=hid X0;obtain⟨k0,k1',k2'⟩:=K W br0;obtain⟨XN,XD⟩:=zg (HN.out.call HX0.out) (HD.out.call HX0.out);clear Y0 X0 hW
  go_region_held3 (fun w'=>w'.cell? ⟨w.heap.size,0,none⟩=some (.bool true)/\w'.cell? ⟨w.heap.size,1,none⟩=some (.slice a1 k1 c1)/\w'.cell? ⟨w.heap.size,2,none⟩=some (.slice a2 k2 c2))
   (first
    | exact K.out _ br0.drew
    | exact K.out _ bb2.out
    | exact K.out _ bb1.out)
   (first
    | (go_at_call_of 154 (Value.slice a1 k1 c1);refine (a0P _ _ n (XN.out.call (by first | exact bb2.out | exact br0.drew)) LN.out).mono ?_;rintro e w1 ⟨rfl,hb1⟩;rw[b0o,E1.out];have bb1:=hid (a0a (by first | exact bb2.out | exact br0.drew) hb1))
    | (go_at_call_of 154 (Value.slice a2 k2 c2);refine (a0P _ _ d (XD.out.call (by first | exact bb1.out | exact br0.drew)) LD.out).mono ?_;rintro e w2 ⟨rfl,hb2⟩;rw[b0o,E2.out];have bb2:=hid (a0a (by first | exact bb1.out | exact br0.drew) hb2)))
  go_wp2_with fail;go_ret2
  exact⟨rfl,a0a HX0.out bb2.out⟩
 focus
  have q0:decide ((4000:Int)<(B1.size:Int))=false:=by simp;omega
  have q1:decide ((4000:Int)<(B2.size:Int))=false:=by simp;omega
  have i3:=a0I (l:=[49]) h3
 rotate_left
 .have q0:decide ((4000:Int)<(B1.size:Int))=false:=by simp;omega
  have q1:decide ((4000:Int)<(B2.size:Int))=false:=by simp;omega
  have i3:=a0I (l:=[49]) h3;go_enter Tryz.func73,Nd;go_wp2_with fail;obtain⟨W,hW⟩:=gn (w.alloc (.cells #[.bool true,.slice a1 k1 c1,.slice a2 k2 c2] 81));rw[hW];have X0:Below w.heap.size w W:=by rw[<- hW];exact br0.alloc nr _
  have Y0:Blk W w.heap.size #[.bool true,.slice a1 k1 c1,.slice a2 k2 c2] 81:=by rw[<- hW];exact Blk.new w _ _
  have K:Hid (∀ w',Below W.heap.size W w'->w'.cell? ⟨w.heap.size,0,none⟩=some (.bool true)/\w'.cell? ⟨w.heap.size,1,none⟩=some (.slice a1 k1 c1)/\w'.cell? ⟨w.heap.size,2,none⟩=some (.slice a2 k2 c2)):=
   fun w' hb=>⟨(Y0.call hb).cell 0,(Y0.call hb).cell 1,(Y0.call hb).cell 2⟩
  have HX0:=hid X0;obtain⟨k0,k1',k2'⟩:=K W br0;obtain⟨XN,XD⟩:=zg (HN.out.call HX0.out) (HD.out.call HX0.out);clear Y0 X0 hW
  go_region_held3 (fun w'=>w'.cell? ⟨w.heap.size,0,none⟩=some (.bool true)/\w'.cell? ⟨w.heap.size,1,none⟩=some (.slice a1 k1 c1)/\w'.cell? ⟨w.heap.size,2,none⟩=some (.slice a2 k2 c2))
   (first
    | exact K.out _ br0.drew
    | exact K.out _ bb2.out
    | exact K.out _ bb1.out)
   (first
    | (go_at_call_of 154 (Value.slice a1 k1 c1);refine (a0P _ _ n (XN.out.call (by first | exact bb2.out | exact br0.drew)) LN.out).mono ?_;rintro e w1 ⟨rfl,hb1⟩;rw[b0o,E1.out];have bb1:=hid (a0a (by first | exact bb2.out | exact br0.drew) hb1))
    | (go_at_call_of 154 (Value.slice a2 k2 c2);refine (a0P _ _ d (XD.out.call (by first | exact bb1.out | exact br0.drew)) LD.out).mono ?_;rintro e w2 ⟨rfl,hb2⟩;rw[b0o,E2.out];have bb2:=hid (a0a (by first | exact bb1.out | exact br0.drew) hb2)))
  go_wp2_with fail;go_ret2
  exact⟨rfl,a0a HX0.out bb2.out⟩
 all_goals
  go_enter Tryz.func73,Nd;go_wp2_with fail;obtain⟨W,hW⟩:=gn (w.alloc (.cells #[.bool false,.slice a1 k1 c1,.slice a2 k2 c2] 81));rw[hW];have X0:Below w.heap.size w W:=by rw[<- hW];exact br0.alloc nr _
  have Y0:Blk W w.heap.size #[.bool false,.slice a1 k1 c1,.slice a2 k2 c2] 81:=by rw[<- hW];exact Blk.new w _ _
  have K:Hid (∀ w',Below W.heap.size W w'->w'.cell? ⟨w.heap.size,0,none⟩=some (.bool false)/\w'.cell? ⟨w.heap.size,1,none⟩=some (.slice a1 k1 c1)/\w'.cell? ⟨w.heap.size,2,none⟩=some (.slice a2 k2 c2)):=
   fun w' hb=>⟨(Y0.call hb).cell 0,(Y0.call hb).cell 1,(Y0.call hb).cell 2⟩
  have HX0:=hid X0;obtain⟨k0,k1',k2'⟩:=K W br0;obtain⟨XN,XD⟩:=zg (HN.out.call HX0.out) (HD.out.call HX0.out);clear Y0 X0 hW
  go_region_held3 (fun w'=>w'.cell? ⟨w.heap.size,0,none⟩=some (.bool false)/\w'.cell? ⟨w.heap.size,1,none⟩=some (.slice a1 k1 c1)/\w'.cell? ⟨w.heap.size,2,none⟩=some (.slice a2 k2 c2))
   (first
    | exact K.out _ br0.drew
    | exact K.out _ bb2.out
    | exact K.out _ bb1.out)
   (first
    | (go_at_call_of 154 (Value.slice a1 k1 c1);refine (a0P _ _ n (XN.out.call (by first | exact bb2.out | exact br0.drew)) LN.out).mono ?_;rintro e w1 ⟨rfl,hb1⟩;rw[b0o,E1.out];have bb1:=hid (a0a (by first | exact bb2.out | exact br0.drew) hb1))
    | (go_at_call_of 154 (Value.slice a2 k2 c2);refine (a0P _ _ d (XD.out.call (by first | exact bb1.out | exact br0.drew)) LD.out).mono ?_;rintro e w2 ⟨rfl,hb2⟩;rw[b0o,E2.out];have bb2:=hid (a0a (by first | exact bb1.out | exact br0.drew) hb2)))
  go_wp2_with fail;go_ret2
  exact⟨rfl,a0a HX0.out bb2.out⟩
def t0T {d:Nat}:a0g d=⟨#[49]⟩↔d=1:=by
 constructor
 .intro h;rw[<- c0a]at h;rcases Nat.decEq d 1 with h1 | h1
  .exact absurd h (b0M h1)
  .exact h1
 .rintro rfl;exact c0a
def d0F (w:World)(v:Value)(q:Rat)(h:IsQ .i64 w v q)(h1:(limbs q.num.natAbs).length<=1000000)(h2:(limbs q.den).length<=1000000):
 Calls Tryz.prog 73 #[v] w fun e w'=>e=.returned (.tuple #[.string (c0u q),.int .i64 (c0J q)])/\Below w.heap.size w w':=by
 obtain⟨N,D,rfl,hn,hd⟩:=h.ex;refine i0F w _ N D q.num.natAbs q.den (a0g q.num.natAbs) (a0g q.den) (c0u q) (c0J q) hn hd h1 h2 rfl rfl ?_;unfold y0T c0u c0J;rw[a0t,a0t];by_cases o1:4000<nDigits q.num.natAbs
 .have ho:ovQ q:=.inl o1;rw[U0 ho,U0 ho];exact .inl ⟨o1,rfl,rfl⟩
 .by_cases o2:4000<nDigits q.den
  .have ho:ovQ q:=.inr o2;rw[U0 ho,U0 ho];exact .inr (.inl ⟨by omega,o2,rfl,rfl⟩)
  .have ho:¬ ovQ q:=fun h=>h.elim o1 o2
   rw[Q0 ho,Q0 ho];refine .inr (.inr ⟨by omega,by omega,rfl,?_⟩);unfold txQ;rw[t0T];generalize decide (q.num<0)=m
   by_cases hd1:q.den=1
   .rw[hd1];cases m
    .exact .inl ⟨rfl,rfl,a0M (by simp[txB,a0g])⟩
    .exact .inr (.inl ⟨rfl,rfl,a0M (by simp[txB,a0g])⟩)
   .cases m
    .exact .inr (.inr (.inl ⟨rfl,hd1,a0M (by simp[txB,a0g,hd1])⟩))
    .exact .inr (.inr (.inr ⟨rfl,hd1,a0M (by simp[txB,a0g,hd1])⟩))
def n0K (n:Nat)(e:Ending)(w':World):Prop:=
 (nDigits n<=4000/\∃ v,e=.returned (.tuple #[v,.bool true])/\IsN .i64 w' v n)\/(4000<nDigits n/\e=.returned (.tuple #[.slice none 0 0,.bool false]))
def j0f (w:World):IsN .i64 (w.alloc (.cells #[.int .i64 1] 3)) (.slice (some ⟨w.heap.size,0,none⟩) 1 1) 1:=by
 unfold IsN;rw[c0R];exact Row.of_blk (b:=w.heap.size) (n:=1) (c:=1) (cs:=#[.int .i64 1]) (Blk.new w _ _) rfl (by unfold maxLen;omega) (fun i x hx=>by simpa[b0q]using hx) nr (by unfold maxLen;omega)
def k0Q (m:Nat)(h:m<9223372036854775808):bits .and .i64 (m:Int) 1=((m%2:Nat):Int):=by
 show IntKind.i64.wrap ((BitVec.ofInt 64 (m:Int) &&& BitVec.ofInt 64 1).toNat:Int)=_
 have h1:(BitVec.ofInt 64 (m:Int)).toNat=m:=by rw[BitVec.ofInt_natCast,BitVec.toNat_ofNat];exact Bl (by omega)
 rw[BitVec.toNat_and,h1,show (BitVec.ofInt 64 1).toNat=1 by rfl,Nat.and_one_is_mod,IntKind.wrap_i64];omega
def u0X (n k:Nat)(h:n<=9223372036854775807):(bits .and .i64 ((n:Int) / 2 ^ k) 1==1)=decide (n / 2 ^ k%2=1):=by
 have h1:((n:Int) / 2 ^ k)=((n / 2 ^ k:Nat):Int):=by rw[In,Int.natCast_pow];rfl
 have h2:n / 2 ^ k<=n:=Dx _ _;rw[h1,k0Q _ (by omega),Bc,Ei,S5];omega
def n0f (a n k:Nat):a ^ (n / 2 ^ k)=a ^ (n / 2 ^ (k+1))*a ^ (n / 2 ^ (k+1))*(if n / 2 ^ k%2=1 then a else 1):=by
 have h:n / 2 ^ (k+1)=n / 2 ^ k / 2:=by rw[M7,Nat.div_div_eq_div_mul]
 rw[h];generalize n / 2 ^ k=m
 have hm:m=m / 2+m / 2+m%2:=by omega
 conv=>lhs;rw[hm]
 rw[Dd,Dd];rcases (show m%2=0\/m%2=1 by omega) with e | e
 .rw[e,Q0 (by omega),Db]
 .rw[e,U0 rfl,Nat.pow_one]
def i0I (w:World)(v:Value)(a:Nat)(ha:IsN .i64 w v a):Calls Tryz.prog 161 #[v,.int .i64 0] w fun e w'=>n0K (a ^ 0) e w'/\Below w.heap.size w w':=by
 have H1:=hid (j0f w);go_enter Tryz.func161,Tryz.ntmps161;go_wp2_with fail;go_ret2
 exact⟨.inl ⟨by rw[Db,b0p];omega,_,rfl,by rw[Db];exact H1.out⟩,br0.alloc nr _⟩
def h0x (w:World)(v:Value)(a n:Nat)(ha:IsN .i64 w v a)(hs:a<=1)(hn:0<n)(hn2:n<=9223372036854775807):Calls Tryz.prog 161 #[v,.int .i64 n] w fun e w'=>n0K (a ^ n) e w'/\Below w.heap.size w w':=by
 obtain⟨H1,HA,hord⟩:=zc (j0f w) ha (show b0e a 1<=0 from by unfold b0e;split;omega;split<;>omega)
 have hpow:=hid (show a ^ n=a/\nDigits a<=4000 from by
  rcases (show a=0\/a=1 by omega) with rfl | rfl
  .exact⟨Nat.zero_pow hn,by rw[c0D];omega⟩
  .exact⟨Nat.one_pow n,by rw[b0p];omega⟩)
 obtain⟨a1,c1,rfl,_⟩:=ha.openI;have q0:((n:Int)==0)=false:=by simp;omega
 have hb0:Below w.heap.size w (w.alloc (.cells #[.int .i64 1] 3)):=br0.alloc nr _;have HB0:=hid hb0;clear ha hs hb0;go_enter Tryz.func161,Tryz.ntmps161;go_wp2_with fail;refine (b0j _ _ _ a 1 (HA.out.call HB0.out) H1.out).mono ?_;rintro e w1 ⟨rfl,hb1⟩;have B1:=hid (a0a HB0.out hb1);clear hb1;obtain⟨t,ht⟩:=gn (b0e a 1);rw[ht]at hord |-;have q1:decide (t<=0)=true:=by have:=hord.out;simp;omega
 clear ht;go_wp2_with fail;go_ret2
 exact⟨.inl ⟨by rw[hpow.out.1];exact hpow.out.2,_,rfl,by rw[hpow.out.1];exact HA.out.call B1.out⟩,B1.out⟩
def k0m (w:World)(v:Value)(a n:Nat)(ha:IsN .i64 w v a)(hs:1<a)(hd:nDigits a<=4000)(hn:0<n)(hn2:n<=9223372036854775807):Calls Tryz.prog 161 #[v,.int .i64 n] w fun e w'=>n0K (a ^ n) e w'/\Below w.heap.size w w':=by
 obtain⟨H1,HA,hord⟩:=zc (j0f w) ha (c0j hs);obtain⟨a1,c1,rfl,_⟩:=ha.openI;have q0:((n:Int)==0)=false:=by simp;omega
 have hb0:Below w.heap.size w (w.alloc (.cells #[.int .i64 1] 3)):=br0.alloc nr _;obtain⟨HB0,HS,HD⟩:=zc hb0 hs hd;clear ha hs hb0 hd;go_enter Tryz.func161,Tryz.ntmps161;go_wp2_with fail;refine (b0j _ _ _ a 1 (HA.out.call HB0.out) H1.out).mono ?_;rintro e w1 ⟨rfl,hb1⟩;obtain⟨B1,O1⟩:=zg (a0a HB0.out hb1) (H1.out.call hb1);clear hb1;rw[hord.out];go_wp2_with fail
 go_loopw [7,8] (fun oo kk wr=>∃ (j:Nat) (t:Int),kk=.int .i64 t/\t=(j:Int)-1/\j<=63/\Hid (IsN .i64 wr oo (a ^ (n / 2 ^ j)))/\Hid (nDigits (a ^ (n / 2 ^ j))<=4000)/\Hid (Below w.heap.size w wr)) (fun _ kk _=>(intOf kk+1).toNat)
 case atStart=>exact⟨63,_,rfl,by omega,by omega,by rw[Do (by omega),Db];exact O1,by rw[Do (by omega),Db,b0p,Hid];omega,B1⟩
 case round=>
  obtain⟨j,t,rfl,ht,hj,hO,hD,hB⟩:=hrel;obtain⟨a2,c2,rfl,_⟩:=hO.out.openI;cases j with
  | zero=>
   obtain rfl:t = -1:=by omega
   clear ht;go_wp2_with fail;go_ret2
   have h2:=hD.out;rw[Db,Nq]at h2;exact⟨.inl ⟨h2,_,rfl,hO.out.cast (by rw[Db,Nq])⟩,hB.out⟩
  | succ k=>
   obtain rfl:t=(k:Int):=by omega
   clear ht;obtain⟨hl,hla⟩:=zg (a0l hD.out) (a0l HD.out);have hbt:=u0X n k hn2;by_cases hbit:n / 2 ^ k%2=1
   focus
    rw[I8 hbit]at hbt;obtain⟨HM,HLM⟩:=zg (show a ^ (n / 2 ^ k)=a ^ (n / 2 ^ (k+1))*a ^ (n / 2 ^ (k+1))*a from by rw[n0f,U0 hbit]) (show (limbs (a ^ (n / 2 ^ (k+1))*a ^ (n / 2 ^ (k+1))*a)).length<=1000000 from by have:=a0G (a0G hl.out hl.out) hla.out;omega);clear hbit;go_wp2_with fail;refine (b0n _ _ _ _ _ hO.out hO.out (by have:=hl.out;omega) (by have:=hl.out;omega)).mono ?_;rintro e w2 ⟨⟨v2,rfl,hv2⟩,hb2⟩;obtain⟨V2,B2⟩:=zg hv2 (a0a hB.out hb2);clear hv2 hb2;go_wp2_with fail;refine (b0n _ v2 _ _ a V2.out (HA.out.call B2.out) (by have:=a0G hl.out hl.out;omega) (by have:=hla.out;omega)).mono ?_;rintro e w3 ⟨⟨v3,rfl,hv3⟩,hb3⟩;obtain⟨V3,B3⟩:=zg hv3 (a0a B2.out hb3);clear hv3 hb3;obtain⟨Bs,hBs⟩:=gn (a0g (a ^ (n / 2 ^ (k+1))*a ^ (n / 2 ^ (k+1))*a));obtain⟨HBS,hBz⟩:=zg hBs (show Bs.size=nDigits (a ^ (n / 2 ^ (k+1))*a ^ (n / 2 ^ (k+1))*a) from by rw[<- hBs];exact a0t _);clear hBs;by_cases hlong:4000<nDigits (a ^ (n / 2 ^ (k+1))*a ^ (n / 2 ^ (k+1))*a)
    .have q3:decide ((4000:Int)<(Bs.size:Int))=true:=by rw[hBz.out];simp;omega
     have HLO:=hid (show 4000<nDigits (a ^ n) from H6 hlong (by rw[<- HM.out];exact a0r (Z4 (by have:=HS.out;omega) (Dx _ _))));clear hlong;go_wp2_with fail;refine (a0P _ v3 (a ^ (n / 2 ^ (k+1))*a ^ (n / 2 ^ (k+1))*a) V3.out HLM.out).mono ?_;rintro e w9 ⟨rfl,hb9⟩;have B9:=hid (a0a B3.out hb9);clear hb9;rw[b0o,HBS.out];go_wp2_with fail;go_ret2
     exact⟨.inr ⟨HLO.out,rfl⟩,B9.out⟩
    focus
     have q3:decide ((4000:Int)<(Bs.size:Int))=false:=by rw[hBz.out];simp;omega
     have HLO:=hid (show nDigits (a ^ (n / 2 ^ k))<=4000 from by rw[HM.out];omega);clear hlong;go_wp2_with fail;refine (a0P _ v3 (a ^ (n / 2 ^ (k+1))*a ^ (n / 2 ^ (k+1))*a) V3.out HLM.out).mono ?_;rintro e w9 ⟨rfl,hb9⟩;obtain⟨B9,V9⟩:=zg (a0a B3.out hb9) (V3.out.call hb9)
   rotate_left
   focus
    rw[I7 hbit]at hbt;obtain⟨HM,HLM⟩:=zg (show a ^ (n / 2 ^ k)=a ^ (n / 2 ^ (k+1))*a ^ (n / 2 ^ (k+1)) from by rw[n0f,Q0 hbit,Fq]) (show (limbs (a ^ (n / 2 ^ (k+1))*a ^ (n / 2 ^ (k+1)))).length<=1000000 from by have:=a0G hl.out hl.out;omega);clear hbit;go_wp2_with fail;refine (b0n _ _ _ _ _ hO.out hO.out (by have:=hl.out;omega) (by have:=hl.out;omega)).mono ?_;rintro e w2 ⟨⟨v2,rfl,hv2⟩,hb2⟩;obtain⟨V2,B2⟩:=zg hv2 (a0a hB.out hb2);clear hv2 hb2;obtain⟨Bs,hBs⟩:=gn (a0g (a ^ (n / 2 ^ (k+1))*a ^ (n / 2 ^ (k+1))));obtain⟨HBS,hBz⟩:=zg hBs (show Bs.size=nDigits (a ^ (n / 2 ^ (k+1))*a ^ (n / 2 ^ (k+1))) from by rw[<- hBs];exact a0t _);clear hBs;by_cases hlong:4000<nDigits (a ^ (n / 2 ^ (k+1))*a ^ (n / 2 ^ (k+1)))
    .have q3:decide ((4000:Int)<(Bs.size:Int))=true:=by rw[hBz.out];simp;omega
     have HLO:=hid (show 4000<nDigits (a ^ n) from H6 hlong (by rw[<- HM.out];exact a0r (Z4 (by have:=HS.out;omega) (Dx _ _))));clear hlong;go_wp2_with fail;refine (a0P _ v2 (a ^ (n / 2 ^ (k+1))*a ^ (n / 2 ^ (k+1))) V2.out HLM.out).mono ?_;rintro e w9 ⟨rfl,hb9⟩;have B9:=hid (a0a B2.out hb9);clear hb9;rw[b0o,HBS.out];go_wp2_with fail;go_ret2
     exact⟨.inr ⟨HLO.out,rfl⟩,B9.out⟩
    focus
     have q3:decide ((4000:Int)<(Bs.size:Int))=false:=by rw[hBz.out];simp;omega
     have HLO:=hid (show nDigits (a ^ (n / 2 ^ k))<=4000 from by rw[HM.out];omega);clear hlong;go_wp2_with fail;refine (a0P _ v2 (a ^ (n / 2 ^ (k+1))*a ^ (n / 2 ^ (k+1))) V2.out HLM.out).mono ?_;rintro e w9 ⟨rfl,hb9⟩;obtain⟨B9,V9⟩:=zg (a0a B2.out hb9) (V2.out.call hb9)
   all_goals
    clear hb9;rw[b0o,HBS.out];go_wp2_with fail;go_roundw
    case rel=>exact⟨k,_,rfl,rfl,by omega,by rw[HM.out];exact V9,HLO,B9⟩
    case measure=>simp[intOf]<;>omega
def f0Z (w:World)(v:Value)(a n:Nat)(ha:IsN .i64 w v a)(hd:nDigits a<=4000)(hn2:n<=9223372036854775807):Calls Tryz.prog 161 #[v,.int .i64 n] w fun e w'=>n0K (a ^ n) e w'/\Below w.heap.size w w':=by
 rcases H7 n with rfl | hn
 .exact i0I w v a ha
 .by_cases hs:1<a
  .exact k0m w v a n ha hs hd hn hn2
  .exact h0x w v a n ha (by omega) hn hn2
end
section
open Go.RowKit
def c1c (k:IntKind)(n m:Nat)(e:Ending)(w':World):Prop:=∃ v,e=.returned (.tuple #[v,.int k (m:Int)])/\IsN k w' v n
def c1d (B:Nat)(k:IntKind)(n m:Nat)(e:Ending)(w':World):Prop:=∃ v,e=.returned (.tuple #[v,.int k (m:Int)])/\IsN k w' v n/\∀ g,v.ownBlock=some g->B<=g
def k0i (w:World)(a:Option Addr)(n c:Nat)(l:List Nat)(hn:l.length=n)(hs:Sm l)(h:Row w (.slice a n c) (b0q .i64 l)):
 Calls Tryz.prog 222 #[.slice a n c] w fun e w'=>y0W .i64 a c (val l) e w'/\w=w':=by
 subst hn;exact c0O w a c l hs h
def k0j (w:World)(v:Value)(a d:Nat)(ha:IsN .i64 w v a)(hd0:0<d)(hd1:d<1000000000)(hla:(limbs a).length<=1000000):
 Calls Tryz.prog 304 #[v,.int .i64 d] w fun e w'=>c1d w.heap.size .i64 (a / d) (a%d) e w'/\Below w.heap.size w w':=by
 obtain⟨a1,c1,rfl,h1,h2,h3⟩:=ha.openI;have H3:=hid h3;clear h3 ha;obtain⟨n,ea⟩:=gn ((limbs a).length);rw[ea]at h1 hla |-;have HA:=hid ea;clear ea;have hmk:=fun W=>d0J n (by omega) W
 go_enter Tryz.func304,Tryz.ntmps304;go_wp2_with fail;clear hmk
 go_loopw [7,8,9] (fun rr ii nn wr=>∃ (j r:Nat) (t:Int) (o:List Nat),rr=.int .i64 r/\ii=.int .i64 t/\t=(j:Int)-1/\j<=n/\Hid (SmallI a d j r o)/\Hid (Arr .i64 3 wr w.heap.size o)/\Hid (Below w.heap.size w wr)) (fun _ ii _ _=>(intOf ii+1).toNat)
 case atStart=>exact⟨n,0,_,_,rfl,rfl,rfl,Z3 _,by have:=SmallI.start (a:=a) hd0;rw[HA.out]at this;exact this,Arr.made w .i64 3 n,br0.alloc nr _⟩
 case round=>
  obtain⟨j,r,t,o,rfl,rfl,ht,hj,hS,hO,hB⟩:=hrel;have hsz:Hid (o.length=n):=by rw[Hid,hS.out.len,HA.out]
  cases j with
  | zero=>
   obtain rfl:t = -1:=by omega
   clear ht;have hv:=hid hS.out.done
   have hr:=hid (show Row wr (.slice (some ⟨w.heap.size,0,none⟩) n n) (b0q .i64 o) from by
    have:=hO.out.row (n:=n) (c:=n) (by rw[hsz.out];exact Z3 _) nr (by unfold maxLen;omega);rwa[Z6 (by rw[hsz.out];exact Z3 _)]at this)
   go_wp2_with (go_at_call 222;refine (k0i _ _ _ _ o hsz.out hS.out.sm hr.out).mono ?_;rintro e w1 ⟨⟨m1,rfl,hv1⟩,rfl⟩)
   go_ret2
   exact⟨⟨_,w0L (by rw[hv.out.2]),by rw[<- hv.out.1];exact hv1,fun g e=>by simp[Value.ownBlock]at e;omega⟩,hB.out⟩
  | succ j=>
   obtain rfl:t=(j:Int):=by omega
   clear ht;obtain⟨x,hx⟩:∃ x,(limbs a)[j]?=some x:=⟨_,J0 (by rw[HA.out];omega)⟩;obtain⟨g,og,rfl,hg,hc⟩:=H3.out _ x hx;have d1:=(hB.out.cell (p:=⟨g,og+j,none⟩) hg).trans hc;obtain⟨z,hz⟩:∃ z,o[j]?=some z:=⟨_,J0 (by rw[hsz.out];omega)⟩;have d3:=hO.out.cell hz;have d4:=hO.out.free j;have HN:=hid (hS.out.next hx);have hxl:=(a0p a).get hx;have hrl:=hS.out.rd;clear hx hc hz;go_wp2_with fail;go_roundw
   case rel=>
    have e1:(((r:Int)*1000000000+x) / d)=(((r*1000000000+x) / d:Nat):Int):=by rw[In];rfl
    have e2:(((r:Int)*1000000000+x)%d)=(((r*1000000000+x)%d:Nat):Int):=by rw[Lk];rfl
    rw[e1];exact⟨j,_,_,_,by rw[e2],rfl,by omega,by omega,HN,hO.out.set j _,a0W hB.out nr _⟩
   case measure=>simp[intOf]<;>omega
def t0A (w:World)(v:Value)(a d:Nat)(ha:IsN .i64 w v a)(hd0:0<d)(hd1:d<1000000000)(hla:(limbs a).length<=1000000):
 Calls Tryz.prog 304 #[v,.int .i64 d] w fun e w'=>c1c .i64 (a / d) (a%d) e w'/\Below w.heap.size w w':=
 (k0j w v a d ha hd0 hd1 hla).mono fun _ _ h=>by
  obtain⟨⟨v,h1,h2,-⟩,h3⟩:=h;exact⟨⟨v,h1,h2⟩,h3⟩
def b1f (k:IntKind)(t:TypeId)(B n len:Nat)(e:Ending)(w':World):Prop:=∃ g o,e=.returned (.slice (some ⟨g,0,none⟩) len len)/\B<=g/\Arr k t w' g o/\o.length=len/\Sm o/\val o=n
def k0k (w:World)(v:Value)(a d:Nat)(ha:IsN .i64 w v a)(hd1:d<1000000000)(hla:(limbs a).length<=1000000):
 Calls Tryz.prog 305 #[v,.int .i64 d] w fun e w'=>b1f .i64 3 w.heap.size (a*d) ((limbs a).length+1) e w'/\Below w.heap.size w w':=by
 obtain⟨a1,c1,rfl,h1,h2,h3⟩:=ha.openI;have H3:=hid h3;clear h3 ha;obtain⟨n,ea⟩:=gn ((limbs a).length);rw[ea]at h1 hla |-;have HA:=hid ea;clear ea;have hmk:∀ W:World,(Instr.makeSlice 79 (.int .i64 ((n:Int)+1)) (.int .i64 ((n:Int)+1))).run Tryz.prog W=.ok (.slice (some ⟨W.heap.size,0,none⟩) (n+1) (n+1)) (W.alloc (.cells (madeCells #[.int .i64 0] (n+1)) 3)):=fun W=>by
  have:=d0J (n+1) (by omega) W;rwa[Gj]at this
 go_enter Tryz.func305,Tryz.ntmps305;go_wp2_with fail;clear hmk
 go_loopw [6,7,8] (fun cc ii nn wr=>∃ (i c:Nat) (o:List Nat),cc=.int .i64 c/\ii=.int .i64 i/\i<=n/\Hid (ScaleI a d i c o)/\Hid (Arr .i64 3 wr w.heap.size o)/\Hid (Below w.heap.size w wr)) (fun _ ii _ _=>n-(intOf ii).toNat)
 case atStart=>exact⟨0,0,_,rfl,rfl,J5 _,ScaleI.start a d,by rw[HA.out];exact Arr.made w .i64 3 (n+1),br0.alloc nr _⟩
 case round=>
  obtain⟨i,c,o,rfl,rfl,hin,hS,hO,hB⟩:=hrel;have hsz:Hid (o.length=n+1):=by rw[Hid,hS.out.len,HA.out]
  by_cases hlt:i<n
  .obtain⟨x,hx⟩:∃ x,(limbs a)[i]?=some x:=⟨_,J0 (by rw[HA.out];exact hlt)⟩;obtain⟨g,og,rfl,hg,hc⟩:=H3.out _ x hx;have d1:=(hB.out.cell (p:=⟨g,og+i,none⟩) hg).trans hc;obtain⟨z,hz⟩:∃ z,o[i]?=some z:=⟨_,J0 (by rw[hsz.out];omega)⟩;have d3:=hO.out.cell hz;have d4:=hO.out.free i;have HN:=hid (hS.out.next hd1 hx);have hb1:=d0q (old:=0) (by omega) ((a0p a).get hx) hd1 hS.out.c1;have hcl:=hS.out.c1;clear hx hc hz;have HP:=hid (show ((x:Int)*(d:Int))=((x*d:Nat):Int) from (Dl x d).symm);obtain⟨p,hp⟩:=gn (x*d);rw[hp]at hb1 HN HP;have hp2:=hb1.2;clear hb1 hp;have e5:IntKind.i64.wrap ((x:Int)*(d:Int))=(p:Int):=by rw[HP.out];exact O0 _ (by omega)
   have e5':wrap64 ((x:Int)*(d:Int))=(p:Int):=by rw[HP.out];exact IntWalk.wrap64_in _ (by omega)
   go_wp2_with fail;clear e5 e5';go_roundw
   case rel=>
    have hz:(((p:Int)+c)%1000000000)=(((p+c)%1000000000:Nat):Int):=by omega
    rw[hz];exact⟨i+1,(p+c) / 1000000000,_,by go_num,by go_num,by omega,HN,hO.out.set i _,a0W hB.out nr _⟩
   case measure=>simp[intOf]<;>omega
  .obtain rfl:i=n:=by omega
   obtain⟨z,hz⟩:∃ z,o[i]?=some z:=⟨_,J0 (by rw[hsz.out];omega)⟩;have d3:=hO.out.cell hz;have d4:=hO.out.free i;clear hz;have hD:=hid (show val (o.set i c)=a*d/\Sm (o.set i c)/\(o.set i c).length=i+1 from by have:=hS.out;rw[<- HA.out]at this |-;exact this.done);go_wp2_with fail;go_ret
   exact⟨⟨w.heap.size,_,rfl,Z3 _,hO.out.set i c,hD.out.2.2,hD.out.2.1,hD.out.1⟩,a0W hB.out nr _⟩
def y0U (us vs:List Nat)(gu j n:Nat)(w:World)(e:Ending)(w':World):Prop:=
 e=.returned (.int .i64 ((val ((us.drop j).take (n+1)) / val vs:Nat):Int))/\∃ o,WinOut us j n (val ((us.drop j).take (n+1))%val vs) o/\Arr .i64 3 w' gu o/\w.grownBy w' (some gu)
def w0Y (w:World)(gu j cu:Nat)(us:List Nat)(gv ov cv:Nat)(vs:List Nat)(n:Nat)(hS:StepIn us vs j n)(hU:Arr .i64 3 w gu us)(hV:Row w (.slice (some ⟨gv,ov,none⟩) n cv) (b0q .i64 vs))(hne:gv≠gu):
 Calls Tryz.prog 306 #[.slice (some ⟨gu,j,none⟩) (n+1) cu,.slice (some ⟨gv,ov,none⟩) n cv] w fun e w'=>y0U us vs gu j n w e w':=by
 have n2:=hS.n2;have nm:=hS.nm;have lu:=hS.lu;have um:=hS.um;have cv':∀ i,i<n->w.cell? ⟨gv,ov+i,none⟩=some (.int .i64 (vs.getD i 0:Nat)):=fun i hi=>by
  obtain⟨g,o,e,hg,hc⟩:=hV.at (d0M (getD_some (l:=vs) (i:=i) (by rw[hS.lv];exact hi)));simp at e;obtain⟨rfl,rfl⟩:=e;exact hc
 have cu':∀ i,i<=n->w.cell? ⟨gu,j+i,none⟩=some (.int .i64 (us.getD (j+i) 0:Nat)):=fun i hi=>hU.cell (getD_some (by omega))
 have hE:=hid hS.est;have a0:=cu' n nr;have a1:=cu' (n-1) (by omega);have a2:=cu' (n-2) (by omega);have b1:=cv' (n-1) (by omega);have b2:=cv' (n-2) (by omega);obtain⟨CV,CU,HS,HU⟩:=zd cv' cu' hS hU;clear cv' cu' hS hU hV;obtain⟨u0,hu0⟩:=gn (us.getD (j+n) 0);obtain⟨u1,hu1⟩:=gn (us.getD (j+(n-1)) 0);obtain⟨u2,hu2⟩:=gn (us.getD (j+(n-2)) 0);obtain⟨v1,hv1⟩:=gn (vs.getD (n-1) 0);obtain⟨v2,hv2⟩:=gn (vs.getD (n-2) 0);rw[hu0,hu1,hu2,hv1,hv2]at hE;rw[hu0]at a0;rw[hu1]at a1;rw[hu2]at a2;rw[hv1]at b1;rw[hv2]at b2;have HU0:=hid hu0;clear hu0 hu1 hu2 hv1 hv2;have l0:=hE.out.b0;have l1:=hE.out.b1;have l2:=hE.out.b2;have l3:=hE.out.c1;have l4:=hE.out.c2;have l5:=hE.out.v0;have f1:(0:Int)<=(n:Int)-1:=by omega
 have f2:(n:Int)-1<(n:Int)+1:=by omega
 have f3:(n:Int)-1<(n:Int):=by omega
 have f7:(0:Int)<=(n:Int):=by omega
 have f8:(n:Int)<(n:Int)+1:=by omega
 have e1:IntKind.i64.wrap ((n:Int)-1)=(n:Int)-1:=O0 _ (by omega);have e2:IntKind.i64.wrap ((n:Int)-2)=(n:Int)-2:=O0 _ (by omega);have e3:((n:Int)-1).toNat=n-1:=by omega
 have e4:((n:Int)-2).toNat=n-2:=by omega
 have e5:IntKind.i64.wrap ((u0:Int)*1000000000)=(u0:Int)*1000000000:=O0 _ (by omega);have e6:IntKind.i64.wrap ((u0:Int)*1000000000+u1)=(u0:Int)*1000000000+u1:=O0 _ (by omega);go_enter Tryz.func306,Tryz.ntmps306;go_wp2_with fail;go_quiet (fail)
 clear e5 e6;go_wp2_with fail;go_quiet (fail)
 go_upto_block 0 with (fail)
 rename_i nq1 nq2
 obtain⟨V,hV⟩:=gn (val vs);obtain⟨U,hU⟩:=gn (val ((us.drop j).take (n+1)));rw[hU,hV]at hE;have HVU:=hid (And.intro hU hV);clear hU hV
 go_cut [7] (fun gg wx=>∃ (G q:Nat),gg=.int .i64 G/\wx=w.drewN q/\G<1000000000/\Hid (U / V<=G/\G*V<U+V))
 case first=>
  go_wp2_with fail
  go_loopw [7,8] (fun gg rr wr=>∃ G R q:Nat,gg=.int .i64 G/\rr=.int .i64 R/\wr=w.drewN q/\Hid (EstI U V u0 u1 v1 G R)) (fun gg _ _=>(intOf gg).toNat)
  case atStart=>
   exact⟨_,_,_,by rw[In];rfl,by rw[Lk];rfl,by rw[Bb],EstI.start hE.out⟩
  case round=>
   obtain⟨G,R,q,rfl,rfl,rfl,hI⟩:=hrel;have g2:=hI.out.g2;have r2:=hI.out.r2;by_cases hR:R<1000000000
   .have q1:decide ((R:Int)<1000000000)=true:=by simp;omega
    by_cases hG:1000000000<=G
    .have q2:decide ((1000000000:Int)<=(G:Int))=true:=by simp;omega
     have HN:=hid (hI.out.big hE.out hR hG);go_wp2_with fail
     go_big_quiet (fail)
     clear q1 q2;go_wp2_with fail;go_quiet (fail)
     go_wp2_with fail;go_roundw
     case rel=>exact⟨G-1,R+v1,_,by go_num,by go_num,by rw[Bb,Bb],HN⟩
     case measure=>simp[intOf]<;>omega
    .have q2:decide ((1000000000:Int)<=(G:Int))=false:=by simp;omega
     obtain⟨p,hp⟩:=gn (G*v2);have hpb:p<=999999999*999999999:=by rw[<- hp];exact Aw (by omega) (by omega)
     have HPI:=hid (show ((G:Int)*(v2:Int))=(p:Int) from by rw[<- Dl,hp]);by_cases hT:R*1000000000+u2<p
     .have q3:decide ((R:Int)*1000000000+u2<(p:Int))=true:=by simp;omega
      have HN:=hid (hI.out.less hE.out hR (by rw[hp];exact hT));have hg0:=HN.out.2;clear hp hT;obtain⟨x5,x6,x7⟩:IntKind.i64.wrap ((G:Int)*(v2:Int))=(p:Int)/\IntKind.i64.wrap ((R:Int)*1000000000)=(R:Int)*1000000000/\IntKind.i64.wrap ((R:Int)*1000000000+u2)=(R:Int)*1000000000+u2:=by
       refine⟨by rw[HPI.out];exact O0 _ (by omega),O0 _ (by omega),O0 _ (by omega)⟩
      go_wp2_with fail
      go_big_quiet (fail)
      clear q1 q2 q3 x5 x6 x7;go_wp2_with fail;go_quiet (fail)
      go_wp2_with fail;go_roundw
      case rel=>exact⟨G-1,R+v1,_,by go_num,by go_num,by rw[Bb,Bb],HN.out.1⟩
      case measure=>simp[intOf]<;>omega
     .have q3:decide ((R:Int)*1000000000+u2<(p:Int))=false:=by simp;omega
      obtain⟨HD,HQ⟩:=zg (hI.out.done hE.out (.inr ⟨by omega,by rw[hp];omega⟩)) hI.out.q;clear hp hT;obtain⟨x5,x6,x7⟩:IntKind.i64.wrap ((G:Int)*(v2:Int))=(p:Int)/\IntKind.i64.wrap ((R:Int)*1000000000)=(R:Int)*1000000000/\IntKind.i64.wrap ((R:Int)*1000000000+u2)=(R:Int)*1000000000+u2:=by
       refine⟨by rw[HPI.out];exact O0 _ (by omega),O0 _ (by omega),O0 _ (by omega)⟩
      go_wp2_with fail
      go_big_quiet (fail)
      clear q1 q2 q3 x5 x6 x7;go_wp2_with fail
      go_meet
      exact⟨G,_,rfl,by rw[Bb],HD.out.1,HQ.out,HD.out.2⟩
   .have q1:decide ((R:Int)<1000000000)=false:=by simp;omega
    obtain⟨HD,HQ⟩:=zg (hI.out.done hE.out (.inl (by omega))) hI.out.q;go_wp2_with fail
    go_big_quiet (fail)
    clear q1;go_wp2_with fail
    go_meet
    exact⟨G,_,rfl,by rw[Bb],HD.out.1,HQ.out,HD.out.2⟩
 case rest=>
  obtain⟨G,q,rfl,rfl,hG,hQ⟩:=hcut;have hE1:=hE;clear a0 a1 a2 b1 b2 f1 f2 f3 f7 f8 e1 e2 e3 e4 hE l0 l1 l2 l3 l4 l5;go_wp2_with fail
  go_loopw [9,10,11,12] (fun bb ii tt xx wr=>∃ (i c:Nat) (o:List Nat),bb=.int .i64 c/\ii=.int .i64 i/\i<=n/\Hid (MsubI us vs j n G i c o)/\Hid (Arr .i64 3 wr gu o)/\Hid (w.grownBy wr (some gu))) (fun _ ii _ _ _=>n-(intOf ii).toNat)
  case atStart=>exact⟨0,0,us,rfl,rfl,J5 _,MsubI.start HS.out.su,HU.out.drewN q,e0O (Mz w _) q⟩
  case round=>
   obtain⟨i,c,o,rfl,rfl,hin,hM,hO,hB⟩:=hrel;have hol:=hid hM.out.len;have hcG:=hM.out.c1;by_cases hlt:i<n
   .have d1:=hO.out.cell (getD_some (l:=o) (i:=j+i) (by rw[hol.out];omega));have d4:=hO.out.free (j+i);have d2:=d0f hB.out (CV.out i hlt) hne;have hvl:=HS.out.sv.getD i;have hul:=HS.out.su.getD (j+i);rw[b0J hM.out.hi]at d1;obtain⟨T,M,z,c',hT,hM1,hz,hc',z1,z2,z3,z4,z5,z6,z7,z8⟩:=t0p hul hcG hG hvl;have HN:=hid (hM.out.next (by omega) lu z1 z2 z3);obtain⟨ui,hui⟩:=gn (us.getD (j+i) 0);obtain⟨vi,hvi⟩:=gn (vs.getD i 0);rw[hui]at d1 hul hT;rw[hvi]at d2 hvl hT;clear hui hvi z3;obtain⟨p,hp⟩:=gn (G*vi);have hpb:p<=999999999*999999999:=by rw[<- hp];exact Aw (by omega) (by omega)
    have HPI:=hid (show ((G:Int)*(vi:Int))=(p:Int) from by rw[<- Dl,hp]);rw[hp]at hT;obtain⟨HT,HM1,HZ,HC⟩:=zd hT hM1 hz hc';clear hp hT hM1 hz hc';have f1:(0:Int)<=(i:Int):=by omega
    have f2:(i:Int)<(n:Int):=by omega
    have f3:(i:Int)<(n:Int)+1:=by omega
    obtain⟨x5,x6,x7⟩:IntKind.i64.wrap ((G:Int)*(vi:Int))=(p:Int)/\IntKind.i64.wrap ((ui:Int)-c)=(ui:Int)-c/\IntKind.i64.wrap ((ui:Int)-c-p)=T:=by
     refine⟨by rw[HPI.out];exact O0 _ (by omega),O0 _ (by omega),by rw[HT.out];exact O0 _ (by omega)⟩
    go_wp2_with fail;go_quiet (fail)
    clear x5 x6 x7;have y1:=HM1.out;have y2:=HZ.out;go_wp2_with fail;clear y1 y2;go_roundw
    case rel=>exact⟨i+1,c',_,by rw[HC.out],by go_num,by omega,HN,(hO.out.drewN _).set (j+i) z,d0m (e0O hB.out _) _ _⟩
    case measure=>simp[intOf]<;>omega
   .obtain rfl:i=n:=by omega
    have hg0:=b0J hM.out.hi;have d1:=hO.out.cell (getD_some (l:=o) (i:=j+i) (by rw[hol.out];omega));have d4:=hO.out.free (j+i);rw[hg0,HU0.out]at d1;have hV0:=hE1.out.pos;have l0:=hE1.out.b0;clear hg0;by_cases hc:c<=u0
    .obtain⟨r1,r2,r3⟩:=hM.out.fits lu HS.out.lv HS.out.sv HVU.out.1 HVU.out.2 HU0.out hQ.out.1 hV0 hc;obtain⟨R1,R3⟩:=zg r1 r3;subst r2;clear r1 r3 hc;go_wp2_with fail;refine wp_loop_rounds 1 ?_;rw[rounds_succ];go_wp2_with fail;go_ret
     refine⟨a0Q (by rw[HVU.out.1,HVU.out.2,<- R1.out]),_,by rw[HVU.out.1,HVU.out.2];exact R3.out,hO.out.set (j+i) 0,d0m hB.out _ _⟩
    .obtain⟨hc1,hadd⟩:=hM.out.lacks lu HS.out.lv HS.out.sv HVU.out.1 HVU.out.2 HU0.out hQ.out.1 hQ.out.2 hV0 (by omega);have HADD:=hid hadd;have hsub:((u0:Int)-(c:Int)) = -1:=by omega
     obtain⟨HN,HG⟩:=zg (hO.out.setN (j+i) (-1)) (d0m hB.out (j+i) (.int .i64 (-1)));clear hadd hc hc1;go_wp2_with fail;refine wp_loop_rounds 2 ?_;rw[rounds_succ];clear hsub;obtain⟨wx,hwx⟩:=gn (wr.setCell ⟨gu,j+i,none⟩ (.int .i64 (-1)));rw[hwx]at HN HG |-;clear hwx d1 d4;have k1:=HN.out.self (m:=j+i) (by rw[hol.out];omega);go_wp2_with fail
     go_loopw [13,14,15] (fun cc ii tt wq=>∃ (y k:Nat) (p:List Nat),cc=.int .i64 k/\ii=.int .i64 y/\y<=i/\Hid (AddI o vs j y k p)/\Hid (ArrN .i64 3 wq gu p (j+i) (-1))/\Hid (w.grownBy wq (some gu))) (fun _ ii _ _=>i-(intOf ii).toNat)
     case atStart=>exact⟨0,0,o,rfl,rfl,J5 _,AddI.start hM.out.sm,HN,HG⟩
     case round=>
      obtain⟨y,k,p,rfl,rfl,hyi,hA,hP,hB2⟩:=hrel;have hpl:=hid (show p.length=us.length from by rw[hA.out.len,hol.out]);by_cases hlt2:y<i
      .have d1:=hP.out.cell (i:=j+y) (by omega) (getD_some (l:=p) (i:=j+y) (by rw[hpl.out];omega));have d4:=hP.out.free (j+y);have d2:=d0f hB2.out (CV.out y hlt2) hne;rw[b0J hA.out.hi]at d1;have HN2:=hid (hA.out.next hM.out.sm HS.out.sv (by rw[hol.out];omega));have hvl:=HS.out.sv.getD y;have hul:=hM.out.sm.getD (j+y);have hk1:=hA.out.k1;obtain⟨ui,hui⟩:=gn (o.getD (j+y) 0);obtain⟨vi,hvi⟩:=gn (vs.getD y 0);rw[hui]at d1 hul;rw[hvi]at d2 hvl;rw[hui,hvi]at HN2;clear hui hvi;have f1:(0:Int)<=(y:Int):=by omega
       have f2:(y:Int)<(i:Int):=by omega
       have f3:(y:Int)<(i:Int)+1:=by omega
       obtain⟨x5,x6⟩:IntKind.i64.wrap ((ui:Int)+vi)=(ui:Int)+vi/\IntKind.i64.wrap ((ui:Int)+vi+k)=(ui:Int)+vi+k:=by
        refine⟨O0 _ (by omega),O0 _ (by omega)⟩
       go_wp2_with fail;go_quiet (fail)
       clear x5 x6;go_wp2_with fail;go_roundw
       case rel=>
        have hz:(((ui:Int)+vi+k)%1000000000)=(((ui+vi+k)%1000000000:Nat):Int):=by omega
        rw[hz];exact⟨y+1,_,_,by go_num,by go_num,by omega,HN2,(hP.out.drewN _).set (by omega) _,d0m (e0O hB2.out _) _ _⟩
       case measure=>simp[intOf]<;>omega
      .obtain rfl:y=i:=by omega
       obtain⟨r0,r1,r2,r3⟩:=HADD.out k p hA.out;subst r0;obtain⟨R1,R3⟩:=zg r1 r3;have k1:=hP.out.self (m:=j+y) (by rw[hpl.out];omega);have k2:=hP.out.free (j+y);clear r1 r3;go_wp2_with fail;rw[rounds_succ];go_wp2_with fail;go_ret
       refine⟨a0Q (by rw[HVU.out.1,HVU.out.2,R1.out];omega),_,by rw[HVU.out.1,HVU.out.2];exact R3.out,hP.out.back 0,d0m hB2.out _ _⟩
def v0d (B:Nat)(k:IntKind)(q r:Nat)(e:Ending)(w':World):Prop:=∃ v u,e=.returned (.tuple #[v,u])/\IsN k w' v q/\(∀ g,v.ownBlock=some g->B<=g)/\IsN k w' u r
def l0P (w:World)(v u:Value)(a b:Nat)(ha:IsN .i64 w v a)(hb:IsN .i64 w u b)(hlt:a<b):
 Calls Tryz.prog 244 #[v,u] w fun e w'=>v0d w.heap.size .i64 (a / b) (a%b) e w'/\Below w.heap.size w w':=by
 obtain⟨HA,HB,HL,HQ,HR⟩:=zf ha hb (b0H hlt) (Do hlt) (Bl hlt);obtain⟨a1,c1,rfl,_⟩:=ha.openI;obtain⟨a2,c2,rfl,_⟩:=hb.openI;clear ha hb hlt;go_enter Tryz.func244,Tryz.ntmps244;go_wp2_with fail;refine (b0j _ _ _ a b HA.out HB.out).mono ?_;rintro e w1 ⟨rfl,hb1⟩;have B1:=hid hb1;clear hb1;rw[HL.out];go_wp2_with fail;go_ret2
 exact⟨⟨_,_,rfl,by rw[HQ.out];exact IsN.zero _ _,fun g e=>by simp[Value.ownBlock]at e,by rw[HR.out];exact HA.out.call B1.out⟩,B1.out⟩
def o0O (w:World)(v u:Value)(a b:Nat)(ha:IsN .i64 w v a)(hb:IsN .i64 w u b)(hle:b<=a)(h0:0<b)(h1:b<1000000000)(hla:(limbs a).length<=1000000):
 Calls Tryz.prog 244 #[v,u] w fun e w'=>v0d w.heap.size .i64 (a / b) (a%b) e w'/\Below w.heap.size w w':=by
 obtain⟨HA,HB⟩:=zg ha hb;have hord:b0e a b=0\/b0e a b=1:=by
  unfold b0e;split
  .omega
  .split<;>simp
 obtain⟨a1,c1,rfl,h1',_⟩:=ha.openI;obtain⟨a2,c2,rfl,h2',h3',h4'⟩:=hb.openI;have hl1:limbs b = [b]:=d0d h0 h1;obtain⟨g,o,rfl,hg,hc⟩:=h4' 0 b (by rw[hl1];rfl);rw[Ao]at hc;have HC:=hid hc;have hlen:(limbs b).length=1:=by rw[hl1];rfl
 rw[hlen]at HB h2' |-;clear ha hb hc h4' hl1 hlen;go_enter Tryz.func244,Tryz.ntmps244;go_wp2_with fail;refine (b0j _ _ _ a b HA.out HB.out).mono ?_;rintro e w1 ⟨rfl,hb1⟩;have d1:=(hb1.cell (p:=⟨g,o,none⟩) hg).trans HC.out;have B1:=hid hb1;clear hb1;obtain⟨t,ht⟩:=gn (b0e a b);rw[ht]at hord |-;have q0:decide (t<0)=false:=by simp;omega
 clear ht hord;go_wp2_with fail;refine (k0j _ _ a b (HA.out.call B1.out) h0 h1 hla).mono ?_;rintro e w2 ⟨⟨v2,rfl,hv2,hf2⟩,hb2⟩;obtain⟨B2,V2,F2⟩:=zc hb2 hv2 hf2;clear hb2 hv2 hf2;have hrb:a%b<1000000000:=Nat.lt_trans (Hh a h0) h1;go_wp2_with fail;refine (l0q _ _ [a%b] (Sm.cons hrb Sm.nil) ?_).mono ?_
 .exact Row.of_blk (b:=w2.heap.size) (n:=1) (c:=1) (cs:=#[.int .i64 ((a%b:Nat):Int)]) (Blk.new w2 _ _) rfl (by unfold maxLen;omega) (fun i x hx=>by simpa[b0q]using hx) nr (by unfold maxLen;omega)
 .rintro e w3 ⟨⟨v3,rfl,hv3⟩,rfl⟩;have V3:=hid hv3;clear hv3;go_wp2_with fail;go_ret2
  have hb3:Below w2.heap.size w2 (w2.alloc (.cells #[.int .i64 ((a%b:Nat):Int)] 3)):=br0.alloc nr _;refine⟨⟨_,_,rfl,V2.out.call hb3,fun g e=>E0 B1.out.size (F2.out g e),?_⟩,a0a (a0a B1.out B2.out) hb3⟩;have:=V3.out;rwa[show val [a%b]=a%b by simp[a0O]]at this
def l0O (w:World)(v u:Value)(a b m:Nat)(ha:IsN .i64 w v a)(hb:IsN .i64 w u b)(hle:b<=a)(hn:(limbs b).length=m)(hm2:2<=m)(hla:(limbs a).length<=1000000):
 Calls Tryz.prog 244 #[v,u] w fun e w'=>v0d w.heap.size .i64 (a / b) (a%b) e w'/\Below w.heap.size w w':=by
 obtain⟨HA,HB⟩:=zg ha hb;have hord:b0e a b=0\/b0e a b=1:=by
  unfold b0e;split
  .omega
  .split<;>simp
 have hmn:=a0h hle;obtain⟨a1,c1,rfl,h1',_⟩:=ha.openI;obtain⟨a2,c2,rfl,h2',h3',h4'⟩:=hb.openI;obtain⟨x,hx⟩:∃ x,(limbs b)[m-1]?=some x:=⟨_,J0 (by omega)⟩;obtain⟨g,o,rfl,hg,hc⟩:=h4' (m-1) x hx;have HC:=hid hc;have hn1:(limbs b).length=(m-1)+1:=by omega
 obtain⟨s1,s2,s3⟩:=j0Z hn1 hx;obtain⟨t1,t2,_⟩:=i0w hn1 hx;obtain⟨d,hd⟩:=gn (1000000000 / (x+1));rw[hd]at s1 s2 s3;obtain⟨HS,hdI⟩:=zg (show (limbs (b*d)).length=m by omega) (show ((1000000000:Int) / ((x:Int)+1))=(d:Int) from by rw[<- hd];rfl);rw[hn]at h2' hmn |-;obtain⟨L,hL⟩:=gn ((limbs a).length);rw[hL]at hmn h1' |-;have hla':L<=1000000:=by omega
 obtain⟨HL,HN,HLA⟩:=zc hL hn hla;rw[hL]at HA;rw[hn]at HB;obtain⟨K,hK⟩:∃ K,K=L+1-m:=⟨_,rfl⟩;have hKI:=hid (show ((L:Int)+1-(m:Int))=(K:Int) by omega);have hKL:K+m=L+1:=by omega
 have hmk:=hid (fun W=>d0J K (by omega) W);clear ha hb hc h4' hx hd s1 hL hn hla hle hn1 hK;go_enter Tryz.func244,Tryz.ntmps244;go_wp2_with fail;refine (b0j _ _ _ a b HA.out HB.out).mono ?_;rintro e w1 ⟨rfl,hb1⟩;have d1:=(hb1.cell (p:=⟨g,o+(m-1),none⟩) hg).trans HC.out;have B1:=hid hb1;clear hb1;obtain⟨t,ht⟩:=gn (b0e a b);rw[ht]at hord |-;have q0:decide (t<0)=false:=by simp;omega
 clear ht hord;go_wp2_with fail;rw[hdI.out];refine (k0k _ _ a d (HA.out.call B1.out) s3 HLA.out).mono ?_;rintro e w2 ⟨⟨gu,ou,rfl,hgu,hAu,lu,su,vu⟩,hb2⟩;obtain⟨B2,AU,LU,SU,VU⟩:=zf (a0a B1.out hb2) hAu lu su vu;have hul:=hAu.lt;rw[HL.out]at LU |-;clear hAu lu su vu d1;go_wp2_with fail;refine (k0k _ _ b d (HB.out.call B2.out) s3 (by rw[HN.out];omega)).mono ?_;rintro e w3 ⟨⟨gv,ov,rfl,hgv,hAv,lv,sv,vv⟩,hb3⟩;obtain⟨B3,AU3⟩:=zg (a0a B2.out hb3) (AU.out.call hb3);have hne:gv≠gu:=by omega
 obtain⟨LV,VV,SV⟩:=zc lv vv sv;clear lv vv sv;go_wp2_with fail;rw[<- LV.out];refine (c0O _ _ _ ov SV.out (by have:=hAv.row (n:=ov.length) (c:=ov.length) nr nr (by rw[LV.out,HN.out];unfold maxLen;omega);rwa[Z6 nr]at this)).mono ?_;rintro e w4 ⟨⟨m',rfl,hm'⟩,rfl⟩;rw[VV.out]at hm';have hmm:m'=m:=by have:=hm'.len.1;rw[ints_length,HS.out]at this;exact this
 subst hmm;have RV:=hid hm';have hvl:=hAv.lt;clear hAv hm' AU;have y1:=hKI.out;have y2:=hmk.out;go_wp2_with fail;clear y1 y2;have hV:=hid (a0y (b*d))
 have D0:=hid (show DivI (a*d) (b*d) m' (L+1) K ou (List.replicate K 0) from by
  have h1:1000000000 ^ (m'-1)<=b:=b0c.1 (by rw[HN.out];omega);have h2:b*d<=1000000000 ^ m':=Dc (a0f.1 (by rw[HS.out];exact Z3 _));have h3:a<1000000000 ^ L:=a0f.1 (by rw[HL.out];exact Z3 _);have:=DivI.start (U:=a*d) (V:=b*d) (n:=m') h2 SU.out LU.out (by omega) VU.out (n0U LU.out VU.out h3 (by omega) (by omega) h1 s2);rwa[show L+1-m'=K by omega]at this)
 go_loopw [13] (fun jj wr=>∃ (k:Nat) (t:Int) (o Q:List Nat),jj=.int .i64 t/\t=(k:Int)-1/\k<=K/\Hid (DivI (a*d) (b*d) m' (L+1) k o Q)/\Hid (Arr .i64 3 wr gu o)/\Hid (Arr .i64 3 wr w3.heap.size Q)/\Hid (Row wr (.slice (some ⟨gv,0,none⟩) m' ov.length) (b0q .i64 (limbs (b*d))))/\Hid (Below w.heap.size w wr)) (fun jj _=>(intOf jj+1).toNat)
 case atStart=>
  have ha:Below w3.heap.size w3 (w3.alloc (.cells (madeCells #[.int .i64 0] K) 3)):=br0.alloc nr _;exact⟨K,_,ou,_,rfl,rfl,Z3 _,D0,AU3.out.call ha,Arr.made w3 .i64 3 K,RV.out.call ha,a0a B3.out ha⟩
 case round=>
  obtain⟨k,t,o2,Q,rfl,ht,hk,hD,hU,hQ,hR,hB⟩:=hrel;obtain⟨hol,hql⟩:=zg hD.out.lo (show Q.length=K from by rw[hD.out.lq];omega);cases k with
  | zero=>
   obtain rfl:t = -1:=by omega
   clear ht;obtain⟨r1,r2,r3⟩:=hD.out.done (by omega);obtain⟨hfin,R3⟩:=zg (r0X (a:=a) (b:=b) s2 r1 r2) r3;have hlen:(limbs (val (o2.take m'))).length<=1000000:=by
    rw[r3];have:=a0h (Dc r2);rw[HS.out]at this;omega
   clear r1 r2 r3;go_wp2_with fail;refine (l0q _ _ (o2.take m') (hD.out.so.take _) (hU.out.row (by rw[hol.out];omega) (by omega) (by unfold maxLen;omega))).mono ?_;rintro e w5 ⟨⟨v5,rfl,hv5⟩,rfl⟩;go_wp2_with fail;refine (t0A _ v5 _ d hv5 s2 s3 hlen).mono ?_;rintro e w6 ⟨⟨v6,rfl,hv6⟩,hb6⟩;obtain⟨V6,B6,Q6⟩:=zc hv6 hb6 (hQ.out.call hb6);clear hv5 hv6 hb6;go_wp2_with fail;refine (k0i _ _ _ _ Q hql.out hD.out.sq (by have:=Q6.out.row (n:=K) (c:=K) (by rw[hql.out];exact Z3 _) nr (by unfold maxLen;omega);rwa[Z6 (by rw[hql.out];exact Z3 _)]at this)).mono ?_;rintro e w7 ⟨⟨m7,rfl,hv7⟩,rfl⟩;go_wp2_with fail;go_ret2
   refine⟨⟨_,v6,rfl,by rw[<- hfin.out.1];exact hv7,fun g e=>by have:=B3.out.size;simp[Value.ownBlock]at e;omega,?_⟩,a0a hB.out B6.out⟩;have:=V6.out;rwa[R3.out,hfin.out.2]at this
  | succ j=>
   obtain rfl:t=(j:Int):=by omega
   clear ht;have hS:=hid (show StepIn o2 (limbs (b*d)) j m' from⟨hm2,by omega,HS.out,by rw[hol.out];omega,by rw[hol.out];omega,hD.out.so,a0p _,k0u (n:=m'-1) (by rw[HS.out];omega),by rw[hV.out];exact hD.out.win (by omega)⟩);obtain⟨z,hz⟩:∃ z,Q[j]?=some z:=⟨_,J0 (by rw[hql.out];omega)⟩;have hgq:w3.heap.size≠gu:=by omega
   have hgw:w.heap.size<=gu:=E0 B1.out.size hgu;have hqw:w.heap.size<=w3.heap.size:=B3.out.size;go_wp2_with fail;rw[show j+m'+1-j=m'+1 by omega];refine (w0Y _ gu j _ o2 gv 0 _ (limbs (b*d)) m' hS.out hU.out hR.out hne).mono ?_;rintro e w5 ⟨he,o5,hw5,hA5,hg5⟩;rw[hV.out]at he hw5;have HN5:=hid (hD.out.next (by omega) hw5);obtain⟨qv,hqv⟩:=gn (val ((o2.drop j).take (m'+1)) / (b*d));rw[hqv]at he HN5;subst he;obtain⟨Q5,R5,B5,A5⟩:=zd (hQ.out.gb hg5 hgq) (hR.out.gb hg5 hne) (u0Y hB.out hB.out.size hg5 hgw) hA5;have d3:=Q5.out.cell hz;have d4:=Q5.out.free j;clear hw5 hA5 hg5 hqv hz;go_wp2_with fail;go_roundw
   case rel=>
    have hset:w5.grownBy (w5.setCell ⟨w3.heap.size,j,none⟩ (.int .i64 (qv:Int))) (some w3.heap.size):=d0m (Mz _ _) _ _;exact⟨j,_,o5,_,rfl,rfl,by omega,HN5,A5.out.gb hset (fun e=>hgq e.symm),Q5.out.set j qv,R5.out.gb hset (by omega),a0W B5.out hqw _⟩
   case measure=>simp[intOf]<;>omega
def f0a (w:World)(v u:Value)(a b:Nat)(ha:IsN .i64 w v a)(hb:IsN .i64 w u b)(h0:0<b)(hla:(limbs a).length<=1000000):
 Calls Tryz.prog 244 #[v,u] w fun e w'=>v0d w.heap.size .i64 (a / b) (a%b) e w'/\Below w.heap.size w w':=by
 by_cases hlt:a<b
 .exact l0P w v u a b ha hb hlt
 .by_cases h1:b<1000000000
  .exact o0O w v u a b ha hb (by omega) h0 h1 hla
  .refine l0O w v u a b _ ha hb (by omega) rfl ?_ hla;have:1<(limbs b).length:=b0c.2 (by omega);omega
def g0P (w:World)(v u:Value)(a b:Nat)(ha:IsN .i64 w v a)(hb:IsN .i64 w u b)(h0:0<b)(hla:(limbs a).length<=1000000):
 Calls Tryz.prog 244 #[v,u] w fun e w'=>s0F .i64 (a / b) (a%b) e w'/\Below w.heap.size w w':=
 (f0a w v u a b ha hb h0 hla).mono fun _ _ h=>by
  obtain⟨⟨v,u,h1,h2,-,h3⟩,h4⟩:=h;exact⟨⟨v,u,h1,h2,h3⟩,h4⟩
def g0Q (w:World)(v u:Value)(a b:Nat)(ha:IsN .i64 w v a)(hb:IsN .i64 w u b)(hla:(limbs a).length<=1000000)(hlb:(limbs b).length<=1000000):
 Calls Tryz.prog 174 #[v,u] w fun e w'=>h0H .i64 (Nat.gcd a b) e w'/\Below w.heap.size w w':=by
 obtain⟨HA,HB,LA,LB⟩:=zd ha hb hla hlb;clear ha hb hla hlb;go_enter Tryz.func174,Tryz.ntmps174;go_wp2_with fail
 go_loopw [0,1,5,6] (fun x y q r wr=>∃ m n:Nat,Hid (IsN .i64 wr x m)/\Hid (IsN .i64 wr y n)/\Hid ((limbs m).length<=1000000)/\Hid ((limbs n).length<=1000000)/\Hid (Nat.gcd m n=Nat.gcd a b)/\Hid (Below w.heap.size w wr))
  (fun x y q r wr=>t0Q .i64 wr y)
 case atStart=>exact⟨a,b,HA,HB,LA,LB,rfl,J3 _ _⟩
 case round=>
  obtain⟨m,n,hx,hy,hm,hn,hg,hB⟩:=hrel;have hnum:=hid (g0e hy.out);obtain⟨a1,c1,rfl,h1,h1',h1''⟩:=hx.out.openI;obtain⟨a2,c2,rfl,h2,h2',h2''⟩:=hy.out.openI;clear h1'' h2'';by_cases h0:n=0
  .subst h0;have hl:(limbs 0).length=0:=by rw[limbs_zero];rfl
   rw[hl]at *;clear hl;go_wp2_with fail;go_ret
   exact⟨⟨_,rfl,by rw[<- hg.out,Nat.gcd_zero_right];exact hx.out⟩,hB.out⟩
  .have hpos:0<(limbs n).length:=Ea.2 (fun e=>h0 (b0O.1 e));go_wp2_with fail;refine (g0P _ _ _ m n hx.out hy.out (by omega) hm.out).mono ?_;rintro e w1 ⟨⟨v1,v2,rfl,hv1,hv2⟩,hb1⟩;obtain⟨V2,B1,Y1,hlt⟩:=zd hv2 (a0a hB.out hb1) (hy.out.call hb1) (Hh m (y:=n) (by omega));have hll:=hid (show (limbs (m%n)).length<=1000000 from E0 (a0h (Dc hlt.out)) hn.out);have hgg:=hid (show Nat.gcd n (m%n)=Nat.gcd a b from by rw[<- hg.out,Kw m n,Nat.gcd_rec n m,Kw]) ;clear hv1 hv2 hb1;go_wp2_with fail;go_roundw
   case rel=>exact⟨n,m%n,Y1,V2,hn,hll,hgg,B1⟩
   case measure=>rw[g0e V2.out,hnum.out];exact hlt.out
open Go.Lib (decDigits nDigits)
def IsQF (B:Nat)(w:World)(v:Value)(q:Rat):Prop:=∃ N D,v=.agg #[.bool (decide (q.num<0)),N,D]/\IsN .i64 w N q.num.natAbs/\IsN .i64 w D q.den/\(∀ g,N.ownBlock=some g->B<=g)/\(∀ g,D.ownBlock=some g->B<=g)
theorem IsQF.q {B:Nat}{w:World}{v:Value}{q:Rat}(h:IsQF B w v q):IsQ .i64 w v q:=by
 obtain⟨N,D,rfl,h1,h2,-,-⟩:=h;exact⟨N,D,rfl,h1,h2⟩
theorem IsQF.of {B:Nat}{w:World}{m:Bool}{N D:Value}{q:Rat}(h:IsQ .i64 w (.agg #[.bool m,N,D]) q)(hN:∀ g,N.ownBlock=some g->B<=g)(hD:∀ g,D.ownBlock=some g->B<=g):IsQF B w (.agg #[.bool m,N,D]) q:=by
 obtain⟨N',D',e,h1,h2⟩:=h.ex;simp at e;obtain⟨rfl,rfl,rfl⟩:=e;exact⟨N,D,rfl,h1,h2,hN,hD⟩
def RetQF (B:Nat)(q:Rat)(e:Ending)(w':World):Prop:=∃ v,e=.returned v/\IsQF B w' v q
theorem RetQF.ret {B:Nat}{q:Rat}{e:Ending}{w':World}(h:RetQF B q e w'):j0C .i64 q e w':=by
 obtain⟨v,h1,h2⟩:=h;exact⟨v,h1,h2.q⟩
def p0W (w:World):Calls Tryz.prog 153 #[] w fun e w'=>RetFr w.heap.size .i64 1 e w'/\Below w.heap.size w w':=by
 have H1:=hid (j0f w);go_enter Tryz.func153,Tryz.ntmps153;go_wp2_with fail;go_ret
 exact⟨⟨_,rfl,H1.out,fun g e=>by simp[Value.ownBlock]at e;omega⟩,br0.alloc nr _⟩
def m0I (w:World):Calls Tryz.prog 153 #[] w fun e w'=>h0H .i64 1 e w'/\Below w.heap.size w w':=(p0W w).mono fun _ _ h=>⟨h.1.ret,h.2⟩
def d0G (w:World)(m:Bool)(v u:Value)(n d:Nat)(hn:IsN .i64 w v n)(hd:IsN .i64 w u d)(h0:0<d)(hln:(limbs n).length<=1000000)(hld:(limbs d).length<=1000000):
 Calls Tryz.prog 175 #[.bool m,v,u] w fun e w'=>RetQF w.heap.size (qmk m n d) e w'/\Below w.heap.size w w':=by
 obtain⟨HN,HD⟩:=zg hn hd;obtain⟨a1,c1,rfl,_⟩:=hn.openI;obtain⟨a2,c2,rfl,_⟩:=hd.openI;clear hn hd;rcases H7 n with rfl | hp
 .have hl:(limbs 0).length=0:=by rw[limbs_zero];rfl
  rw[hl]at HN |-;have hq:=hid (m0M m d);rw[hq.out];clear hl;go_enter Tryz.func175,Tryz.ntmps175;go_wp2_with fail;refine (p0W _).mono ?_;rintro e w1 ⟨⟨v1,rfl,hv1,hf1⟩,hb1⟩;obtain⟨a3,c3,rfl,_⟩:=hv1.openI;obtain⟨HV,HF⟩:=zg hv1 hf1;clear hf1;have HB:=hid (show Blk w1 w.heap.size #[.bool false,.slice none 0 0,.slice none 0 0] 81 from (Blk.new w _ _).call hb1);have d0:=HB.out.cell 0;have d1:=HB.out.cell 1;have d2:=HB.out.cell 2;have e0:=HB.out.free 0;have e1:=HB.out.free 1;have e2:=HB.out.free 2;have HBB:=hid hb1;clear hb1 hv1;simp at d0 d1 d2;go_wp2_with fail;obtain⟨s1,s2⟩:=d0k HB.out false none a3 0 0 (limbs 1).length c3;have f0:=s2.cell 0;have f1:=s2.cell 1;have f2:=s2.cell 2;simp at f0 f1 f2;refine J6 (v:=.agg #[.bool false,.slice none 0 0,.slice a3 (limbs 1).length c3]) (by simp[results,Tryz.results175,go_sem,f0,f1,f2]) rfl ⟨⟨_,rfl,IsQF.of (IsQ.zero_ (s1 _ _ _ (IsN.zero _ _)) (s1 _ _ _ HV.out)) (fun g e=>by simp[Value.ownBlock]at e) (fun g e=>by have:=HF.out g e;simp at this;omega)⟩,?_⟩;exact ((((br0.alloc nr _).trans (HBB.out.mono (by simp))).setCell nr _).setCell nr _).setCell nr _
 .have hpos:0<(limbs n).length:=Ea.2 (fun e=>by have:=b0O.1 e;omega);have q0:(((limbs n).length:Int)==0)=false:=U4.2 (by omega);obtain⟨g,hg⟩:=gn (Nat.gcd n d);have hgp:0<g:=hg ▸ Fx d hp;obtain⟨HG,HGP,HP,H0,HLN,HLD⟩:=kx hg hgp hp h0 hln hld;clear hg hgp hp h0 hln hld hpos;go_enter Tryz.func175,Tryz.ntmps175;go_wp2_with fail;refine (g0Q _ _ _ n d (HN.out.call (br0.alloc nr _)) (HD.out.call (br0.alloc nr _)) HLN.out HLD.out).mono ?_;rintro e w1 ⟨⟨v1,rfl,hv1⟩,hb1⟩;rw[HG.out]at hv1;obtain⟨HB1,B1⟩:=zg (show Blk w1 w.heap.size #[.bool false,.slice none 0 0,.slice none 0 0] 81 from (Blk.new w _ _).call hb1) (((J3 w.heap.size w).alloc nr (.cells #[.bool false,.slice none 0 0,.slice none 0 0] 81)).trans (hb1.mono (by simp)));obtain⟨N1,D1,G1⟩:=zc (HN.out.call B1.out) (HD.out.call B1.out) hv1;clear hb1 hv1;go_wp2_with fail;refine (f0a _ _ _ n g N1.out G1.out HGP.out HLN.out).mono ?_;rintro e w2 ⟨⟨v2,v3,rfl,hv2,hf2,-⟩,hb2⟩;obtain⟨HB2,B2,D2,G2,V2,F2⟩:=kx (HB1.out.call hb2) (a0a B1.out hb2) (D1.out.call hb2) (G1.out.call hb2) hv2 hf2;clear hb2 hv2 hf2;go_wp2_with fail;refine (f0a _ _ _ d g D2.out G2.out HGP.out HLD.out).mono ?_;rintro e w3 ⟨⟨v4,v5,rfl,hv4,hf4,-⟩,hb3⟩;obtain⟨HB3,B3,W2,W4,F4⟩:=zf (HB2.out.call hb3) (a0a B2.out hb3) (V2.out.call hb3) hv4 hf4;clear hb3 hv4 hf4;obtain⟨a3,c3,rfl,_⟩:=W2.out.openI;obtain⟨a4,c4,rfl,_⟩:=W4.out.openI;have d0:=HB3.out.cell 0;have d1:=HB3.out.cell 1;have d2:=HB3.out.cell 2;have e0:=HB3.out.free 0;have e1:=HB3.out.free 1;have e2:=HB3.out.free 2;simp at d0 d1 d2;go_wp2_with fail;obtain⟨s1,s2⟩:=d0k HB3.out m a3 a4 (limbs (n / g)).length c3 (limbs (d / g)).length c4;have f0:=s2.cell 0;have f1:=s2.cell 1;have f2:=s2.cell 2;simp at f0 f1 f2;refine J6 (v:=.agg #[.bool m,.slice a3 (limbs (n / g)).length c3,.slice a4 (limbs (d / g)).length c4]) (by simp[results,Tryz.results175,go_sem,f0,f1,f2]) rfl ⟨⟨_,rfl,IsQF.of (IsQ.mk' HP.out H0.out (HG.out ▸ s1 _ _ _ W2.out) (HG.out ▸ s1 _ _ _ W4.out)) (fun g e=>E0 B1.out.size (F2.out g e)) (fun g e=>E0 B2.out.size (F4.out g e))⟩,?_⟩;exact ((B3.out.setCell nr _).setCell nr _).setCell nr _
def k0f (w:World)(m:Bool)(v u:Value)(n d:Nat)(hn:IsN .i64 w v n)(hd:IsN .i64 w u d)(h0:0<d)(hln:(limbs n).length<=1000000)(hld:(limbs d).length<=1000000):
 Calls Tryz.prog 175 #[.bool m,v,u] w fun e w'=>j0C .i64 (qmk m n d) e w'/\Below w.heap.size w w':=
 (d0G w m v u n d hn hd h0 hln hld).mono fun _ _ h=>⟨h.1.ret,h.2⟩
def a0w {n:Nat}(h:nDigits n<=4000):(limbs n).length<=1000000:=by
 exact E0 (a0l h) (by omega)
def z0G {a b:Nat}(h0:b≠0):(qmk false a b).num.natAbs<=a/\(qmk false a b).den<=b:=by
 unfold qmk
 constructor
 .rw[Jp,Q0 h0];refine E0 (Ij _ _) ?_;rw[b0s];exact Z3 _
 .rw[No,Q0 h0];exact Dx _ _
def l0n (w:World)(a b:Nat)(ha:nDigits a<=4000)(hb:nDigits b<=4000)(h0:b≠0):
 Calls Tryz.prog 285 #[.string (a0g a),.string (a0g b)] w fun e w'=>e=.returned (.tuple #[.string (c0u (qmk false a b)),.int .i64 (c0J (qmk false a b))])/\Below w.heap.size w w':=by
 have sa:=a0t a;have sb:=a0t b;have e1:iM (a0g a)=false:=by
  unfold iM Lib.hasPrefix;rw[a0x];exact e0H a
 have e2:iD (a0g a)=a0g a:=b0P e1;have e3:iB (a0g a)=true:=by
  unfold iB;rw[e1,e2,n0l];rfl
 have HI:=fun V=>hid (h0S V (a0g a) (by omega))
 rw[e1,e2,e3]at HI;have HC:=fun V=>hid (g0a V (a0g b) (by omega))
 rw[b0D hb]at HC;have HA:=fun V=>hid (b0U V a (by omega))
 have HB:=fun V=>hid (b0U V b (by omega))
 have la:=a0w ha;have lb:=a0w hb;have HR:=fun V v u hn hd=>hid (k0f V false v u a b hn hd (by omega) la lb)
 have dq:(limbs (qmk false a b).num.natAbs).length<=1000000/\(limbs (qmk false a b).den).length<=1000000:=by
  obtain⟨k1,k2⟩:=z0G (a:=a) h0;have:=a0r k1;have:=a0r k2;exact⟨a0w (by omega),a0w (by omega)⟩
 have HW:=fun V v h=>hid (d0F V v (qmk false a b) h dq.1 dq.2)
 have hne:=a0I (show ¬ a0g b=⟨[48].toArray⟩ from by rw[<- a0q];exact b0M h0);have q0:decide ((4000:Int)<((a0g a).size:Int))=false:=by simp;omega
 obtain⟨oB,hB⟩:=gn (c0u (qmk false a b));obtain⟨oE,hE⟩:=gn (c0J (qmk false a b));rw[hB,hE]at HW;rw[hB,hE];generalize a0g a=A at *
 generalize a0g b=B at *
 clear e1 e2 e3 hB hE la lb dq sa sb ha hb h0;go_enter Tryz.func285,Tryz.ntmps285;go_wp2_with fail;refine zx (HI _) ?_;go_wp2_with fail;refine zx (HC _) ?_;go_wp2_with fail;refine (HA _).out.mono ?_;rintro e w3 ⟨⟨v3,rfl,hv3⟩,hb3⟩;obtain⟨y3,N3⟩:=zg hb3 hv3;clear hb3 hv3;go_wp2_with fail;refine (HB _).out.mono ?_;rintro e w4 ⟨⟨v4,rfl,hv4⟩,hb4⟩;obtain⟨y4,N4,M4⟩:=zc (a0a y3.out hb4) hv4 (N3.out.call hb4);clear hb4 hv4;go_wp2_with fail;refine (HR _ _ _ M4.out N4.out).out.mono ?_;rintro e w5 ⟨⟨v5,rfl,hv5⟩,hb5⟩;obtain⟨y5,N5⟩:=zg (a0a y4.out hb5) hv5;clear hb5;obtain⟨N,D,rfl,-,-⟩:=hv5.ex;clear hv5;go_wp2_with fail;refine (HW _ _ N5.out).out.mono ?_;rintro e w6 ⟨rfl,hb6⟩;have y6:=hid (a0a y5.out hb6);clear hb6;go_wp2_with fail;go_ret2
 exact⟨rfl,y6.out⟩
open Go.Shelf
def Ap (x o:Value)(n:Nat):Prop:=n=0\/∀ g,x.ownBlock=some g->o.ownBlock≠some g
def r0s {k:IntKind}{w:World}{v:Value}{n g:Nat}(h:IsN k w v n)(h0:n≠0)(hg:v.ownBlock=some g):g<w.heap.size:=by
 obtain⟨a,c,rfl,h1,h2,h3⟩:=h.openI;have hl:0<(limbs n).length:=by
  rw[b0w (by omega)];simp
 obtain⟨g',o,rfl,hg',hc⟩:=h3 0 _ (J0 hl);simp only[Value.ownBlock,At]at hg;omega
def e0L {k:IntKind}{w w':World}{row:Option Nat}{v:Value}{n:Nat}(h:IsN k w v n)(hg:w.grownBy w' row)(hne:n=0\/∀ g,v.ownBlock=some g->row≠some g):IsN k w' v n:=by
 obtain⟨a,c,rfl,h1,h2,h3⟩:=h.ex;rw[ints_length]at *;refine⟨a,c,by rw[ints_length],by rw[ints_length];exact h1,h2,fun i x hx=>?_⟩;obtain⟨g,o,rfl,hg',hc⟩:=h3 i x hx;rcases hne with rfl | hne
 .rw[limbs_zero]at hx;simp[b0q]at hx
 .exact⟨g,o,rfl,H6 hg' hg.size,hg.cell hc (fun e=>hne g rfl e.symm)⟩
def NRow (w:World)(v:Value)(m:Nat)(f:Nat->Nat):Prop:=∃ vs:List Value,vs.length=m/\Row w v vs/\∀ j x,vs[j]?=some x->IsN .i64 w x (f j)
theorem NRow.call {w w':World}{v:Value}{m:Nat}{f:Nat->Nat}(h:NRow w v m f)(hb:Below w.heap.size w w'):NRow w' v m f:=by
 obtain⟨vs,h1,h2,h3⟩:=h;exact⟨vs,h1,h2.call hb,fun j x hx=>(h3 j x hx).call hb⟩
theorem NRow.open {w:World}{v:Value}{m:Nat}{f:Nat->Nat}(h:NRow w v m f):∃ a c,v=.slice a m c/\m<=c/\c<=9223372036854775807/\∀ i,i<m->∃ g o x,a=some ⟨g,o,none⟩/\g<w.heap.size/\w.cell? ⟨g,o+i,none⟩=some x/\IsN .i64 w x (f i):=by
 obtain⟨vs,rfl,h2,h3⟩:=h;obtain⟨a,c,rfl,k1,k2,k3⟩:=h2.ex;refine⟨a,c,rfl,k1,by unfold maxLen at k2;omega,fun i hi=>?_⟩;obtain⟨x,hx⟩:∃ x,vs[i]?=some x:=⟨_,J0 hi⟩;obtain⟨g,o,e,q1,q2⟩:=k3 i x hx;exact⟨g,o,x,e,q1,q2,h3 i x hx⟩
def NOwn (B:Nat)(w:World)(v:Value)(m:Nat)(f:Nat->Nat):Prop:=∃ vs:List Value,w.ownsRow B 79 1 v m vs/\∀ j x,vs[j]?=some x->IsN .i64 w x (f j)/\Ap x v (f j)
theorem NOwn.nil (B:Nat)(w:World)(f:Nat->Nat):NOwn B w (.slice none 0 0) 0 f:=⟨[],Ba _ _ _ _,fun j x hx=>by simp at hx⟩
theorem NOwn.next {B B':Nat}{w w1 w3:World}{v v3 x:Value}{m:Nat}{f:Nat->Nat}{o:Obj}{vs:List Value}(k1:w.ownsRow B 79 1 v m vs)(k2:∀ j x,vs[j]?=some x->IsN .i64 w x (f j)/\Ap x v (f j))(hb:Below w.heap.size w w1)(hx:IsN .i64 w1 x (f m))(hB':w.heap.size<=B')(hf:∀ g,x.ownBlock=some g->B'<=g)
 (h3:w3.ownsRow B 79 1 v3 (m+1) (vs ++ [x])) (hg:(w1.alloc o).grownBy w3 v.ownBlock) (hat:v3.ownBlock=v.ownBlock\/v3.ownBlock=some (w1.alloc o).heap.size):NOwn B w3 v3 (m+1) f:=by
 have c1:(w1.alloc o).ownsRow B 79 1 v m vs:=(k1.kept (b0W hb none) (by cases hv:v.ownBlock<;>simp)).alloc o;have hal:Below w1.heap.size w1 (w1.alloc o):=br0.alloc nr o;refine⟨vs ++ [x],h3,fun j y hy=>?_⟩;have hl:vs.length=m:=by have:=k1.1;omega
 have key:IsN .i64 w1 y (f j)/\Ap y v (f j):=by
  by_cases hj:j<vs.length
  .rw[D9 hj]at hy;exact⟨(k2 j y hy).1.call hb,(k2 j y hy).2⟩
  .rw[M6 (by omega)]at hy;have hj':j-vs.length=0:=by
    rcases H7 (j-vs.length) with h | h
    .exact h
    .rw[U6 (by simp;omega)]at hy;cases hy
   rw[hj']at hy;obtain rfl:j=m:=by omega
   simp at hy;subst hy;refine⟨hx,.inr fun g hg' e=>?_⟩;have:=hf g hg';have:=(k1.lt g e).2;omega
 obtain⟨q1,q2⟩:=key;have q3:IsN .i64 (w1.alloc o) y (f j):=q1.call hal;refine⟨e0L q3 hg q2,?_⟩;by_cases h0:f j=0
 .exact .inl h0
 .refine .inr fun g hg'=>?_
  rcases q2 with e | q2
  .exact absurd e h0
  .rcases hat with e | e
   .rw[e];exact q2 g hg'
   .rw[e];intro e';injection e' with e'
    have:=r0s q3 h0 hg';omega
def x0L:(Tryz.prog.info? 79).map (fun i=>(i.zero,i.size,i.bytes))=some (some (.slice none 0 0),1,24):=by kernel_rfl
end
section
open Go.RowKit
def q0a (w:World)(v u:Value)(a b:Nat)(ha:IsN .i64 w v a)(hb:IsN .i64 w u b)(hle:b<=a)(hla:(limbs a).length<=1000000):
 Calls Tryz.prog 177 #[v,u] w fun e w'=>RetFr w.heap.size .i64 (a-b) e w'/\Below w.heap.size w w':=by
 obtain⟨i0,hi,hz0,hz1,hz2⟩:=Cl j0g;obtain⟨a1,c1,rfl,h1,h2,h3⟩:=ha.openI;obtain⟨a2,c2,rfl,k1,k2,k3⟩:=hb.openI;obtain⟨H3,K3⟩:=zg h3 k3;clear h3 k3 ha hb;have hmn:=a0h hle;obtain⟨n,ea⟩:=gn ((limbs a).length);obtain⟨m,eb⟩:=gn ((limbs b).length);rw[ea]at h1 hla hmn |-;rw[eb]at k1 hmn |-;obtain⟨HA,HB,HL⟩:=zc ea eb hle;clear ea eb hle;go_enter Tryz.func177,Tryz.ntmps177;go_wp2_with fail
 go_loopw [5,6,7,8] (fun o cc i nn wr=>∃ (s:List Nat) (c:Nat) (C:Int),i=.int .i64 s.length/\cc=.int .i64 C/\C=(c:Int)/\c<=1/\s.length<=n/\Hid (MinusI a b s c)/\Hid (wr.ownsRow w.heap.size 3 1 o s.length (b0q .i64 s))/\Hid (Below w.heap.size w wr))
  (fun _ _ i _ _=>n-(intOf i).toNat)
 case atStart=>exact⟨[],0,0,rfl,rfl,rfl,by omega,by simp,MinusI.start a b,Ba _ _ _ _,J3 _ _⟩
 case round=>
  obtain⟨s,c,C,rfl,rfl,hC,hc1,hs1,hP,hO,hB⟩:=hrel;obtain⟨ao,co,rfl⟩:=b0k hO.out;by_cases hA:s.length<n
  .obtain⟨x,hx⟩:∃ x,(limbs a)[s.length]?=some x:=⟨_,J0 (by rw[HA.out];exact hA)⟩;obtain⟨g,og,rfl,hg,hc⟩:=H3.out _ x hx;have hc':=(hB.out.cell (p:=⟨g,og+s.length,none⟩) hg).trans hc;have hxl:=(a0p a).get hx;have HX:=hid hx;clear hx hc;by_cases hB':s.length<m
   focus
    obtain⟨y,hy⟩:∃ y,(limbs b)[s.length]?=some y:=⟨_,J0 (by rw[HB.out];exact hB')⟩;obtain⟨g',og',rfl,hg',hd⟩:=K3.out _ y hy;have hd':=(hB.out.cell (p:=⟨g',og'+s.length,none⟩) hg').trans hd;have hyl:=(a0p b).get hy;have HY:=hid hy;clear hy hd;rcases (show c=0\/c=1 by omega) with rfl | rfl
    focus
     obtain rfl:C=0:=by omega
     clear hC;by_cases hneg:x<y+0
     focus
      obtain⟨z,hz0',hz1',hzI⟩:∃ z:Nat,x+1000000000*1=z+0+y/\z<1000000000/\Hid ((↑x - ↑y+1000000000:Int)=(z:Int)):=⟨((↑x - ↑y+1000000000:Int)).toNat,by omega,by omega,by rw[Hid];omega⟩;have HN:=hid (hP.out.next (z:=z) (c':=1) (by rw[a0K HX.out,a0K HY.out];omega) hz1' (by omega));clear hz0' hz1';have q1:decide ((x:Int)-(y:Int)<0)=true:=by simp<;>omega
     rotate_left
     focus
      obtain⟨z,hz0',hz1',hzI⟩:∃ z:Nat,x+1000000000*0=z+0+y/\z<1000000000/\Hid ((↑x - ↑y:Int)=(z:Int)):=⟨((↑x - ↑y:Int)).toNat,by omega,by omega,by rw[Hid];omega⟩;have HN:=hid (hP.out.next (z:=z) (c':=0) (by rw[a0K HX.out,a0K HY.out];omega) hz1' (by omega));clear hz0' hz1';have q1:decide ((x:Int)-(y:Int)<0)=false:=by simp<;>omega
    rotate_left 2
    focus
     obtain rfl:C=1:=by omega
     clear hC;by_cases hneg:x<y+1
     focus
      obtain⟨z,hz0',hz1',hzI⟩:∃ z:Nat,x+1000000000*1=z+1+y/\z<1000000000/\Hid ((↑x-1 - ↑y+1000000000:Int)=(z:Int)):=⟨((↑x-1 - ↑y+1000000000:Int)).toNat,by omega,by omega,by rw[Hid];omega⟩;have HN:=hid (hP.out.next (z:=z) (c':=1) (by rw[a0K HX.out,a0K HY.out];omega) hz1' (by omega));clear hz0' hz1';have q1:decide ((x:Int)-1-(y:Int)<0)=true:=by simp<;>omega
     rotate_left
     focus
      obtain⟨z,hz0',hz1',hzI⟩:∃ z:Nat,x+1000000000*0=z+1+y/\z<1000000000/\Hid ((↑x-1 - ↑y:Int)=(z:Int)):=⟨((↑x-1 - ↑y:Int)).toNat,by omega,by omega,by rw[Hid];omega⟩;have HN:=hid (hP.out.next (z:=z) (c':=0) (by rw[a0K HX.out,a0K HY.out];omega) hz1' (by omega));clear hz0' hz1';have q1:decide ((x:Int)-1-(y:Int)<0)=false:=by simp<;>omega
   rotate_left 4
   focus
    skip
    rcases (show c=0\/c=1 by omega) with rfl | rfl
    focus
     obtain rfl:C=0:=by omega
     clear hC;by_cases hneg:x<0+0
     .omega
     focus
      obtain⟨z,hz0',hz1',hzI⟩:∃ z:Nat,x+1000000000*0=z+0+0/\z<1000000000/\Hid ((↑x:Int)=(z:Int)):=⟨((↑x:Int)).toNat,by omega,by omega,by rw[Hid];omega⟩;have HN:=hid (hP.out.next (z:=z) (c':=0) (by rw[a0K HX.out,b0f (by rw[HB.out];omega)];omega) hz1' (by omega));clear hz0' hz1';have q1:decide ((x:Int)<0)=false:=by simp<;>omega
    rotate_left
    focus
     obtain rfl:C=1:=by omega
     clear hC;by_cases hneg:x<0+1
     focus
      obtain⟨z,hz0',hz1',hzI⟩:∃ z:Nat,x+1000000000*1=z+1+0/\z<1000000000/\Hid ((↑x-1+1000000000:Int)=(z:Int)):=⟨((↑x-1+1000000000:Int)).toNat,by omega,by omega,by rw[Hid];omega⟩;have HN:=hid (hP.out.next (z:=z) (c':=1) (by rw[a0K HX.out,b0f (by rw[HB.out];omega)];omega) hz1' (by omega));clear hz0' hz1';have q1:decide ((x:Int)-1<0)=true:=by simp<;>omega
     rotate_left
     focus
      obtain⟨z,hz0',hz1',hzI⟩:∃ z:Nat,x+1000000000*0=z+1+0/\z<1000000000/\Hid ((↑x-1:Int)=(z:Int)):=⟨((↑x-1:Int)).toNat,by omega,by omega,by rw[Hid];omega⟩;have HN:=hid (hP.out.next (z:=z) (c':=0) (by rw[a0K HX.out,b0f (by rw[HB.out];omega)];omega) hz1' (by omega));clear hz0' hz1';have q1:decide ((x:Int)-1<0)=false:=by simp<;>omega
   all_goals
    clear hneg;go_wp2_with (at_builtin;refine Bo _ rfl _ _ 79 rfl w.heap.size 3 i0 (.int .i64 0) 1 8 Kl hi hz0 hz1 hz2 rfl (by decide) _ s.length _ rfl (hO.out.alloc _) ⟨wr.heap.size,0,none⟩ 1 1 [_] rfl rfl (Eh wr _ _) (by simp[Value.oneCell']) (by unfold maxLen;omega) (by omega) (by have:=hB.out.size;simp;omega) ?_;intro v' w3 hown3 hgrow3 _;have HO3:=hid hown3;have HG3:=hid hgrow3;clear hown3 hgrow3)
    obtain⟨n1,n2⟩:=e0C hO.out hB.out HO3.out HG3.out hzI.out;obtain⟨N1,N2⟩:=zg n1 n2;clear n1 n2 HO3 HG3;obtain⟨a3,k3,rfl⟩:=b0k N1.out;go_wp2_with fail;go_roundw
    case rel=>exact⟨s ++ [z],_,_,by simp,rfl,by simp,by omega,by simp<;>omega,HN,N1,N2⟩
    case measure=>simp[intOf]<;>omega
  .obtain rfl:s.length=n:=by omega
   have hv:=hid (hP.out.done HA.out.symm HL.out);go_wp2_with (go_at_call 222;refine (c0O _ _ _ s hP.out.sm (Row.of_owns hO.out)).mono ?_;rintro e w1 ⟨⟨m1,rfl,hv1⟩,rfl⟩)
   go_ret
   exact⟨⟨_,rfl,by rw[<- hv.out];exact hv1,fun g hg=>(hO.out.lt g (by cases ao<;>exact hg)).1⟩,hB.out⟩
def e0B (w:World)(v u:Value)(a b:Nat)(ha:IsN .i64 w v a)(hb:IsN .i64 w u b)(hle:b<=a)(hla:(limbs a).length<=1000000):
 Calls Tryz.prog 177 #[v,u] w fun e w'=>h0H .i64 (a-b) e w'/\Below w.heap.size w w':=
 (q0a w v u a b ha hb hle hla).mono fun _ _ h=>⟨h.1.ret,h.2⟩
open Go.Shelf
def k0o {w0 w w1 w3:World}{t:TypeId}{v:Value}{m:Nat}{vs:List Value}{o:Obj}(h:w.ownsRow w0.heap.size t 1 v m vs)(h0:Below w0.heap.size w0 w)(hb:Below w.heap.size w w1)(hg:(w1.alloc o).grownBy w3 v.ownBlock):Below w0.heap.size w0 w3:=by
 have h1:Below w0.heap.size w0 (w1.alloc o):=(h0.trans (hb.mono h0.size)).alloc (h0.trans (hb.mono h0.size)).size _;refine h1.trans ⟨hg.os,hg.tape,hg.output,hg.size,fun j hj=>hg.block j (H6 hj h1.size) fun e=>?_⟩;have:=(h.lt j e.symm).1;omega
def d0s {k:IntKind}{w:World}{v:Value}{n:Nat}{a:Addr}(h:IsN k w v n)(hne:n=0\/v.ownBlock≠some a.block)(x:Value):IsN k (w.setCell a x) v n:=by
 obtain⟨a',c,rfl,h1,h2,h3⟩:=h.ex;rw[ints_length]at *;refine⟨a',c,by rw[ints_length],by rw[ints_length];exact h1,h2,fun i y hy=>?_⟩;obtain⟨g,o,rfl,hg',hc⟩:=h3 i y hy;rcases hne with rfl | hne
 .rw[limbs_zero]at hy;simp[b0q]at hy
 .refine⟨g,o,rfl,by simpa[World.setCell]using hg',?_⟩;have hb:g≠a.block:=fun e=>hne (by rw[<- e];rfl)
  rw[<- hc];unfold World.setCell World.cell?;simp[Cp,Od hb]
structure NTab (B:Nat)(w:World)(g m c:Nat)(f:Nat->Nat):Prop where
 ex:∃ vs,w.ownsRow B 79 1 (.slice (some ⟨g,0,none⟩) m c) m vs/\∀ j x,vs[j]?=some x->IsN .i64 w x (f j)/\(f j=0\/∀ g',x.ownBlock=some g'->B<=g'/\g'≠g)
theorem NTab.slot {B:Nat}{w:World}{g m c:Nat}{f:Nat->Nat}(h:NTab B w g m c f):B<=g/\g<w.heap.size/\m<=c/\c<=9223372036854775807/\∀ i,w.frozen? ⟨g,i,none⟩=false:=by
 obtain⟨vs,h1,h2⟩:=h.ex;have hs:=g0d h1;exact⟨hs.1,hs.2.1,hs.2.2.2.2.2.1,hs.2.2.2.2.1,hs.2.2.1⟩
theorem NTab.call {B:Nat}{w w':World}{g m c:Nat}{f:Nat->Nat}(h:NTab B w g m c f)(hb:Below w.heap.size w w'):NTab B w' g m c f:=by
 obtain⟨vs,h1,h2⟩:=h.ex;exact⟨vs,h1.kept (b0W hb none) (by simp[Value.ownBlock]),fun j x hx=>⟨(h2 j x hx).1.call hb,(h2 j x hx).2⟩⟩
theorem NTab.at {B:Nat}{w:World}{g m c:Nat}{f:Nat->Nat}(h:NTab B w g m c f){i:Nat}(hi:i<m):∃ x,w.cell? ⟨g,i,none⟩=some x/\IsN .i64 w x (f i)/\(f i=0\/∀ g',x.ownBlock=some g'->B<=g'/\g'≠g):=by
 obtain⟨vs,h1,h2⟩:=h.ex;have hl:vs.length=m:=by have:=h1.1;omega
 obtain⟨x,hx⟩:∃ x,vs[i]?=some x:=⟨_,J0 (by omega)⟩;exact⟨x,(g0d h1).2.2.2.1 i x hx,(h2 i x hx).1,(h2 i x hx).2⟩
theorem NTab.row {B:Nat}{w:World}{g m c:Nat}{f:Nat->Nat}(h:NTab B w g m c f):NRow w (.slice (some ⟨g,0,none⟩) m c) m f:=by
 obtain⟨vs,h1,h2⟩:=h.ex;exact⟨vs,by have:=h1.1;omega,Row.of_owns h1,fun j x hx=>(h2 j x hx).1⟩
theorem NTab.fn {B:Nat}{w:World}{g m c:Nat}{f f':Nat->Nat}(h:NTab B w g m c f)(e:∀ i,i<m->f i=f' i):NTab B w g m c f':=by
 obtain⟨vs,h1,h2⟩:=h.ex;have hl:vs.length=m:=by have:=h1.1;omega
 refine⟨vs,h1,fun j x hx=>?_⟩;rw[<- e j (by have:=(O4.1 hx).1;omega)];exact h2 j x hx
theorem NTab.put {B:Nat}{w:World}{g m c n:Nat}{f:Nat->Nat}{x:Value}(h:NTab B w g m c f)(i:Nat)(hx:IsN .i64 w x n)(hne:n=0\/∀ g',x.ownBlock=some g'->B<=g'/\g'≠g):NTab B (w.setCell ⟨g,i,none⟩ x) g m c (fun j=>if j=i then n else f j):=by
 obtain⟨vs,h1,h2⟩:=h.ex;refine⟨vs.set i x,q0n h1 i x,fun j y hy=>?_⟩;rw[Ge]at hy;by_cases hj:i=j
 .subst hj;rw[U0 rfl]at hy
  split at hy
  .obtain rfl:=K9 hy;rw[U0 rfl];refine⟨d0s hx (hne.imp id fun e e'=>(e _ e').2 rfl) _,hne⟩
  .cases hy
 .rw[Q0 hj]at hy;rw[Q0 (fun e=>hj e.symm)];obtain⟨k1,k2⟩:=h2 j y hy;exact⟨d0s k1 (k2.imp id fun e e'=>(e _ e').2 rfl) _,k2⟩
theorem NTab.other {B:Nat}{w:World}{g m c:Nat}{f:Nat->Nat}(h:NTab B w g m c f){a:Addr}(ha:a.block<B)(x:Value):NTab B (w.setCell a x) g m c f:=by
 obtain⟨vs,h1,h2⟩:=h.ex;refine⟨vs,?_,fun j y hy=>?_⟩
 .refine⟨h1.1,?_⟩;rcases h1.2 with h0 | ⟨g',cap,cur,e,k1,k2,k3⟩
  .exact .inl h0
  .refine .inr ⟨g',cap,cur,e,k1,?_,k3⟩;have hg:g'≠a.block:=by omega
   rw[<- k2];unfold World.setCell;simp[Cp,Od hg]
 .obtain⟨k1,k2⟩:=h2 j y hy;exact⟨d0s k1 (k2.imp id fun e e'=>by have:=(e _ e').1;omega) _,k2⟩
theorem NTab.mono {B B':Nat}{w:World}{g m c:Nat}{f:Nat->Nat}(h:NTab B w g m c f)(hB:B'<=B):NTab B' w g m c f:=by
 obtain⟨vs,h1,h2⟩:=h.ex;refine⟨vs,⟨h1.1,?_⟩,fun j y hy=>?_⟩
 .rcases h1.2 with h0 | ⟨g',cap,cur,e,k1,k2,k3⟩
  .exact .inl h0
  .exact .inr ⟨g',cap,cur,e,by omega,k2,k3⟩
 .obtain⟨k1,k2⟩:=h2 j y hy;exact⟨k1,k2.imp id fun e g' hg=>⟨by have:=(e g' hg).1;omega,(e g' hg).2⟩⟩
theorem NTab.of {B:Nat}{w:World}{v:Value}{m:Nat}(h:NOwn B w v (m+1) (fun _=>0)):∃ g c,v=.slice (some ⟨g,0,none⟩) (m+1) c/\NTab B w g (m+1) c (fun _=>0):=by
 obtain⟨vs,h1,h2⟩:=id h;obtain⟨g,c,rfl,k1,k2⟩:=h1.form (Ew m);exact⟨g,c,rfl,vs,h1,fun j x hx=>⟨(h2 j x hx).1,.inl rfl⟩⟩
open Go.Lib (decDigits nDigits)
def m0F (w:World)(v:Value)(m n:Nat)(hv:IsN .i64 w v m)(hn:n<=256)(hm:m<=2 ^ 256):
 Calls Tryz.prog 220 #[v,.int .i64 (n:Nat)] w fun e w'=>e=.returned (.string (shB m (2 ^ n)))/\Below w.heap.size w w':=by
 have RT:=fun V=>hid (m0E V n (by omega))
 obtain⟨t,ht⟩:=gn (2 ^ n);rw[ht]at RT |-;have tle:t<=2 ^ 256:=by rw[<- ht];exact Z4 (by omega) (by omega)
 have tpos:t≠0:=by rw[<- ht];exact Ob (Ej (by omega))
 have big:∀ x,x<=2 ^ 256->nDigits x<=78:=fun x hx=>a0j (by omega) (Cn hx (by decide))
 have dm:=big m hm;have dt:=big t tle;have LM:Hid ((limbs m).length<=1000000):=a0w (by omega);have LT:Hid ((limbs t).length<=1000000):=a0w (by omega);have RM:=fun V=>hid (l0n V m t (by omega) (by omega) tpos)
 have V0:=hid hv;clear hv ht tle tpos big hm dm dt;go_enter Tryz.func220,Tryz.ntmps220;go_wp2_with fail;refine (a0P _ _ _ V0.out LM.out).mono ?_;rintro e w1 ⟨rfl,hb1⟩;have B1:=hid hb1;clear hb1;go_wp2_with fail;refine (RT _).out.mono ?_;rintro e w2 ⟨⟨v2,rfl,hv2⟩,hb2⟩;obtain⟨V2,B2⟩:=zg hv2 (a0a B1.out hb2);clear hv2 hb2;go_wp2_with fail;refine (a0P _ _ _ V2.out LT.out).mono ?_;rintro e w3 ⟨rfl,hb3⟩;have B3:=hid (a0a B2.out hb3);clear hb3;go_wp2_with fail;refine (RM _).out.mono ?_;rintro e w4 ⟨rfl,hb4⟩;have B4:=hid (a0a B3.out hb4);clear hb4;go_wp2_with fail;go_ret
 exact⟨rfl,B4.out⟩
def tb (l:List UInt8):ByteArray:=⟨l.toArray⟩
def ltB (x z:ByteArray):Bool:=Op.bytesLess x.toList z.toList
def h0G (L:List (ByteArray×ByteArray))(key p:ByteArray):List (ByteArray×ByteArray):=
 if p=⟨#[48]⟩ then L else L.takeWhile (fun x=>ltB x.1 key)++(key,p)::L.dropWhile (fun x=>ltB x.1 key)
def m0q {L:List (ByteArray×ByteArray)}{f:ByteArray×ByteArray->Bool}:∀ {k:Nat},(∀ j x,j<k->L[j]?=some x->f x=true)->(∀ x,L[k]?=some x->f x=false)->L.takeWhile f=L.take k/\L.dropWhile f=L.drop k:=by
 induction L with
 | nil=>intro k _ _;simp
 | cons a r ih=>
  intro k h1 h2;cases k with
  | zero=>
   have:=h2 a (by simp);simp[this]
  | succ k=>
   have ha:=h1 0 a (by omega) (by simp);obtain⟨e1,e2⟩:=ih (k:=k) (fun j x hj hx=>h1 (j+1) x (by omega) (by simpa using hx)) (fun x hx=>h2 x (by simpa using hx));simp[ha,e1,e2]
def Nz:=@List.map_toArray
def Oc:=@List.map_nil
def a0F {P:Program}(w:World){ops:Array Oper}{o:Oper}{a:Act}{K:Act->World->Prop}{Q:Exit->Act->World->Prop}{E:Prop}(hgd:o.guard=none)(s x:Operand)(t:TypeId)
 (ho:o.op=.call { callee:=.builtin .append,args:=#[s,x],argTypes:=#[t,t] })
 (base:Nat) (e:TypeId) (i:TypeInfo) (z:Value) (size bytes:Nat) (ht:P.underlying t=some (.slice e)) (hi:P.info? e=some i) (hz:i.zero=some z)
 (hsize:i.size=size) (hby:i.bytes=bytes) (hzs:z.cells.size=size) (hsz:0<size)
 (v:Value) (n:Nat) (xs:List Value) (hs:a.eval s=v) (hown:w.ownsRow base e size v n xs) (hv:v ≠ .slice none 0 0)
 (ao:Option Addr) (m c:Nat) (news:List Value) (hx:a.eval x=.slice ao m c) (hl:news.length=m*size) (hnews:∀ j u,news[j]?=some u->∃ ad,ao=some ad/\w.cell? (ad.add j)=some u) (h1:∀ u∈news,u.oneCell'=true)
 (h63:n+m<=maxLen) (hbytes:(n+m)*bytes<=140737488355328) (hbase:base<=w.heap.size)
 (h:∀ v' w',w'.ownsRow base e size v' (n+m) (xs++news)->w.grownBy w' v.ownBlock->v' ≠ .slice none 0 0->K (a.put o.dst v') w'):
 if Region.wanted o (yielded ops a.tmps)=true then Oper.wp P o a w K Q else E:=by
 have hw:Region.wanted o (yielded ops a.tmps)=true:=by simp[Region.wanted,hgd]
 rw[U0 hw];have key:∃ v' w',(Builtin.append_ #[t,t] o.type #[v,.slice ao m c]).run P w=.ok v' w'/\w'.ownsRow base e size v' (n+m) (xs++news)/\w.grownBy w' v.ownBlock/\v' ≠ .slice none 0 0:=by
  cases ao with
  | some ad=>
   obtain⟨v',w',hr,k1,k2,k3,-⟩:=run_append_own_at (P:=P) w base t o.type e i z size bytes ht hi hz hsize hby hzs hsz v n xs hown ad m c news hl (fun j u hu=>by obtain⟨ad',e',hc⟩:=hnews j u hu;cases e';exact hc) h1 h63 hbytes hbase;exact⟨v',w',hr,k1,k2,fun e=>hv (k3.1 e).1⟩
  | none=>
   have hn:news = []:=by
    cases news with
    | nil=>rfl
    | cons u r=>obtain⟨ad,e,_⟩:=hnews 0 u rfl;cases e
   subst hn;have hm:m=0:=by
    rcases H7 m with h | h
    .exact h
    .have:=Eb h hsz;simp at hl;omega
   subst hm;refine⟨v,w,?_,by simpa using hown,⟨rfl,rfl,rfl,Z3 _,fun _ _ _=>rfl⟩,hv⟩;rcases hown.2 with ⟨e,_⟩ | ⟨g,cap,cur,rfl,hb,hg,h1',h2',h3',h4'⟩
   .exact absurd e hv
   .simp[Builtin.append_,run_underlying ht,sizeOf,typeInfo,hi,Builtin.lenOf,Builtin.firstCells,loadCells,loadCellsFrom,storeCells,h1']
 obtain⟨v',w',hr,h2,h3,h4⟩:=key;unfold Oper.wp execOp;simp only[ho,resolve,invoke,builtin,Sem.run_bind,Sem.run_pure,Result.andThen_ok,Nz,Jr,Oc,hs,hx,hr];exact h v' w' h2 h3 h4
def c0P (M:List (ByteArray×ByteArray)):∀ u∈a0R M,u.oneCell'=true:=by
 intro u hu;obtain⟨x,_,hx⟩:=Io.1 hu;simp at hx;rcases hx with rfl | rfl<;>rfl
def c0k (M:List (ByteArray×ByteArray))(x y:ByteArray):a0R (M ++ [(x,y)])=a0R M ++ [.string x,.string y]:=b0m _ _
def e0g {W:World}{g:Nat}:∀ {M:List (ByteArray×ByteArray)} {O:Nat},(∀ (i:Nat) (y:ByteArray×ByteArray),M[i]?=some y->W.cell? ⟨g,O+2*i,none⟩=some (.string y.1)/\W.cell? ⟨g,O+2*i+1,none⟩=some (.string y.2))->∀ (j:Nat) (u:Value),(a0R M)[j]?=some u->W.cell? ⟨g,O+j,none⟩=some u:=by
 intro M
 induction M with
 | nil=>intro O _ j u hu;simp[a0R]at hu
 | cons q r ih=>
  intro O h j u hu;have e:a0R (q::r)=.string q.1 :: .string q.2::a0R r:=rfl;rw[e]at hu
  match j,hu with
  | 0,hu=>simp at hu;subst hu;exact (h 0 q rfl).1
  | 1,hu=>simp at hu;subst hu;exact (h 0 q rfl).2
  | j+2,hu=>
   have:=ih (O:=O+2) (fun i y hy=>by
    have:=h (i+1) y (by simpa using hy);rw[show O+2*(i+1)=O+2+2*i by omega]at this;exact this) j u (by simpa using hu)
   rw[show O+(j+2)=O+2+j by omega];exact this
def l0y {W:World}{B:Nat}{x y:ByteArray}{t:TypeId}{fr:Nat×Nat}(h:W.heap[B]?=some (.cells #[.string x,.string y] t fr)):∀ (j:Nat) (u:Value),[Value.string x,Value.string y][j]?=some u->∃ ad,some (⟨B,0,none⟩:Addr)=some ad/\W.cell? (ad.add j)=some u:=fun j u hu=>⟨_,rfl,World.news_of_block h j u hu⟩
def b0A {w0 W w3:World}{t:TypeId}{z:Nat}{v:Value}{m:Nat}{vs:List Value}(h:W.ownsRow w0.heap.size t z v m vs)(h0:Below w0.heap.size w0 W)(hg:W.grownBy w3 v.ownBlock):Below w0.heap.size w0 w3:=by
 refine h0.trans ⟨hg.os,hg.tape,hg.output,hg.size,fun j hj=>hg.block j (H6 hj h0.size) fun e=>?_⟩;have:=(h.lt j e.symm).1;omega
def a0v {w X:World}{B:Nat}{t:TypeId}(hB:X.heap.size=B)(h:w.heap.size<=X.heap.size):(X.alloc (.cells #[] t)).ownsRow w.heap.size t 2 (.slice (some ⟨B,0,none⟩) 0 0) 0 []:=by subst hB;exact Jn _ _ 0 h (by unfold maxLen;omega) rfl
def Ia:=@Go.Addr.mk.injEq
def Ga:=@Go.heap_alloc_new
def Br:=@Go.Proofs.Tryz.underlying37
def Gl:=@List.drop_eq_nil_of_le
def m0D (w:World)(v:Value)(L:List (ByteArray×ByteArray))(key p:ByteArray)(hv:MRow w v L)(hn:L.length<=1000000):
 Calls Tryz.prog 74 #[v,.string key,.string p] w fun e w'=>(∃ u,e=.returned u/\MRow w' u (h0G L key p))/\Below w.heap.size w w':=by
 obtain⟨i0,hi,hz0,hz1,hz2⟩:=Cl e0N;have HV:=hid hv;obtain⟨a,c,rfl,h1,h2,h3⟩:=hv.ex;obtain⟨n,hN⟩:=gn (L.length);rw[hN]at h1 HV hn |-;obtain⟨HN,H3⟩:=zg hN h3;clear hv h3 hN;by_cases hp:p=⟨#[48]⟩
 .have e:Hid (h0G L key p=L):=by show h0G L key p=L;rw[h0G,U0 hp]
  rw[e.out];have q0:(p.toList == [48])=true:=by subst hp;rw[Cw];rfl
  clear hp e;go_enter Tryz.func74,Tryz.ntmps74;go_wp2_with fail;go_ret
  exact⟨⟨_,rfl,HV.out⟩,J3 _ _⟩
 .have E:Hid (h0G L key p=L.takeWhile (fun x=>ltB x.1 key)++(key,p)::L.dropWhile (fun x=>ltB x.1 key)):=by show h0G L key p=_;rw[h0G,Q0 hp]
  have q0:(p.toList == [48])=false:=a0I hp;rw[E.out];clear hp E;go_enter Tryz.func74,Tryz.ntmps74;go_wp2_with fail
  go_loop [7] (fun ii=>∃ k:Nat,ii=.int .i64 k/\k<=n/\Hid (∀ j x,j<k->L[j]?=some x->ltB x.1 key=true)) (fun ii=>n-(intOf ii).toNat)
  case atStart=>exact⟨0,rfl,J5 _,fun j x hj=>absurd hj (by omega)⟩
  case round=>
   obtain⟨k,rfl,hk,hI⟩:=hrel;have c1:(0:Int)<=(k:Int):=by omega
   by_cases hlt:k<n
   .obtain⟨x,hx⟩:∃ x,L[k]?=some x:=⟨_,J0 (by rw[HN.out];exact hlt)⟩;obtain⟨g,o,rfl,hg,hc,-⟩:=H3.out k x hx;have HX:=hid hx;rw[E9 2 k]at hc;have c2:(k:Int)<(n:Int):=by omega
    have wi:IntKind.i64.wrap ((k:Int)+1)=((k+1:Nat):Int):=by rw[O0 _ ⟨by omega,by omega⟩];omega
    obtain⟨lb,hlb⟩:=gn (Op.bytesLess x.1.toList key.toList);have HLB:=hid (show ltB x.1 key=lb from hlb);clear hx;have SRC1:Hid (∀ W,Below w.heap.size w W->∀ j u,(a0R (L.take k))[j]?=some u->∃ ad,some (⟨g,o,none⟩:Addr)=some ad/\W.cell? (ad.add j)=some u):=fun W hW j u hu=>by
     refine⟨_,rfl,?_⟩;rw[Addr.add_lit];refine e0g (fun i y hy=>?_) j u hu;rw[Bu]at hy
     split at hy
     .obtain⟨g',o',e,k0,k1,k2⟩:=H3.out i y hy;simp only[At,Ia]at e;obtain⟨rfl,rfl,-⟩:=e;exact⟨(hW.cell (p:=⟨g,_,none⟩) hg).trans k1,(hW.cell (p:=⟨g,_,none⟩) hg).trans k2⟩
     .cases hy
    have SRC2:Hid (∀ W,Below w.heap.size w W->∀ j u,(a0R (L.drop k))[j]?=some u->∃ ad,some (⟨g,o+k*2,none⟩:Addr)=some ad/\W.cell? (ad.add j)=some u):=fun W hW j u hu=>by
     refine⟨_,rfl,?_⟩;rw[Addr.add_lit];refine e0g (fun i y hy=>?_) j u hu;rw[Cm]at hy;obtain⟨g',o',e,k0,k1,k2⟩:=H3.out _ y hy;simp only[At,Ia]at e;obtain⟨rfl,rfl,-⟩:=e;rw[show o+2*(k+i)=o+k*2+2*i by omega]at k1 k2;exact⟨(hW.cell (p:=⟨g,_,none⟩) hg).trans k1,(hW.cell (p:=⟨g,_,none⟩) hg).trans k2⟩
    have SL1:Hid ((a0R (L.take k)).length=k*2):=by show _=_;rw[b0v,K5 (by rw[HN.out];omega)]
    have SL2:Hid ((a0R (L.drop k)).length=(n-k)*2):=by show _=_;rw[b0v,S9,HN.out]
    have MZ2:Hid (((w.alloc (.cells #[] 42)).alloc (.cells #[.string key,.string p] 42)).drew.heap[w.heap.size+1]?=some (.cells #[.string key,.string p] 42 (0,0))):=by
     have:=Ga (w.alloc (.cells #[] 42)) (.cells #[.string key,.string p] 42);rw[show (w.alloc (.cells #[] 42)).heap.size=w.heap.size+1 from by simp]at this;exact this
    have MZ3:Hid (((w.alloc (.cells #[.string key,.string p] 42)).alloc (.cells #[] 42)).drew.heap[w.heap.size]?=some (.cells #[.string key,.string p] 42 (0,0))):=(heap_alloc_old (w.alloc (.cells #[.string key,.string p] 42)) (.cells #[] 42) _ (by simp)).trans (Ga w (.cells #[.string key,.string p] 42));have d1:(k:Int)<=(c:Int):=by omega
    have d2:(k:Int)<=(n:Int):=by omega
    have d4:¬ c=k:=by omega
    cases lb
    .have TK:=hid (m0q (L:=L) (f:=fun x=>ltB x.1 key) (k:=k) hI.out (fun y hy=>by have:=HX.out;rw[hy]at this;cases this;exact HLB.out));go_wp2_with fail
     go_region_held3 (fun _=>True) (first | trivial)
      (first
       | (refine a0F _ rfl _ _ _ rfl w.heap.size 42 i0 _ 2 32 Br hi hz0 hz1 hz2 rfl (by decide) (.slice (some ⟨_,0,none⟩) 0 0) 0 [] rfl (by first | exact (a0v rfl nr).drew | exact ((a0v rfl nr).alloc _).drew | exact (a0v (by simp) (by simp)).drew) (by intro e;cases e) (some ⟨g,o,none⟩) k c (a0R (L.take k)) rfl SL1.out (SRC1.out _ (by first | exact (br0.alloc nr _).drew | exact ((br0.alloc nr _).alloc (by simp) _).drew)) (c0P _) (by unfold maxLen;omega) (by omega) (by simp<;>omega) ?_;intro v1 w1 hown1 hg1 hne1;have B1:Hid (Below w.heap.size w w1):=b0A (w0:=w) (w3:=w1) (by first | exact (a0v rfl nr).drew | exact ((a0v rfl nr).alloc _).drew | exact (a0v (by simp) (by simp)).drew) (by first | exact (br0.alloc nr _).drew | exact ((br0.alloc nr _).alloc (by simp) _).drew) hg1;have O1:=hid (show w1.ownsRow w.heap.size 42 2 v1 k (a0R (L.take k)) from by rw[U7]at hown1;exact hown1);have NE1:=hid hne1;have HG1:=hid hg1;clear hown1 hg1 hne1)
       | (refine a0F _ rfl _ _ _ rfl w.heap.size 42 i0 _ 2 32 Br hi hz0 hz1 hz2 rfl (by decide) v1 k _ rfl (by first | exact O1.out | exact O1.out.alloc _) NE1.out (some ⟨_,0,none⟩) 1 1 [.string key,.string p] rfl rfl (l0y (by first | exact Ga _ _ | exact (HG1.out.block (w.heap.size+1) (by simp<;>omega) (by simp[Value.ownBlock])).trans MZ2.out | exact (HG1.out.block w.heap.size (by simp<;>omega) (by simp[Value.ownBlock])).trans MZ3.out)) (by simp[Value.oneCell']) (by unfold maxLen;omega) (by omega) (by first | exact B1.out.size | exact (B1.out.alloc B1.out.size _).size) ?_;intro v2 w2 hown2 hg2 hne2;have B2:Hid (Below w.heap.size w w2):=b0A (w0:=w) (w3:=w2) (by first | exact O1.out | exact O1.out.alloc _) (by first | exact B1.out | exact B1.out.alloc B1.out.size _) hg2;have O2:=hid hown2;have NE2:=hid hne2;clear hown2 hg2 hne2)
       | (refine a0F _ rfl _ _ _ rfl w.heap.size 42 i0 _ 2 32 Br hi hz0 hz1 hz2 rfl (by decide) v2 (k+1) _ rfl O2.out NE2.out (some ⟨g,o+k*2,none⟩) (n-k) (c-k) (a0R (L.drop k)) rfl SL2.out (SRC2.out _ B2.out) (c0P _) (by unfold maxLen;omega) (by omega) (by exact B2.out.size) ?_;intro v3 w3 hown3 hg3 hne3;have O3:=hid hown3;have B3:Hid (Below w.heap.size w w3):=b0A (w0:=w) (w3:=w3) O2.out B2.out hg3;clear hown3 hg3 hne3))
     all_goals
      have OF:=O3.out;rw[<- c0k,<- b0m]at OF;go_wp2_with fail
      all_goals
       go_ret
       refine⟨⟨_,rfl,?_⟩,B3.out⟩;rw[TK.out.1,TK.out.2];have:=MRow.of_owns OF;rwa[Ai]at this
    .go_wp2_with fail;go_round
     case rel=>
      refine⟨k+1,by go_num,by omega,fun j y hj hy=>?_⟩;rcases Cz j k with h | h
      .exact hI.out j y h hy
      .obtain rfl:j=k:=by omega
       have:=HX.out;rw[hy]at this;cases this;exact HLB.out
     case measure=>simp[intOf]<;>omega
   .obtain rfl:k=n:=by omega
    have SRC1:Hid (∀ W,Below w.heap.size w W->∀ j u,(a0R (L.take k))[j]?=some u->∃ ad,a=some ad/\W.cell? (ad.add j)=some u):=fun W hW j u hu=>by
     obtain⟨x0,hx0⟩:∃ x0,L[0]?=some x0:=by
      cases hL:L with
      | nil=>rw[hL]at hu;simp[a0R]at hu
      | cons x r=>exact⟨x,rfl⟩
     obtain⟨g,o,rfl,hg,-,-⟩:=H3.out 0 x0 hx0;refine⟨_,rfl,?_⟩;rw[Addr.add_lit];refine e0g (fun i y hy=>?_) j u hu;rw[Bu]at hy
     split at hy
     .obtain⟨g',o',e,k0,k1,k2⟩:=H3.out i y hy;simp only[At,Ia]at e;obtain⟨rfl,rfl,-⟩:=e;exact⟨(hW.cell (p:=⟨g,_,none⟩) hg).trans k1,(hW.cell (p:=⟨g,_,none⟩) hg).trans k2⟩
     .cases hy
    have DN:Hid (L.drop k = []):=Gl (by rw[HN.out];exact Z3 _);have SRC2:Hid (∀ (ao:Option Addr) W,Below w.heap.size w W->∀ j u,(a0R (L.drop k))[j]?=some u->∃ ad,ao=some ad/\W.cell? (ad.add j)=some u):=fun ao W hW j u hu=>by
     rw[DN.out]at hu;simp[a0R]at hu
    have SL1:Hid ((a0R (L.take k)).length=k*2):=by show _=_;rw[b0v,K5 (by rw[HN.out];exact Z3 _)]
    have SL2:Hid ((a0R (L.drop k)).length=0*2):=by show _=_;rw[DN.out];rfl
    have MZ2:Hid (((w.alloc (.cells #[] 42)).alloc (.cells #[.string key,.string p] 42)).drew.heap[w.heap.size+1]?=some (.cells #[.string key,.string p] 42 (0,0))):=by
     have:=Ga (w.alloc (.cells #[] 42)) (.cells #[.string key,.string p] 42);rw[show (w.alloc (.cells #[] 42)).heap.size=w.heap.size+1 from by simp]at this;exact this
    have MZ3:Hid (((w.alloc (.cells #[.string key,.string p] 42)).alloc (.cells #[] 42)).drew.heap[w.heap.size]?=some (.cells #[.string key,.string p] 42 (0,0))):=(heap_alloc_old (w.alloc (.cells #[.string key,.string p] 42)) (.cells #[] 42) _ (by simp)).trans (Ga w (.cells #[.string key,.string p] 42));have d1:(k:Int)<=(c:Int):=by omega
    have d2:(k:Int)<=(k:Int):=by omega
    have TK:=hid (m0q (L:=L) (f:=fun x=>ltB x.1 key) (k:=k) hI.out (fun y hy=>by rw[U6 (by rw[HN.out];exact Z3 _)]at hy;cases hy));cases a
    .go_wp2_with fail
     go_region_held3 (fun _=>True) (first | trivial)
      (first
       | (refine a0F _ rfl _ _ _ rfl w.heap.size 42 i0 _ 2 32 Br hi hz0 hz1 hz2 rfl (by decide) (.slice (some ⟨_,0,none⟩) 0 0) 0 [] rfl (by first | exact (a0v rfl nr).drew | exact ((a0v rfl nr).alloc _).drew | exact (a0v (by simp) (by simp)).drew) (by intro e;cases e) _ k c (a0R (L.take k)) rfl SL1.out (SRC1.out _ (by first | exact (br0.alloc nr _).drew | exact ((br0.alloc nr _).alloc (by simp) _).drew)) (c0P _) (by unfold maxLen;omega) (by omega) (by simp<;>omega) ?_;intro v1 w1 hown1 hg1 hne1;have B1:Hid (Below w.heap.size w w1):=b0A (w0:=w) (w3:=w1) (by first | exact (a0v rfl nr).drew | exact ((a0v rfl nr).alloc _).drew | exact (a0v (by simp) (by simp)).drew) (by first | exact (br0.alloc nr _).drew | exact ((br0.alloc nr _).alloc (by simp) _).drew) hg1;have O1:=hid (show w1.ownsRow w.heap.size 42 2 v1 k (a0R (L.take k)) from by rw[U7]at hown1;exact hown1);have NE1:=hid hne1;have HG1:=hid hg1;clear hown1 hg1 hne1)
       | (refine a0F _ rfl _ _ _ rfl w.heap.size 42 i0 _ 2 32 Br hi hz0 hz1 hz2 rfl (by decide) v1 k _ rfl (by first | exact O1.out | exact O1.out.alloc _) NE1.out (some ⟨_,0,none⟩) 1 1 [.string key,.string p] rfl rfl (l0y (by first | exact Ga _ _ | exact (HG1.out.block (w.heap.size+1) (by simp<;>omega) (by simp[Value.ownBlock])).trans MZ2.out | exact (HG1.out.block w.heap.size (by simp<;>omega) (by simp[Value.ownBlock])).trans MZ3.out)) (by simp[Value.oneCell']) (by unfold maxLen;omega) (by omega) (by first | exact B1.out.size | exact (B1.out.alloc B1.out.size _).size) ?_;intro v2 w2 hown2 hg2 hne2;have B2:Hid (Below w.heap.size w w2):=b0A (w0:=w) (w3:=w2) (by first | exact O1.out | exact O1.out.alloc _) (by first | exact B1.out | exact B1.out.alloc B1.out.size _) hg2;have O2:=hid hown2;have NE2:=hid hne2;clear hown2 hg2 hne2)
       | (refine a0F _ rfl _ _ _ rfl w.heap.size 42 i0 _ 2 32 Br hi hz0 hz1 hz2 rfl (by decide) v2 (k+1) _ rfl O2.out NE2.out _ 0 _ (a0R (L.drop k)) rfl SL2.out (SRC2.out _ _ B2.out) (c0P _) (by unfold maxLen;omega) (by omega) (by exact B2.out.size) ?_;intro v3 w3 hown3 hg3 hne3;have O3:=hid hown3;have B3:Hid (Below w.heap.size w w3):=b0A (w0:=w) (w3:=w3) O2.out B2.out hg3;clear hown3 hg3 hne3))
     all_goals
      have OF:=O3.out;rw[<- c0k,<- b0m]at OF;go_wp2_with fail
      all_goals
       go_ret
       refine⟨⟨_,rfl,?_⟩,B3.out⟩;rw[TK.out.1,TK.out.2];have:=MRow.of_owns OF;rwa[Ai]at this
    .go_wp2_with fail
     go_region_held3 (fun _=>True) (first | trivial)
      (first
       | (refine a0F _ rfl _ _ _ rfl w.heap.size 42 i0 _ 2 32 Br hi hz0 hz1 hz2 rfl (by decide) (.slice (some ⟨_,0,none⟩) 0 0) 0 [] rfl (by first | exact (a0v rfl nr).drew | exact ((a0v rfl nr).alloc _).drew | exact (a0v (by simp) (by simp)).drew) (by intro e;cases e) _ k c (a0R (L.take k)) rfl SL1.out (SRC1.out _ (by first | exact (br0.alloc nr _).drew | exact ((br0.alloc nr _).alloc (by simp) _).drew)) (c0P _) (by unfold maxLen;omega) (by omega) (by simp<;>omega) ?_;intro v1 w1 hown1 hg1 hne1;have B1:Hid (Below w.heap.size w w1):=b0A (w0:=w) (w3:=w1) (by first | exact (a0v rfl nr).drew | exact ((a0v rfl nr).alloc _).drew | exact (a0v (by simp) (by simp)).drew) (by first | exact (br0.alloc nr _).drew | exact ((br0.alloc nr _).alloc (by simp) _).drew) hg1;have O1:=hid (show w1.ownsRow w.heap.size 42 2 v1 k (a0R (L.take k)) from by rw[U7]at hown1;exact hown1);have NE1:=hid hne1;have HG1:=hid hg1;clear hown1 hg1 hne1)
       | (refine a0F _ rfl _ _ _ rfl w.heap.size 42 i0 _ 2 32 Br hi hz0 hz1 hz2 rfl (by decide) v1 k _ rfl (by first | exact O1.out | exact O1.out.alloc _) NE1.out (some ⟨_,0,none⟩) 1 1 [.string key,.string p] rfl rfl (l0y (by first | exact Ga _ _ | exact (HG1.out.block (w.heap.size+1) (by simp<;>omega) (by simp[Value.ownBlock])).trans MZ2.out | exact (HG1.out.block w.heap.size (by simp<;>omega) (by simp[Value.ownBlock])).trans MZ3.out)) (by simp[Value.oneCell']) (by unfold maxLen;omega) (by omega) (by first | exact B1.out.size | exact (B1.out.alloc B1.out.size _).size) ?_;intro v2 w2 hown2 hg2 hne2;have B2:Hid (Below w.heap.size w w2):=b0A (w0:=w) (w3:=w2) (by first | exact O1.out | exact O1.out.alloc _) (by first | exact B1.out | exact B1.out.alloc B1.out.size _) hg2;have O2:=hid hown2;have NE2:=hid hne2;clear hown2 hg2 hne2)
       | (refine a0F _ rfl _ _ _ rfl w.heap.size 42 i0 _ 2 32 Br hi hz0 hz1 hz2 rfl (by decide) v2 (k+1) _ rfl O2.out NE2.out _ 0 _ (a0R (L.drop k)) rfl SL2.out (SRC2.out _ _ B2.out) (c0P _) (by unfold maxLen;omega) (by omega) (by exact B2.out.size) ?_;intro v3 w3 hown3 hg3 hne3;have O3:=hid hown3;have B3:Hid (Below w.heap.size w w3):=b0A (w0:=w) (w3:=w3) O2.out B2.out hg3;clear hown3 hg3 hne3))
     all_goals
      have OF:=O3.out;rw[<- c0k,<- b0m]at OF;go_wp2_with fail
      all_goals
       go_ret
       refine⟨⟨_,rfl,?_⟩,B3.out⟩;rw[TK.out.1,TK.out.2];have:=MRow.of_owns OF;rwa[Ai]at this
def q0Y {x z:ByteArray}:ltB x z=true ↔ ¬ z.data.toList<=x.data.toList:=by
 unfold ltB;rw[bytesLess_eq,Cw,Cw,S5];exact List.not_le.symm
def Nf:=@List.pairwise_cons
def e0S {key:ByteArray}:∀ {L:List (ByteArray×ByteArray)},L.Pairwise (fun p q=>leB (b0C p) (b0C q)=true)->∀ x∈L.dropWhile (fun x=>ltB x.1 key),leB key.data.toList (b0C x)=true:=by
 intro L
 induction L with
 | nil=>intro _ x hx;simp at hx
 | cons a r ih=>
  intro h x hx;obtain⟨h1,h2⟩:=Nf.1 h;by_cases ha:ltB a.1 key=true
  .rw[List.dropWhile_cons,U0 ha]at hx;exact ih h2 x hx
  .rw[List.dropWhile_cons,Q0 ha]at hx;have hle:leB key.data.toList (b0C a)=true:=by
    have:=mt q0Y.2 ha;unfold leB;rw[S5];exact Hz.1 this
   rcases Az.1 hx with rfl | hx
   .exact hle
   .exact h0b _ _ _ hle (h1 x hx)
def a1h {α : Type}{f : α->Bool}{x : α}:∀ {L:List α},x∈L.takeWhile f->f x=true:=by
 intro L
 induction L with
 | nil=>intro h;simp at h
 | cons a r ih=>
  intro h;by_cases ha:f a=true
  .rw[List.takeWhile_cons,U0 ha]at h;rcases Az.1 h with rfl | h
   .exact ha
   .exact ih h
  .rw[List.takeWhile_cons,Q0 ha]at h;simp at h
def z0P {L:List (ByteArray×ByteArray)}:L.Pairwise (fun x y=>x.1≠y.1)->∀ x∈L,∀ y∈L,x.1=y.1->x=y:=by
 induction L with
 | nil=>intro _ x hx;simp at hx
 | cons a r ih=>
  intro h x hx y hy e;obtain⟨h1,h2⟩:=Nf.1 h;rcases Az.1 hx with e1 | hx'<;>rcases Az.1 hy with e2 | hy'
  .rw[e1,e2]
  .rw[e1]at e;exact absurd e (h1 y hy')
  .rw[e2]at e;exact absurd e.symm (h1 x hx')
  .exact ih h2 x hx' y hy' e
def i0x {key:ByteArray}{L:List (ByteArray×ByteArray)}:∀ x∈L.takeWhile (fun x=>ltB x.1 key),leB (b0C x) key.data.toList=true:=fun x hx=>by
 have h:=a1h hx;have:=q0Y.1 h;unfold leB;rw[S5];rcases List.le_total (b0C x) key.data.toList with h' | h'
 .exact h'
 .exact absurd h' this
def Lo:=@List.pairwise_append
def h0q {L:List (ByteArray×ByteArray)}{key p:ByteArray}(hp:p≠⟨#[48]⟩)(hk:∀ x∈L,x.1≠key)(hn:L.Pairwise (fun x y=>x.1≠y.1)):h0G (a0B L) key p=a0B (L ++ [(key,p)]):=by
 rw[h0G,Q0 hp];have hs:=c0A L;have hperm:((a0B L).takeWhile (fun x=>ltB x.1 key)++(key,p)::(a0B L).dropWhile (fun x=>ltB x.1 key)).Perm (a0B (L ++ [(key,p)])):=by
  refine List.Perm.trans List.perm_middle ?_;rw[List.takeWhile_append_dropWhile];refine List.Perm.trans ?_ (Gk _ _).symm;exact (List.Perm.cons _ (Gk _ _)).trans (List.perm_append_singleton _ _).symm
 have hinj:∀ x∈L ++ [(key,p)],∀ y∈L ++ [(key,p)],x.1=y.1->x=y:=by
  have hpw:(L ++ [(key,p)]).Pairwise (fun x y=>x.1≠y.1):=by
   rw[Lo];exact⟨hn,by simp,fun a ha b hb=>by simp at hb;subst hb;exact hk a ha⟩
  exact z0P hpw
 refine List.Perm.eq_of_pairwise (le:=fun p q=>leB (b0C p) (b0C q)=true) ?_ ?_ (c0A _) hperm
 .intro a b ha hb h1 h2;have ha':a∈L ++ [(key,p)]:=c0e.1 (hperm.mem_iff.1 ha);have hb':b∈L ++ [(key,p)]:=c0e.1 hb;refine hinj a ha' b hb' ?_;simp only[leB,S5]at h1 h2;exact a0M (Ny h1 h2)
 .rw[Lo];refine⟨hs.sublist (List.takeWhile_sublist _),?_,fun a ha b hb=>?_⟩
  .rw[Nf];exact⟨fun x hx=>e0S hs x hx,hs.sublist (List.dropWhile_sublist _)⟩
  .have h1:=i0x a ha;rcases Az.1 hb with rfl | hb
   .exact h1
   .exact h0b _ _ _ h1 (e0S hs b hb)
end
section
open Go.RowKit
open Go.Lib (decDigits nDigits)
structure Few (ws:List Nat):Prop where
 len:ws.length<=64
 dig:∀ x∈ws,nDigits x<=300
 pos:0<ws.sum
section
variable {ws : List Nat} {m : Nat} (h : Few ws) (hm : m <= 256)
include h
include hm
omit hm
end
open Go.Shelf
def p0H {a b:Nat}(hb:b≠0)(h1:nDigits a<=4000)(h2:nDigits b<=4000)(ha:a≠0):shB a b≠⟨#[48]⟩:=fun e=>by
 rw[<- f0U b,h0P hb h1 h2,h0P hb (by rw[c0D];omega) h2]at e;have e':=congrArg vQ e;rw[f0v,f0v]at e';have h3:=(Rat.mkRat_eq_iff hb hb).1 e';have hp:0<a*b:=Eb (by omega) (by omega);omega
def p0r {x:Nat}(h:x<=2 ^ 256):nDigits x<=4000:=E0 (a0j (k:=78) (by omega) (Cn h (by decide))) (by omega)
end
section
open Go.RowKit
open Go.Lib (decDigits nDigits)
section
variable {g : Int -> Nat} {n : Nat} (hg : ∀ v : Int, v < 0 -> g v = 0) (hz : zS n g <= 2 ^ n)
include hg hz
omit hg hz in
omit hg hz in
end
def v0v (p:ByteArray×ByteArray):Bool:=decide (p.2≠⟨#[48]⟩)
def J8:=@Classical.byContradiction
def f0q {x m:Nat}(hx:x<=2 ^ m)(h:m<=1000):dyB x m=⟨#[48]⟩↔x=0:=
 ⟨fun e=>J8 fun h0=>p0H (d0V m) (h0E hx h) (h0E nr h) h0 e,fun e=>e ▸ l0L m⟩
def v0f {g:Int->Nat}{n:Nat}(hz:zS n g<=2 ^ n)(i:Nat):zS n g ^ i<=2 ^ (n*i):=by
 rw[Mf];exact Dn hz i
def sV (f:Int->Nat)(l:List Int):Nat:=(l.map f).sum
def Et:=@Option.toList_some
def w0F {f:Int->Nat}{l:List Int}{i:Nat}{v:Int}(h:l[i]?=some v):sV f (l.take (i+1))=sV f (l.take i)+f v:=by
 unfold sV;rw[Dr,h,Et,Ak,List.sum_append];simp
def b1t {f:Int->Nat}{l:List Int}(i:Nat):sV f (l.take i)<=sV f l:=by
 have e:sV f l=sV f (l.take i)+sV f (l.drop i):=by
  conv=>lhs;rw[<- Gn i l]
  unfold sV;rw[Ak,List.sum_append]
 omega
def w0G {f:Int->Nat}{l m:List Int}(h:l.Perm m):sV f l=sV f m:=(h.map f).sum_nat
def y0V (g:Int->Nat)(n:Nat)(l:List Int):Prop:=∀ f:Int->Nat,(∀ v,g v=0->f v=0)->sV f l=zS n f
section
variable {gA gC : Int -> Nat} {n : Nat} {kA kC : List Int} (hA : zS n gA <= 2 ^ n) (hC : zS n gC <= 2 ^ n) (rA : y0V gA n kA) (rC : y0V gC n kC)
end
def g0j {x m:Nat}(hx:x<=2 ^ m)(h:m<=1000):(dyB x m).size<=10000:=by unfold dyB shB;exact e0E _
def chV (g:Int->Nat)(n j:Nat):List Int:=((List.range j).map fun (i:Nat)=>(i:Int)-n).filter fun v=>decide (g v≠0)
def Ju:=@List.filter_append
def n0v (g:Int->Nat)(n j:Nat):chV g n (j+1)=chV g n j++if g ((j:Int)-n)=0 then [] else [(j:Int)-n]:=by
 unfold chV;rw[List.range_succ,Ak,Ju,List.map_singleton];by_cases h:g ((j:Int)-n)=0
 .simp[h]
 .simp[h]
def Mp:=@List.mem_filter
def s0n {g:Int->Nat}{n j:Nat}{v:Int}:v∈chV g n j ↔ ∃ i:Nat,i<j/\v=(i:Int)-n/\g v≠0:=by
 unfold chV;rw[Mp,Cc,Gv]
 constructor
 .rintro⟨⟨i,hi,rfl⟩,h⟩;exact⟨i,Dv.1 hi,rfl,h⟩
 .rintro⟨i,hi,rfl,h⟩;exact⟨⟨i,Dv.2 hi,rfl⟩,h⟩
def Kz:=@List.length_filter_le
def o0X (g:Int->Nat)(n j:Nat):(chV g n j).length<=j:=by
 unfold chV;refine E0 (Kz _ _) ?_;simp
def smV (f:Int->Nat)(l:List Int):Nat:=(l.map f).sum
def t0c (f:Int->Nat)(l:List Int)(v:Int):smV f (l ++ [v])=smV f l+f v:=by simp[smV]
theorem p0F {f g:Int->Nat}(hf:∀ v,g v=0->f v=0)(n:Nat):∀ j,smV f (chV g n j)=a0n (fun i=>f ((i:Int)-n)) j
 | 0=>rfl
 | j+1=>by
  rw[n0v,a0n,<- p0F hf n j]
  split
  .rename_i h
   rw[Bw,hf _ h,Ao]
  .rw[t0c]
def p0G {f g:Int->Nat}(hf:∀ v,g v=0->f v=0)(n:Nat):smV f (chV g n (2*n+1))=zS n f:=p0F hf n _
def chA (g:Int->Nat)(n:Nat):List Int:=chV g n (2*n+1)
def u0V {g:Int->Nat}{n:Nat}{v:Int}(h:v∈chA g n) : -(n:Int)<=v/\v<=n/\g v≠0:=by
 obtain⟨i,h1,rfl,h2⟩:=s0n.1 h;exact⟨by omega,by omega,h2⟩
def i0o (g:Int->Nat)(n:Nat):(chA g n).length<=2*n+1:=o0X g n _
def Km:=@List.pairwise_map
def h0r {L:List (ByteArray×ByteArray)}{k p:ByteArray}(hnd:((L ++ [(k,p)]).map b0C).Nodup):h0G (a0B (L.filter v0v)) k p=a0B ((L ++ [(k,p)]).filter v0v):=by
 rw[Ak,Hc]at hnd;obtain⟨h1,-,h2⟩:=hnd;have hk:∀ x∈L,x.1≠k:=fun x hx e=>h2 (b0C x) (List.mem_map_of_mem hx) (b0C (k,p)) (by simp) (by unfold b0C;rw[e])
 have hp:L.Pairwise (fun x y=>x.1≠y.1):=by
  rw[List.Nodup,Km]at h1;exact h1.imp fun h e=>h (by unfold b0C;rw[e])
 rw[Ju];by_cases h0:p=⟨#[48]⟩
 .subst h0;have e:List.filter v0v [(k,(⟨#[48]⟩:ByteArray))] = []:=by simp[v0v]
  rw[e,Bw,h0G,U0 rfl]
 .have e:List.filter v0v [(k,p)] = [(k,p)]:=by simp[v0v,h0]
  rw[e];exact h0q h0 (fun x hx=>hk x (Mp.1 hx).1) (hp.filter _)
end
end Go.Proofs.YtfkpfpobmobnbaaGreatDoor
namespace Go.Proofs
open Go.Shelf
def Tryz.sortMW_ren:Go.Shelf.Ren:=⟨fun | 14=>167 | 20=>231 | 21=>232 | 22=>233 | 23=>234 | 24=>235 | 25=>236 | 26=>237 | 27=>238 | 46=>299 | 47=>300 | 48=>301 | 49=>302 | 50=>303 | 15=>168 | 57=>335 | 28=>239 | 29=>240 | n=>n,fun | 24=>42 | 22=>36 | 3=>3 | 25=>77 | 4=>4 | 0=>0 | 46=>217 | 45=>216 | 50=>221 | 66=>288 | 39=>174 | 55=>161 | 70=>292 | 76=>321 | 77=>95 | 53=>224 | 5=>5 | 9=>9 | n=>n,fun | n=>n⟩
theorem Tryz.sortMW:Go.Proofs.SlLaysF0.n14 Tryz.prog Tryz.sortMW_ren:={
 mixed:=by kernel_rfl
 f14:=⟨Tryz.f167.name,by decide,Tryz.func167.trans (congrArg some (by kernel_rfl))⟩
 f15:=Tryz.func168.trans (congrArg some (by kernel_rfl))
 f20:=⟨Tryz.f231.name,by decide,Tryz.func231.trans (congrArg some (by kernel_rfl))⟩
 f21:=⟨Tryz.f232.name,by decide,Tryz.func232.trans (congrArg some (by kernel_rfl))⟩
 f22:=⟨Tryz.f233.name,by decide,Tryz.func233.trans (congrArg some (by kernel_rfl))⟩
 f23:=⟨Tryz.f234.name,by decide,Tryz.func234.trans (congrArg some (by kernel_rfl))⟩
 f24:=⟨Tryz.f235.name,by decide,Tryz.func235.trans (congrArg some (by kernel_rfl))⟩
 f25:=⟨Tryz.f236.name,by decide,Tryz.func236.trans (congrArg some (by kernel_rfl))⟩
 f26:=⟨Tryz.f237.name,by decide,Tryz.func237.trans (congrArg some (by kernel_rfl))⟩
 f27:=⟨Tryz.f238.name,by decide,Tryz.func238.trans (congrArg some (by kernel_rfl))⟩
 f28:=Tryz.func239.trans (congrArg some (by kernel_rfl))
 f29:=Iy.trans (congrArg some (by kernel_rfl))
 f46:=⟨Tryz.f299.name,by decide,Tryz.func299.trans (congrArg some (by kernel_rfl))⟩
 f47:=Tryz.func300.trans (congrArg some (by kernel_rfl))
 f48:=Tryz.func301.trans (congrArg some (by kernel_rfl))
 f49:=⟨Tryz.f302.name,by decide,Tryz.func302.trans (congrArg some (by kernel_rfl))⟩
 f50:=⟨Tryz.f303.name,by decide,Tryz.func303.trans (congrArg some (by kernel_rfl))⟩
 f57:=⟨Tryz.f335.name,by decide,Tryz.func335.trans (congrArg some (by kernel_rfl))⟩
 t0:=Dz
 a0:=Hf
 z0:=Gp
 v0:=El
 t3:=U8
 a3:=Ex
 z3:=Ed
 v3:=Ci
 t4:=Bm
 a4:=Fo
 z4:=Ev
 v4:=Cv
 t5:=Bn
 a5:=Gh
 z5:=Fe
 v5:=Dj
 t9:=Aq
 a9:=Ey
 z9:=Ee
 v9:=Cj
 t22:=Tryz.underlying36
 a22:=Tryz.isAgg36
 z22:=Tryz.sizeOf36
 v22:=Tryz.zeroValue36
 t25:=Tryz.underlying77
 a25:=Tryz.isAgg77
 z25:=Tryz.sizeOf77
 v25:=Tryz.zeroValue77
 t39:=Df
 a39:=Fv
 z39:=Fa
 v39:=Dq
 t45:=Tryz.underlying216
 a45:=Tryz.isAgg216
 z45:=Tryz.sizeOf216
 v45:=Tryz.zeroValue216
 t46:=Tryz.underlying217
 a46:=Tryz.isAgg217
 z46:=Tryz.sizeOf217
 v46:=Tryz.zeroValue217
 t50:=Tryz.underlying221
 a50:=Tryz.isAgg221
 z50:=Tryz.sizeOf221
 v50:=Tryz.zeroValue221
 t53:=Du
 a53:=Gt
 z53:=Fz
 v53:=Eg
 t55:=Dg
 a55:=Gq
 z55:=Fy
 v55:=Ef
 t66:=Tryz.underlying288
 a66:=Tryz.isAgg288
 z66:=Tryz.sizeOf288
 v66:=Tryz.zeroValue288
 t70:=Tryz.underlying292
 a70:=Tryz.isAgg292
 z70:=Tryz.sizeOf292
 v70:=Tryz.zeroValue292
 t76:=Tryz.underlying321
 a76:=Tryz.isAgg321
 z76:=Tryz.sizeOf321
 v76:=Tryz.zeroValue321
 t77:=Tryz.underlying95
 a77:=Tryz.isAgg95
 z77:=Tryz.sizeOf95
 v77:=Tryz.zeroValue95 }
def Tryz.lenW_ren:Go.Shelf.Ren:=⟨fun | 125=>168 | 128=>239 | 129=>240 | n=>n,fun | 46=>174 | 3=>3 | 51=>224 | 53=>161 | 4=>4 | 5=>5 | 9=>9 | n=>n,fun | n=>n⟩
theorem Tryz.lenW:Go.Proofs.Lays.n125 Tryz.prog Tryz.lenW_ren:={
 mixed:=by kernel_rfl
 f125:=Tryz.func168.trans (congrArg some (by kernel_rfl))
 f128:=Tryz.func239.trans (congrArg some (by kernel_rfl))
 f129:=Iy.trans (congrArg some (by kernel_rfl))
 t3:=U8
 a3:=Ex
 z3:=Ed
 v3:=Ci
 t4:=Bm
 a4:=Fo
 z4:=Ev
 v4:=Cv
 t5:=Bn
 a5:=Gh
 z5:=Fe
 v5:=Dj
 t9:=Aq
 a9:=Ey
 z9:=Ee
 v9:=Cj
 t46:=Df
 a46:=Fv
 z46:=Fa
 v46:=Dq
 t51:=Du
 a51:=Gt
 z51:=Fz
 v51:=Eg
 t53:=Dg
 a53:=Gq
 z53:=Fy
 v53:=Ef }
end Go.Proofs
