/- Texts that the proof rests on, merged: Rg1, R2da, Iz, KoA, Rch, Er1, Er2, Er3, Er3x, Er4, Er5, Lr1, Tw. -/
import Derived.Test.YtfkpfpobmobnbaaGreatDoorPa12
import Derived.Deep.AppendLies
import Derived.Maps.AppendAt
set_option linter.defProp false
set_option linter.unusedVariables false
set_option linter.unusedSimpArgs false
set_option linter.unusedSectionVars false
set_option maxRecDepth 100000
set_option maxHeartbeats 8000000
namespace Go.Proofs.YtfkpfpobmobnbaaGreatDoor
section
open Go.RowKit Go.Shelf
open Go.Lib (decDigits nDigits)
def NzI (c:List Int)(a:ByteArray)(b:List ByteArray)(vs:List Int):Prop:=∀ (k:Nat) (x:Int) (y:ByteArray),k<vs.length->c[k]?=some x->b[k]?=some y->nz1 false a x y=vs[k]?
theorem NzI.nil (c:List Int)(a:ByteArray)(b:List ByteArray):NzI c a b []:=fun k x y hk=>absurd hk (Nat.not_lt_zero _)
theorem NzI.snoc {c:List Int}{a:ByteArray}{b:List ByteArray}{vs:List Int}{v:Int}{x0:Int}{y0:ByteArray}(h:NzI c a b vs)(hx:c[vs.length]?=some x0)(hy:b[vs.length]?=some y0)(hv:nz1 false a x0 y0=some v):NzI c a b (vs ++ [v]):=by
 intro k x y hk hxk hyk;rw[Z4,H7]at hk;by_cases e:k<vs.length
 .rw[I9 e];exact h k x y e hxk hyk
 .obtain rfl:k=vs.length:=by omega
  rw[hx]at hxk;rw[hy]at hyk;cases hxk;cases hyk;rw[hv];simp
theorem NzI.all {c:List Int}{a:ByteArray}{b:List ByteArray}{vs:List Int}(h:NzI c a b vs)(h1:c.length=b.length)(h2:vs.length=c.length):nzO false a c b=some vs:=
 l0x h1 h2 fun k x y hx hy=>h k x y (by have:=(O4.1 hx).1;omega) hx hy
def t0v (w:World)(v u:Value)(c:List Int)(a:ByteArray)(b:List ByteArray)(hv:Row w v (zs c))(hu:Row w u (d0k b))(ha:a.size<=100000)(hb:∀ x∈b,x.size<=100000000):
 Calls Tryz.prog 21 #[v,.string a,u] w fun e w'=>e=.returned (.tuple #[.int .i64 (pkA c a b).1,.bool (pkA c a b).2,.int .i64 (pkE c a b)])/\Below w.heap.size w w':=by
 have HQ:=hid (d0m w v c a hv (by omega));have HS:=fun V h=>hid (l0p V u b (c.length:Nat) h hb)
 have HV:=hid hv;have HU:=hid hu;obtain⟨s,cp,rfl,q1,q2,q3⟩:=hv.openZ;obtain⟨t,cq,rfl,p1,p2,p3⟩:=hu.openS;obtain⟨n,hn⟩:=gn (c.length);obtain⟨n2,hn2⟩:=gn (b.length);by_cases h0:qnE c a=0
 case neg=>
  have e1:pkE c a b=qnE c a:=by unfold pkE;rw[J2 h0]
  have e2:pkA c a b=(0,false):=by unfold pkA;rw[U0 (by rw[e1];exact h0)]
  rw[e1,e2];obtain⟨z,hz⟩:=gn (qnE c a);rw[hz]at HQ h0 |-;rw[hn]at HQ |-;rw[hn2];have t0:(z==0)=false:=by rw[U4];exact h0
  clear hv hu q3 p3 HS HV HU e1 e2 hz hn hn2 h0;go_enter Tryz.func21,Tryz.ntmps21;go_wp2_with fail;refine HQ.out.mono ?_;rintro e w1 ⟨rfl,hb1⟩;go_wp2_with fail
  go_ret3
  exact⟨rfl,hb1⟩
 by_cases h1:wdE b (c.length:Nat)=0
 case neg=>
  have e1:pkE c a b=wdE b (c.length:Nat):=by unfold pkE;rw[U0 (by rw[h0];simp)]
  have e2:pkA c a b=(0,false):=by unfold pkA;rw[U0 (by rw[e1];exact h1)]
  rw[e1,e2];rw[h0]at HQ;obtain⟨z,hz⟩:=gn (wdE b (c.length:Nat));rw[hz]at HS h1 |-;rw[hn]at HQ HS |-;rw[hn2]at HU |-;simp only[hn2]at HS;have t0:(z==0)=false:=by rw[U4];exact h1
  clear hv hu q3 p3 HV e1 e2 hz hn hn2 h0 h1;go_enter Tryz.func21,Tryz.ntmps21;go_wp2_with fail;refine HQ.out.mono ?_;rintro e w1 ⟨rfl,hb1⟩;have y1:=hid hb1;clear hb1;go_wp2_with fail;refine (HS _ (HU.out.call y1.out)).out.mono ?_;rintro e w2 ⟨rfl,hb2⟩;have y2:=hid (a0a y1.out hb2);clear hb2;go_wp2_with fail
  go_ret3
  exact⟨rfl,y2.out⟩
 have e1:pkE c a b=0:=by unfold pkE;rw[U0 (by rw[h0];simp)];exact h1
 have OK:=v0k e1;have e2:pkA c a b=(match nzO false a c b with | none=>(0,false) | some l=>((amx l:Nat),true)):=by unfold pkA;rw[J2 e1];rfl
 obtain⟨R,hR⟩:=gn (pkA c a b);rw[hR]at e2 |-;rw[e1];rw[h0]at HQ;rw[h1]at HS;have hlen:=OK.len;have hle:=OK.le;have HOK:=hid OK;have HR:=hid e2;have Q3:=hid q3;have P3:=hid p3;have HN:=hid hn;have HN2:=hid hn2;have HA:=hid ha;rw[hn]at HQ HS HV hlen hle |-;rw[hn2]at HU p1 hlen |-;simp only[hn2]at HS;subst hlen;clear hv hu q3 p3 hn hn2 h0 h1 e1 e2 hR OK ha hb;go_enter Tryz.func21,Tryz.ntmps21;go_wp2_with fail;refine HQ.out.mono ?_;rintro e w1 ⟨rfl,hb1⟩;have y1:=hid hb1;clear hb1;go_wp2_with fail;refine (HS _ (HU.out.call y1.out)).out.mono ?_;rintro e w2 ⟨rfl,hb2⟩;have y2:=hid (a0a y1.out hb2);clear hb2;go_wp2_with fail
 go_loopw [11,12,13,14,15] (fun s11 s12 s13 s14 s15 wr=>∃ (i:Nat) (vs:List Int),s11=.int .i64 (amS vs).2.2/\s12=.int .i64 ((amS vs).2.1:Nat)/\s13=.int .i64 (i:Nat)/\i<=n2/\Hid (vs.length=i)/\Hid (NzI c a b vs)/\Hid (Below w.heap.size w wr)) (fun s11 s12 s13 s14 s15 wr=>n2-(intOf s13).toNat)
 case atStart=>exact⟨0,[],rfl,rfl,rfl,S4 _,rfl,NzI.nil c a b,y2⟩
 case round=>
  obtain⟨i,vs,rfl,rfl,rfl,hi,hL,hI,hB⟩:=hrel;by_cases hlt:i<n2
  .obtain⟨x,hx⟩:∃ x,c[i]?=some x:=⟨_,J0 (by rw[HN.out];exact hlt)⟩;obtain⟨y,hy⟩:∃ y,b[i]?=some y:=⟨_,J0 (by rw[HN2.out];exact hlt)⟩;obtain⟨g,o,rfl,hg,hc⟩:=Q3.out i x hx;obtain⟨g2,o2,rfl,hg2,hc2⟩:=P3.out i y hy;have c1:=(hB.out.cell (p:=⟨g,o+i,none⟩) hg).trans hc;have c2:=(hB.out.cell (p:=⟨g2,o2+i,none⟩) hg2).trans hc2;have hch:=HOK.out.b y (C7 hy);have hsz:=j0i hch;have hrx:=HOK.out.rng x (C7 hx);have PO:=fun V=>hid (z0j V a y HA.out (by omega))
   have hvb:=m0T a y hsz;have hz1:nz1 false a x y=if (oT a y).1=true then some (x+(oT a y).2.1) else none:=by unfold nz1;simp only[Bi,Ew]
   obtain⟨tt,ht⟩:=gn (oT a y);obtain⟨ge,hge⟩:=gn (gE a y);rw[ht]at PO hvb hz1;rw[hge]at PO;obtain⟨d,vv,uu⟩:=tt;simp only[d3]at PO;have HX:=hid hx;have HY:=hid hy;have HZ:=hid hz1;have b1:(0:Int)<=(i:Int):=by omega
   have b2:(i:Int)<(n2:Int):=by omega
   have wi:IntKind.i64.wrap ((i:Int)+1)=((i+1:Nat):Int):=by rw[Q0 _ ⟨by omega,by omega⟩];omega
   have ew:IntKind.i64.wrap (x+vv)=x+vv:=by
    dsimp only at hvb;rw[IntWalk.i64_in _ ⟨by omega,by omega⟩]
   have C0:=hid c1;clear hx hy hc hc2 hch hsz hrx hvb hz1 ht hge c1 hg hg2;go_wp2_with fail;refine (PO _).out.mono ?_;rintro e w3 ⟨rfl,hb3⟩;have y3:=hid (a0a hB.out hb3);have C0:=hid ((hb3.cell (a0e C0.out)).trans C0.out);clear hb3 c2;have X3:=hid (Blk.new w3 #[.bool d,.int .i64 vv,.int .i64 uu] 62);have y4:=hid (y3.out.alloc y3.out.size (.cells #[.bool d,.int .i64 vv,.int .i64 uu] 62));have r0:=X3.out.cell 0;have r1:=X3.out.cell 1;simp at r0 r1;have c1:=(((Z3 w3.heap.size w3).alloc nr0 (.cells #[.bool d,.int .i64 vv,.int .i64 uu] 62)).cell (a0e C0.out)).trans C0.out;obtain⟨B,hB2⟩:=gn ((amS vs).2.2);obtain⟨K,hK⟩:=gn ((amS vs).2.1);have HS2:Hid (amS (vs ++ [x+vv])=if i=0\/B<x+vv then (i+1,i,x+vv) else (i+1,K,B)):=by
    show amS _=_
    rw[j0o];unfold amT;rw[m0m,hL.out,hB2,hK]
   rw[hB2,hK];clear hB2 hK;cases d
   .have HE:Hid (R=(0,false)):=by
     show R=_
     rw[HR.out,i0E i x y HX.out HY.out (by rw[HZ.out];rfl)]
    go_wp2_with fail
    go_ret3
    exact⟨by rw[HE.out];rfl,y4.out⟩
   .have HNX:=hid (NzI.snoc hI.out (by rw[hL.out];exact HX.out) (by rw[hL.out];exact HY.out) (by rw[HZ.out];rfl));have HL2:Hid ((vs ++ [x+vv]).length=i+1):=by show _=_;rw[Z4,H7,hL.out]
    by_cases hi0:i=0
    focus
     have hs:=HS2.out;rw[J2 (.inl hi0)]at hs;have HS3:=hid hs;have q0:((i:Int)==0)=true:=by rw[Dk];omega
     clear hs HS2 hi0;go_wp2_with fail;go_quiet (fail)
    rotate_left
    focus
     have q0:((i:Int)==0)=false:=by rw[U4];omega
     by_cases hlt2:B<x+vv
     focus
      have q2:decide (B<x+vv)=true:=E7 hlt2;have hs:=HS2.out;rw[J2 (.inr hlt2)]at hs;have HS3:=hid hs;clear hs HS2 hi0 hlt2;go_wp2_with fail;go_quiet (fail)
     rotate_left
     focus
      have q2:decide (B<x+vv)=false:=M6 hlt2;have hs:=HS2.out;rw[U0 (by omega)]at hs;have HS3:=hid hs;clear hs HS2 hi0 hlt2
    all_goals
     go_wp2_with fail;go_quiet (fail)
     go_wp2_with fail;go_roundw
     case rel=>exact⟨i+1,vs ++ [x+vv],by rw[HS3.out],by rw[HS3.out],by go_num,by omega,HL2,HNX,hid (a0j y4.out _)⟩
     case measure=>simp[intOf]<;>omega
  .obtain rfl:i=n2:=by omega
   have HE:Hid (R=((((amS vs).2.1:Nat):Int),true)):=by
    show R=_
    rw[HR.out,hI.out.all (by rw[HN.out,HN2.out]) (by rw[hL.out,HN.out])]
    rfl
   have q0:decide ((i:Int)<(i:Int))=false:=by simp
   clear hlt;go_wp2_with fail
   go_ret3
   exact⟨by rw[HE.out];rfl,hB.out⟩
end
section
open Go.RowKit
def t0p (w:World)(n:Nat)(h:n<=9223372036854775807):Calls Tryz.prog 152 #[.int .i64 n] w fun e w'=>e=.returned (s0H n)/\w=w':=by
 go_enter Tryz.func152,Tryz.ntmps152;go_wp2_with fail;refine (h0H _ n h).mono ?_;rintro e w1 ⟨rfl,rfl⟩;go_wp2_with fail;go_ret
 exact⟨rfl,rfl⟩
open Go.Lib (decDigits nDigits)
def y0J (m:Nat):(⟨#[45]⟩:ByteArray)++a0f (m+1)=zB (-((m:Int)+1)):=by
 apply b0c
 rw[ByteArray.data_append,Array.toList_append,a0q,i0c,show -((m:Int)+1) = -((m+1:Nat):Int) by omega,Lib.itoa_neg _ (by omega)]
 rfl
def m0W {n:Nat}(h:n<=9223372036854775807):nDigits n<=9000:=O0 (a0l (k:=19) (by omega) (by omega)) (by omega)
def l0C {n:Nat}(h:n<=9223372036854775807):(limbs n).length<=1000000:=O0 (c0C (K:=3) (O0 (a0l (k:=19) (by omega) (by omega)) (by omega))) (by omega)
def q0f (w:World)(m:Nat)(h:m<=1000000000):Calls Tryz.prog 55 #[.int .i64 (-((m:Int)+1))] w fun e w'=>e=.returned (.string (zB (-((m:Int)+1))))/\Below w.heap.size w w':=by
 have q0:decide ((0:Int) <= -((m:Int)+1))=false:=by simp<;>omega
 have q1:IntKind.i64.wrap (-((m:Int)+1)+1) = -(m:Int):=by rw[Q0 _ ⟨by omega,by omega⟩];omega
 have q2:IntKind.i64.wrap (-(-(m:Int)))=(m:Int):=by rw[Q0 _ ⟨by omega,by omega⟩];omega
 have q3:IntKind.i64.wrap (-(-((m:Int)+1)+1))=(m:Int):=by rw[Q0 _ ⟨by omega,by omega⟩];omega
 have q4:IntKind.i64.wrap (m:Int)=(m:Int):=by rw[Q0 _ ⟨by omega,by omega⟩]
 have hz:=y0J m;obtain⟨Z,hZ⟩:=gn (zB (-((m:Int)+1)));rw[hZ]at hz |-;have HS:=fun V=>hid (t0p V m (by omega))
 have HR:=fun V=>hid (c0o V m (m0W (by omega)))
 have HO:=fun V=>hid (q0d V)
 have HP:=fun V v u hv hu=>hid (d0n V v u m 1 hv hu (l0C (by omega)) (l0C (by omega)))
 have HW:=fun V v hv=>hid (a0S V v (m+1) hv (l0C (by omega)))
 obtain⟨M,hM⟩:=gn (a0f m);have hsz:=a0t (m+1);have hnd:=m0W (n:=m+1) (by omega);obtain⟨M1,hM1⟩:=gn (a0f (m+1));rw[hM1]at hsz;have hcat:¬ 9223372036854775807<1+M1.size:=by omega
 simp only[b0t]at HS HW;rw[hM]at HS HR;rw[hM1]at HW hz;clear hM hM1 hZ h hsz hnd;go_enter Tryz.func55,Tryz.ntmps55;go_wp2_with fail;refine (HS _).out.mono ?_;rintro e w1 ⟨rfl,rfl⟩;go_wp2_with fail;refine (HR _).out.mono ?_;rintro e w2 ⟨⟨v2,rfl,h2⟩,hb2⟩;have B2:=hid hb2;have V2:=hid h2;clear hb2 h2;go_wp2_with fail;refine (HO _).out.mono ?_;rintro e w3 ⟨⟨v3,rfl,h3⟩,hb3⟩;have B3:=hid (a0a B2.out hb3);have V3:=hid (V2.out.call hb3);have U3:=hid h3;clear hb3 h3;go_wp2_with fail;refine (HP _ _ _ V3.out U3.out).out.mono ?_;rintro e w4 ⟨⟨v4,rfl,h4⟩,hb4⟩;have B4:=hid (a0a B3.out hb4);have V4:=hid h4;clear hb4 h4;go_wp2_with fail;refine (HW _ _ V4.out).out.mono ?_;rintro e w5 ⟨rfl,hb5⟩;have B5:=hid (a0a B4.out hb5);clear hb5;go_wp2_with fail;go_ret
 exact⟨rfl,B5.out⟩
def q0e (w:World)(k:Int)(h1 : -1000000000<=k)(h2:k<=1000000000):Calls Tryz.prog 55 #[.int .i64 k] w fun e w'=>e=.returned (.string (zB k))/\Below w.heap.size w w':=by
 by_cases hk:0<=k
 .obtain⟨n,rfl⟩:∃ n:Nat,k=(n:Nat):=⟨k.toNat,by omega⟩;refine (j0Z w n (by omega)).mono ?_;rintro e w' ⟨rfl,rfl⟩;exact⟨by rw[j0x],Z3 _ _⟩
 .obtain⟨m,rfl⟩:∃ m:Nat,k = -((m:Int)+1):=⟨(-k-1).toNat,by omega⟩;exact q0f w m (by omega)
end
section
open Go.RowKit
def h0m {P:Program}(w:World)(base:Nat)(t ty e:TypeId)(i:TypeInfo)(z:Value)(size bytes:Nat)(ht:P.underlying t=some (.slice e))(hi:P.info? e=some i)(hz:i.zero=some z)
 (hsize:i.size=size) (hby:i.bytes=bytes) (hzs:z.cells.size=size) (hsz:0<size)
 (v:Value) (n:Nat) (xs:List Value) (hown:w.ownsRow base e size v n xs) (hv:v ≠ .slice none 0 0)
 (ao:Option Addr) (m c:Nat) (news:List Value) (hl:news.length=m*size) (hnews:∀ j u,news[j]?=some u->∃ ad,ao=some ad/\w.cell? (ad.add j)=some u) (h1:∀ u∈news,u.oneCell'=true)
 (h63:n+m<=maxLen) (hbytes:(n+m)*bytes<=140737488355328) (hbase:base<=w.heap.size):
 ∃ v' w',(Builtin.append_ #[t,t] ty #[v,.slice ao m c]).run P w=.ok v' w'/\w'.ownsRow base e size v' (n+m) (xs++news)/\w.grownBy w' v.ownBlock/\v' ≠ .slice none 0 0:=by
 cases ao with
 | some ad=>
  obtain⟨v',w',hr,k1,k2,k3,-⟩:=run_append_own_at (P:=P) w base t ty e i z size bytes ht hi hz hsize hby hzs hsz v n xs hown ad m c news hl (fun j u hu=>by obtain⟨ad',e',hc⟩:=hnews j u hu;cases e';exact hc) h1 h63 hbytes hbase;exact⟨v',w',hr,k1,k2,fun e=>hv (k3.1 e).1⟩
 | none=>
  have hn:news = []:=by
   cases news with
   | nil=>rfl
   | cons u r=>obtain⟨ad,e,_⟩:=hnews 0 u rfl;cases e
  subst hn;have hm:m=0:=by
   rcases M7 m with h | h
   .exact h
   .have:=Dr h hsz;simp at hl;omega
  subst hm;refine⟨v,w,?_,by simpa using hown,⟨rfl,rfl,rfl,J4 _,fun _ _ _=>rfl⟩,hv⟩;rcases hown.2 with ⟨e,_⟩ | ⟨g,cap,cur,rfl,hb,hg,h1',h2',h3',h4'⟩
  .exact absurd e hv
  .simp[Builtin.append_,run_underlying ht,sizeOf,typeInfo,hi,Builtin.lenOf,Builtin.firstCells,loadCells,loadCellsFrom,storeCells,h1']
def c0H {P:Program}{w:World}{ops:Array Oper}{rest:List Oper}{o:Oper}{a:Act}{Q:Exit->Act->World->Prop}(hgd:o.guard=none)(s x:Operand)(t:TypeId)
 (ho:o.op=.call { callee:=.builtin .append,args:=#[s,x],argTypes:=#[t,t] })
 (base:Nat) (e:TypeId) (i:TypeInfo) (z:Value) (size bytes:Nat) (ht:P.underlying t=some (.slice e)) (hi:P.info? e=some i) (hz:i.zero=some z)
 (hsize:i.size=size) (hby:i.bytes=bytes) (hzs:z.cells.size=size) (hsz:0<size)
 (v:Value) (n:Nat) (xs:List Value) (hs:a.eval s=v) (hown:w.ownsRow base e size v n xs) (hv:v ≠ .slice none 0 0)
 (ao:Option Addr) (m c:Nat) (news:List Value) (hx:a.eval x=.slice ao m c) (hl:news.length=m*size) (hnews:∀ j u,news[j]?=some u->∃ ad,ao=some ad/\w.cell? (ad.add j)=some u) (h1:∀ u∈news,u.oneCell'=true)
 (h63:n+m<=maxLen) (hbytes:(n+m)*bytes<=140737488355328) (hbase:base<=w.heap.size)
 (h:∀ v' w',w'.ownsRow base e size v' (n+m) (xs++news)->w.grownBy w' v.ownBlock->v' ≠ .slice none 0 0->wpList P ops Q rest (a.put o.dst v') w'):
 wpList P ops Q (o::rest) a w:=by
 refine wpList_plain hgd fun K hK=>?_
 obtain⟨v',w',hr,h2,h3,h4⟩:=h0m (P:=P) w base t o.type e i z size bytes ht hi hz hsize hby hzs hsz v n xs hown hv ao m c news hl hnews h1 h63 hbytes hbase;unfold Oper.wp execOp;simp only[ho,resolve,invoke,builtin,Sem.run_bind,Sem.run_pure,Result.andThen_ok,List.map_toArray,Lr,List.map_nil,hs,hx,hr];exact hK _ _ (h v' w' h2 h3 h4)
def e0e {w W w3:World}{t:TypeId}{z:Nat}{v:Value}{m:Nat}{vs:List Value}(h:W.ownsRow w.heap.size t z v m vs)(h0:Below w.heap.size w W)(hg:W.grownBy w3 v.ownBlock):Below w.heap.size w w3:=by
 refine h0.trans ⟨hg.os,hg.tape,hg.output,hg.size,fun j hj=>hg.block j (U6 hj h0.size) fun e=>?_⟩;have:=(h.lt j e.symm).1;omega
open Go.Shelf
open Go.Lib (decDigits nDigits)
def x0n:(Tryz.prog.info? 89).map (fun i=>(i.zero,i.size,i.bytes))=some (some (.agg #[.int .i64 0,.bool false,.slice none 0 0,.slice none 0 0]),4,64):=by kernel_rfl
def ltV (d:List (ByteArray×ByteArray)):Nat->Rat
 | 0=>0
 | i+1=>match d[i]? with
  | some p=>if p.1=b0o then vQ p.2 else ltV d i
  | none=>ltV d i
theorem t0X {d:List (ByteArray×ByteArray)}{i:Nat}{p:ByteArray×ByteArray}(h:d[i]?=some p)(hp:p.1=b0o):ltV d (i+1)=vQ p.2:=by
 rw[ltV,h];exact J2 hp
theorem x0b {d:List (ByteArray×ByteArray)}{i:Nat}{p:ByteArray×ByteArray}(h:d[i]?=some p)(hp:¬ p.1=b0o):ltV d (i+1)=ltV d i:=by
 rw[ltV,h];exact U0 hp
def t0Q {W:World}{g:Nat}{cs:Array Value}{t:TypeId}(h:Blk W g cs t):∀ j u,cs.toList[j]?=some u->W.cell? ((⟨g,0,none⟩:Addr).add j)=some u:=fun j u hj=>by
 rw[Addr.add_lit,J8,h.cell];simpa using hj
def n0x {w:World}{b:Nat}{m0:Bool}{a0 b0:Option Addr}{n0 c0 n1 c1:Nat}{t:TypeId}(hb:Blk w b #[.bool m0,.slice a0 n0 c0,.slice b0 n1 c1] t)(m:Bool)(a a':Option Addr)(n c n' c':Nat){v:Value}{l:List (Int×Rat)}(h:CRow w v l):
 CRow (((w.setCell ⟨b,0,none⟩ (.bool m)).setCell ⟨b,1,none⟩ (.slice a n c)).setCell ⟨b,2,none⟩ (.slice a' n' c')) v l:=by
 obtain⟨s,k,rfl,h1,h2,h3⟩:=h.ex;refine⟨s,k,rfl,h1,h2,fun i x hx=>?_⟩;obtain⟨g,o,N,D,rfl,hg,k1,k2,k3,k4,k5,k6⟩:=h3 i x hx;have hne:g≠b:=by
  rintro rfl;rw[hb.cell]at k1;exact NoInt.three _ _ _ _ _ _ _ _ _ _ k1
 have hc:∀ j,(((w.setCell ⟨b,0,none⟩ (.bool m)).setCell ⟨b,1,none⟩ (.slice a n c)).setCell ⟨b,2,none⟩ (.slice a' n' c')).cell? ⟨g,j,none⟩=w.cell? ⟨g,j,none⟩:=fun j=>by
  unfold World.cell?;rw[Am _ _ _ _ (by simpa using hne),Am _ _ _ _ (by simpa using hne),Am _ _ _ _ (by simpa using hne)]
 have hs:=(c0W hb m a a' n c n' c').1;exact⟨g,o,N,D,rfl,by simpa using hg,(hc _).trans k1,(hc _).trans k2,(hc _).trans k3,(hc _).trans k4,hs _ _ _ k5,hs _ _ _ k6⟩
def l0q (w:World)(v:Value)(d:List (ByteArray×ByteArray))(n:Nat)(hn:n<=32)(hv:MRow w v d)(hd:∀ p∈d,qE p.2=0/\p.2.size<=10000)(hl:d.length<=100):
 Calls Tryz.prog 70 #[v,.int .i64 (n:Nat)] w fun e w'=>(∃ u q,e=.returned (.tuple #[u,q])/\CRow w' u (chL d n (2*n+1))/\IsQ .i64 w' q (ltV d d.length))/\Below w.heap.size w w':=by
 obtain⟨i0,hi,hz0,hz1,hz2⟩:=Dj x0n;obtain⟨a,c,rfl,c1,c2,c3⟩:=hv.ex;have P1:=fun V=>hid (c0o V 1 (by decide +kernel))
 rw[show a0f 1=(⟨#[49]⟩:ByteArray) from by decide +kernel]at P1;have HV:=hid hv;have H3:=hid c3;have HD:=hid hd;have HN:=hid hn;have HLn:=hid hl;obtain⟨L,hL⟩:=gn (d.length);have HL:=hid hL;rw[hL]at c1 hl HV |-;have wn:IntKind.i64.wrap (-(n:Int)) = -(n:Int):=by rw[Q0 _ ⟨by omega,by omega⟩]
 clear hv c3 hd hn hL;go_enter Tryz.func70,Tryz.ntmps70;go_wp2_with fail;refine (P1 _).out.mono ?_;rintro e w1 ⟨⟨v1,rfl,hv1⟩,hb1⟩;obtain⟨a1,k1,rfl,-⟩:=hv1.openI;obtain⟨l1,hl1⟩:=gn ((limbs 1).length);rw[hl1]at hv1 |-;have A0:=hid ((Z3 w.heap.size w).alloc nr0 (.cells #[.bool false,.slice none 0 0,.slice none 0 0] 81));have X5:=hid ((Blk.new w #[.bool false,.slice none 0 0,.slice none 0 0] 81).call hb1);have y1:=hid (a0a A0.out hb1);have V1:=hid hv1;clear hb1 hv1 hl1;have X7:=hid (Blk.new w1 #[.bool false,.slice none 0 0,.slice a1 l1 k1] 81);have A7:=hid ((Z3 w1.heap.size w1).alloc nr0 (.cells #[.bool false,.slice none 0 0,.slice a1 l1 k1] 81));have Q7:=hid (show QB (w1.alloc (.cells #[.bool false,.slice none 0 0,.slice a1 l1 k1] 81)) w1.heap.size 0 from QB.new (IsQ.zero_ (IsN.zero .i64 w1) V1.out));go_wp2_with fail;have Y5:=hid (X5.out.call A7.out);have Y1:=hid (a0a y1.out A7.out)
 have GL:=hid (show w.heap.size<(w1.alloc (.cells #[.bool false,.slice none 0 0,.slice a1 l1 k1] 81)).heap.size/\w1.heap.size<(w1.alloc (.cells #[.bool false,.slice none 0 0,.slice a1 l1 k1] 81)).heap.size/\w.heap.size<w1.heap.size by
  have h1:=X5.out.lt;simp;omega)
 obtain⟨g5,hg5⟩:=gn (w.heap.size);obtain⟨g7,hg7⟩:=gn (w1.heap.size);obtain⟨W1,hW1⟩:=gn (w1.alloc (.cells #[.bool false,.slice none 0 0,.slice a1 l1 k1] 81));rw[hW1]at X7 Y5 Y1 GL Q7 |-;rw[hg7]at X7 GL Q7 |-;rw[hg5]at Y5 GL |-;have HG5:=hid hg5;have HG7:=hid hg7;clear hW1 hg5 hg7 X5 A7 A0 y1
 go_loopw [6,8,9,10,11] (fun s6 s8 s9 s10 s11 wr=>∃ (j:Nat) (vs:List (Int×Bool×Value×Value)),s8=.int .i64 ((j:Int)-n)/\j<=2*n+1/\Hid (COwn W1.heap.size wr s6 (chL d n j) vs)/\Hid (Below W1.heap.size W1 wr)) (fun s6 s8 s9 s10 s11 wr=>2*n+1-(intOf s8+n).toNat)
 case atStart=>exact⟨0,[],by congr 1;omega,S4 _,COwn.nil _ _,Z3 _ _⟩
 case round=>
  obtain⟨j,vs,rfl,hj,hO,hB⟩:=hrel;have hn:=HN.out;by_cases hlt:j<2*n+1
  .have t0:decide ((j:Int)-n<=n)=true:=E7 (by omega);have wk:IntKind.i64.wrap ((j:Int)-n+1)=((j+1:Nat):Int)-n:=by rw[Q0 _ ⟨by omega,by omega⟩];omega
   have PZ:=fun V=>hid (q0e V ((j:Int)-n) (by omega) (by omega))
   obtain⟨K,hK⟩:∃ K:Int,(j:Int)-n=K:=⟨_,rfl⟩;rw[hK]at t0 wk PZ |-;have HK:=hid hK;have HJ:=hid hlt;clear hK hlt hj hn;go_wp2_with fail
   go_loopw [6,9,10,11] (fun s6 s9 s10 s11 wx=>∃ (i:Nat) (vs:List (Int×Bool×Value×Value)),s9=.int .i64 (i:Nat)/\i<=L/\Hid (COwn W1.heap.size wx s6 (chL d n j++o0a (d.take i) K) vs)/\Hid (Below W1.heap.size W1 wx)) (fun s6 s9 s10 s11 wx=>L-(intOf s9).toNat)
   case atStart=>exact⟨0,vs,rfl,S4 _,by simpa[o0a]using hO,hB⟩
   case round=>
    obtain⟨i,us,rfl,hi,hO',hB'⟩:=hrel;by_cases hlt:i<L
    .obtain⟨p,hp⟩:∃ p,d[i]?=some p:=⟨_,J0 (by rw[HL.out];exact hlt)⟩;obtain⟨g,o,rfl,hg,m1,m2⟩:=H3.out i p hp;have BW:=hid (a0a Y1.out hB'.out);have KA:Hid (∀ W,Below w.heap.size w W->W.cell? ⟨g,o+i*2,none⟩=some (.string p.1)/\W.cell? ⟨g,o+i*2+1,none⟩=some (.string p.2)):=fun W hW=>by
      rw[E9 2]at m1 m2;exact⟨(hW.cell (p:=⟨g,o+i*2,none⟩) hg).trans m1,(hW.cell (p:=⟨g,o+i*2+1,none⟩) hg).trans m2⟩
     have f1:(0:Int)<=(i:Int):=by omega
     have f2:(i:Int)<(L:Int):=by omega
     have wi:IntKind.i64.wrap ((i:Int)+1)=((i+1:Nat):Int):=by have:=HLn.out;rw[Q0 _ ⟨by omega,by omega⟩];omega
     have HSL:=hid (p0Q (k:=K) hp);have HDP:=hid (HD.out p (C7 hp));have HLT:=hid hlt;by_cases he:p.1=zB K
     .rw[if_pos he]at HSL;obtain⟨pk,pv⟩:=p;dsimp only at he KA HSL HDP;subst he;obtain⟨zk,hzk⟩:=gn (zB K);rw[hzk]at PZ KA;have r1:=(KA.out _ BW.out).1;have q5:(zk.toList==zk.toList)=true:=by simp
      have PR:=fun V=>hid (i0r V pv (by have:=HDP.out.2;omega) HDP.out.1)
      clear hp hg m1 m2 hzk hlt hi;go_wp2_with fail;refine a0m [0,1,2,3,4,5] 2 (fun w'=>w'.cell? ⟨g,o+i*2,none⟩=some (.string zk)) (by kernel_rfl) (by kernel_rfl) (by kernel_rfl) (by kernel_rfl) r1 ?_
      iterate 6
       refine⟨_,rfl,?_⟩;apply Exists.intro
       refine⟨.inl ⟨by rfl,?_⟩,?_⟩
       ·(intro W' hW';obtain q9:=hW';go_simp;try (with_reducible rfl))
       go_frame
      refine a0c (i:=6) (by kernel_rfl) (by rfl) (by rfl) ?_;go_wp2_with fail;refine (PZ _).out.mono ?_;rintro e w7 ⟨rfl,hb7⟩;have x7:=hid (show Below wr.heap.size wr w7 from (br0.drew).trans hb7);have B7:=hid (a0a BW.out x7.out);have r7:=(KA.out _ B7.out).1;clear hb7 r1;go_wp2_with fail;refine⟨r7,?_⟩;refine b0e (is:=[7]) (g:=0) (by kernel_rfl) rfl r7 (by kernel_rfl) ?_
      iterate 1
       refine⟨_,rfl,?_⟩;apply Exists.intro
       refine⟨.inl ⟨by rfl,?_⟩,?_⟩
       ·(intro W' hW';obtain q9:=hW';go_simp;try (with_reducible rfl))
       go_frame
      refine H8 (by kernel_rfl) ?_ _;simp only[b0h];have r8:=(KA.out _ B7.out).2;clear r7;go_wp2_with fail;refine (PR _).out.mono ?_;rintro e w8 ⟨⟨v8,rfl,hv8⟩,hb8⟩;have x8:=hid (a0a x7.out hb8);obtain⟨N,D,rfl,hN,hD,fN,fD⟩:=hv8;obtain⟨aN,cN,rfl,-⟩:=hN.openI;obtain⟨aD,cD,rfl,-⟩:=hD.openI;obtain⟨lN,hlN⟩:=gn ((limbs (vQ pv).num.natAbs).length);obtain⟨lD,hlD⟩:=gn ((limbs (vQ pv).den).length);obtain⟨mq,hmq⟩:=gn (decide ((vQ pv).num<0));rw[hlN]at hN fN |-;rw[hlD]at hD fD |-;rw[hmq];have Nw:=hid hN;have Dw:=hid hD;have FN:=hid fN;have FD:=hid fD;have HMQ:=hid hmq;have g0:=(Blk.new w8 #[.bool mq,.slice aN lN cN,.slice aD lD cD] 81).cell 0;have g1:=(Blk.new w8 #[.bool mq,.slice aN lN cN,.slice aD lD cD] 81).cell 1;have g2:=(Blk.new w8 #[.bool mq,.slice aN lN cN,.slice aD lD cD] 81).cell 2;simp at g0 g1 g2;clear hb8 hN hD fN fD hlN hlD hmq r8;have XA:=hid ((x8.out.alloc x8.out.size (.cells #[.bool mq,.slice aN lN cN,.slice aD lD cD] 81)).alloc (by have:=x8.out.size;simp;omega) (.cells #[.int .i64 K,.bool mq,.slice aN lN cN,.slice aD lD cD] 89));have SA:=hid (((Z3 w8.heap.size w8).alloc nr0 (.cells #[.bool mq,.slice aN lN cN,.slice aD lD cD] 81)).alloc (by simp) (.cells #[.int .i64 K,.bool mq,.slice aN lN cN,.slice aD lD cD] 89));have OA:=hid (hO'.out.call XA.out);have CA:=hid (Blk.made (w8.alloc (.cells #[.bool mq,.slice aN lN cN,.slice aD lD cD] 81)) #[.int .i64 K,.bool mq,.slice aN lN cN,.slice aD lD cD] 89 (n:=w8.heap.size+1) (by simp));have WB:=hid (hB'.out.trans (XA.out.mono hB'.out.size))
      have HLB:=hid (show (chL d n j++o0a (d.take i) K).length<=6700 from by
       have h1:=h0Z d n j;have h2:=g0v (d.take i) K;rw[Bq]at h2;rw[HL.out]at h1 h2;have h3:j*L<=65*100:=Bk (by have:=HJ.out;have:=HN.out;omega) (by have:=HLn.out;rw[HL.out]at this;exact this);rw[Z4];have:=HLn.out;omega)
      have NA:=hid (Nw.out.call SA.out);have DA:=hid (Dw.out.call SA.out);have pN:=hid (n0M (w1:=wr) (n:=(vQ pv).num.natAbs) hO'.out (fun g hg=>O0 x7.out.size (FN.out g hg)));have pD:=hid (n0M (w1:=wr) (n:=(vQ pv).den) hO'.out (fun g hg=>O0 x7.out.size (FD.out g hg)));go_wp2_with (at_builtin;refine Fj _ rfl _ _ 78 rfl W1.heap.size 89 i0 (.agg #[.int .i64 0,.bool false,.slice none 0 0,.slice none 0 0]) 4 64 Tryz.underlying78 hi hz0 hz1 hz2 rfl (by decide) _ _ (chF us) rfl OA.out.own ⟨w8.heap.size+1,0,none⟩ 1 1 [.int .i64 K,.bool mq,.slice aN lN cN,.slice aD lD cD] rfl rfl (t0Q CA.out) (by simp[Value.oneCell']) (by have:=HLB.out;unfold maxLen;omega) (by have:=HLB.out;omega) WB.out.size ?_;intro v9 w9 hown hgrow _ hat;have O9:=hid hown;have G9:=hid hgrow;have T9:=hid hat;clear hown hgrow hat)
      have B9:=hid (e0e OA.out.own WB.out G9.out);have N9:=hid (COwn.next OA.out K (vQ pv) NA.out pN.out DA.out pD.out (by rw[HMQ.out];exact O9.out) G9.out T9.out);have HS9:=hid (show chL d n j++o0a (d.take (i+1)) K=chL d n j++o0a (d.take i) K ++ [(K,vQ pv)] from by rw[HSL.out,As]);clear g0 g1 g2;go_roundw
      case rel=>exact⟨i+1,_,by go_num,by have:=HLT.out;omega,by rw[HS9.out];exact N9,B9⟩
      case measure=>simp[intOf]<;>(have:=HLT.out;omega)
     .rw[if_neg he,List.append_nil]at HSL;obtain⟨pk,pv⟩:=p;dsimp only at he KA HSL HDP;obtain⟨zk,hzk⟩:=gn (zB K);rw[hzk]at PZ he;have r1:=(KA.out _ BW.out).1;have q5:(pk.toList==zk.toList)=false:=by
       rw[U4];exact w0Z he
      clear hp hg m1 m2 hzk hlt hi he;go_wp2_with fail;refine a0m [0,1,2,3,4,5] 2 (fun w'=>w'.cell? ⟨g,o+i*2,none⟩=some (.string pk)) (by kernel_rfl) (by kernel_rfl) (by kernel_rfl) (by kernel_rfl) r1 ?_
      iterate 6
       refine⟨_,rfl,?_⟩;apply Exists.intro
       refine⟨.inl ⟨by rfl,?_⟩,?_⟩
       ·(intro W' hW';obtain q9:=hW';go_simp;try (with_reducible rfl))
       go_frame
      refine a0c (i:=6) (by kernel_rfl) (by rfl) (by rfl) ?_;go_wp2_with fail;refine (PZ _).out.mono ?_;rintro e w7 ⟨rfl,hb7⟩;have x7:=hid (show Below wr.heap.size wr w7 from (br0.drew).trans hb7);have B7:=hid (a0a BW.out x7.out);have r7:=(KA.out _ B7.out).1;clear hb7 r1;go_wp2_with fail;refine⟨r7,?_⟩;refine b0e (is:=[7]) (g:=0) (by kernel_rfl) rfl r7 (by kernel_rfl) ?_
      iterate 1
       refine⟨_,rfl,?_⟩;apply Exists.intro
       refine⟨.inl ⟨by rfl,?_⟩,?_⟩
       ·(intro W' hW';obtain q9:=hW';go_simp;try (with_reducible rfl))
       go_frame
      refine H8 (by kernel_rfl) ?_ _;simp only[b0h];clear r7;go_wp2_with fail;go_roundw
      case rel=>exact⟨i+1,us,by go_num,by have:=HLT.out;omega,by rw[HSL.out];exact hO'.out.call x7.out,hB'.out.trans (x7.out.mono hB'.out.size)⟩
      case measure=>simp[intOf]<;>(have:=HLT.out;omega)
    .obtain rfl:i=L:=by omega
     have q5:decide ((i:Int)<(i:Int))=false:=by simp
     clear hlt hi;go_wp2_with fail;go_roundw
     case rel=>exact⟨j+1,us,by congr 1<;>omega,by have:=HJ.out;omega,by
      have h:=hO'.out;rw[J7 (by rw[HL.out];exact J4 _)]at h;rw[chL,HK.out];exact h,hB'⟩
     case measure=>
      simp[intOf];have:=HJ.out;have:=HK.out;omega
  .obtain rfl:j=2*n+1:=by omega
   have t0:decide (((2*n+1:Nat):Int)-n<=n)=false:=M6 (by omega);clear hlt hj;go_wp2_with fail;obtain⟨wL,hwL⟩:∃ x:World,x=wr:=⟨_,rfl⟩;subst hwL;have CL:=hid hO.out.row;have QL7:=hid (Q7.out.call hB.out);have XL5:=hid (Y5.out.call hB.out);have BL:=hid (a0a Y1.out hB.out);clear hO hB
   go_loopw [12] (fun s12 wx=>∃ i:Nat,s12=.int .i64 (i:Nat)/\i<=L/\Hid (CRow wx u6 (chL d n (2*n+1)))/\Hid (QB wx g7 (ltV d i))/\Hid (Blk wx g5 #[.bool false,.slice none 0 0,.slice none 0 0] 81)/\Hid (Below w.heap.size w wx)) (fun s12 wx=>L-(intOf s12).toNat)
   case atStart=>exact⟨0,rfl,S4 _,CL,QL7,XL5,BL⟩
   case round=>
    obtain⟨i,rfl,hi,hC,hQ,h5,hB⟩:=hrel;by_cases hlt:i<L
    .obtain⟨p,hp⟩:∃ p,d[i]?=some p:=⟨_,J0 (by rw[HL.out];exact hlt)⟩;obtain⟨g,o,rfl,hg,m1,m2⟩:=H3.out i p hp;have r1:=(hB.out.cell (p:=⟨g,o+2*i,none⟩) hg).trans m1;have r2:=(hB.out.cell (p:=⟨g,o+2*i+1,none⟩) hg).trans m2;rw[E9 2]at r1 r2;have f1:(0:Int)<=(i:Int):=by omega
     have f2:(i:Int)<(L:Int):=by omega
     have wi:IntKind.i64.wrap ((i:Int)+1)=((i+1:Nat):Int):=by rw[Q0 _ ⟨by omega,by omega⟩];omega
     have HDP:=hid (HD.out p (C7 hp));have HLT:=hid hlt;by_cases he:p.1=b0o
     .have HLV:=hid (t0X hp he);obtain⟨pk,pv⟩:=p;dsimp only at he r1 r2 HLV HDP;subst he;unfold b0o at r1;have PR:=fun V=>hid (i0r V pv (by have:=HDP.out.2;omega) HDP.out.1)
      clear hp hg m1 m2 hlt hi;go_wp2_with fail;refine (PR _).out.mono ?_;rintro e w8 ⟨⟨v8,rfl,hv8⟩,hb8⟩;obtain⟨m8,a8,n8,c8,b8,d8,e8,rfl⟩:=hv8.q.qv;obtain⟨m7,a7,n7,c7,b7,d7,e7,hb7,-⟩:=hQ.out;have X8:=hid (hb7.call hb8);have V8:=hid hv8.q;have C8:=hid (hC.out.call hb8);have Z8:=hid (h5.out.call hb8);have B8:=hid (a0a hB.out hb8);have t0:=X8.out.cell 0;have t1:=X8.out.cell 1;have t2:=X8.out.cell 2;have t3:=X8.out.free 0;have t4:=X8.out.free 1;have t5:=X8.out.free 2;simp at t0 t1 t2;clear hb8 hv8 hb7 hQ hC h5 hB r1 r2;go_wp2_with fail;have ne:g7≠g5:=by have:=GL.out;have:=HG5.out;have:=HG7.out;omega
      have le:w.heap.size<=g7:=by have:=GL.out;have:=HG5.out;have:=HG7.out;omega
      have Y8:=hid (((Z8.out.other (a:=⟨g7,0,none⟩) ne (.bool m8)).other (a:=⟨g7,1,none⟩) ne (.slice a8 n8 c8)).other (a:=⟨g7,2,none⟩) ne (.slice b8 d8 e8));refine⟨?_,?measure⟩
      (repeat apply Exists.intro)
      refine⟨?rel,rfl⟩
      case rel=>exact⟨i+1,by go_num,by have:=HLT.out;omega,n0x X8.out _ _ _ _ _ _ _ C8.out,by rw[HLV.out];exact QB.put X8.out V8.out,Y8,((B8.out.setCell le _).setCell le _).setCell le _⟩
      case measure=>simp[intOf]<;>(have:=HLT.out;omega)
     .have HLV:=hid (x0b hp he);obtain⟨pk,pv⟩:=p;dsimp only at he r1 r2 HLV HDP;have q5:=a0L (d:=pk) (l:=[108,97,116,101]) (by unfold b0o at he;exact he);clear hp hg m1 m2 hlt hi he;go_wp2_with fail;go_roundw
      case rel=>exact⟨i+1,by go_num,by have:=HLT.out;omega,hC,by rw[HLV.out];exact hQ,h5,hB⟩
      case measure=>simp[intOf]<;>(have:=HLT.out;omega)
    .obtain rfl:i=L:=by omega
     have q5:decide ((i:Int)<(i:Int))=false:=by simp
     obtain⟨m7,a7,n7,c7,b7,d7,e7,hb7,hq7⟩:=hQ.out;have X7':=hid hb7;have V7:=hid hq7;clear hlt hi hb7 hq7 hQ;have ne:g5≠g7:=by have:=GL.out;have:=HG5.out;have:=HG7.out;omega
     have KS:Hid (∀ (m:Bool) (a a':Option Addr) (n c n' c':Nat),Blk (((wr.drew.setCell ⟨g5,0,none⟩ (.bool m)).setCell ⟨g5,1,none⟩ (.slice a n c)).setCell ⟨g5,2,none⟩ (.slice a' n' c')) g7 #[.bool m7,.slice a7 n7 c7,.slice b7 d7 e7] 81):=fun m a a' n c n' c'=>
      ((X7'.out.drew.other (a:=⟨g5,0,none⟩) ne (.bool m)).other (a:=⟨g5,1,none⟩) ne (.slice a n c)).other (a:=⟨g5,2,none⟩) ne (.slice a' n' c')
     have t0:=h5.out.cell 0;have t1:=h5.out.cell 1;have t2:=h5.out.cell 2;have t3:=h5.out.free 0;have t4:=h5.out.free 1;have t5:=h5.out.free 2;simp at t0 t1 t2;clear ne;go_wp2_with fail;refine a0m [0,1,2] 1 (fun w'=>w'.cell? ⟨g7,0,none⟩=some (.bool m7)/\w'.cell? ⟨g7,1,none⟩=some (.slice a7 n7 c7)/\w'.cell? ⟨g7,2,none⟩=some (.slice b7 d7 e7)) (by kernel_rfl) (by kernel_rfl) (by kernel_rfl) (by kernel_rfl) ⟨X7'.out.drew.cell 0,X7'.out.drew.cell 1,X7'.out.drew.cell 2⟩ ?_
     iterate 3
      refine⟨_,rfl,?_⟩;apply Exists.intro
      refine⟨.inl ⟨by rfl,?_⟩,?_⟩
      .rintro W' ⟨q9,q8,q7⟩;go_simp;try with_reducible rfl
      go_frame
     refine a0c (i:=3) (by kernel_rfl) (by rfl) (by rfl) ?_;go_wp2_with fail;refine⟨⟨(KS.out _ _ _ _ _ _ _).cell 0,(KS.out _ _ _ _ _ _ _).cell 1,(KS.out _ _ _ _ _ _ _).cell 2⟩,?_⟩;refine H8 (by kernel_rfl) ?_ _;simp only[b0h];obtain⟨s1,s2⟩:=c0W h5.out m7 a7 b7 n7 c7 d7 e7;have f0:=s2.cell 0;have f1:=s2.cell 1;have f2:=s2.cell 2;simp at f0 f1 f2;clear t0 t1 t2 t3 t4 t5;go_wp2_with fail;refine Z6 (v:=.tuple #[u6,.agg #[.bool m7,.slice a7 n7 c7,.slice b7 d7 e7]]) (by simp[results,Tryz.results70,go_sem,f0,f1,f2]) rfl ⟨⟨_,_,rfl,n0x h5.out.drew _ _ _ _ _ _ _ (hC.out.call br0.drew),i0N h5.out.drew m7 a7 b7 n7 c7 d7 e7 (V7.out.call br0.drew)⟩,?_⟩;have le:w.heap.size<=g5:=by have:=HG5.out;omega
     exact ((hB.out.drew.setCell le _).setCell le _).setCell le _
def g0B (V:World):Calls Tryz.prog 151 #[.string ⟨#[48]⟩] V fun e w'=>RetFr V.heap.size .i64 0 e w'/\Below V.heap.size V w':=by
 have:=c0y V 0 (O0 (a0l (k:=1) (by omega) (by omega)) (by omega));rwa[a0p]at this
def i0n (V:World):Calls Tryz.prog 151 #[.string ⟨#[49]⟩] V fun e w'=>RetFr V.heap.size .i64 1 e w'/\Below V.heap.size V w':=by
 have:=c0y V 1 (O0 (a0l (k:=1) (by omega) (by omega)) (by omega));rwa[b0X]at this
def e0S (w:World)(n:Nat)(hn:n<=1000):
 Calls Tryz.prog 242 #[.int .i64 (n:Nat)] w fun e w'=>(∃ g c,e=.returned (.slice (some ⟨g,0,none⟩) (n+1) c)/\NTab w.heap.size w' g (n+1) c (fun _=>0))/\Below w.heap.size w w':=by
 obtain⟨i0,hi,hz0,hz1,hz2⟩:=Dj x0m;have HR:=fun V=>hid (g0B V)
 go_enter Tryz.func242,Tryz.ntmps242;go_wp2_with fail
 go_loopw [3,4] (fun o ii wr=>∃ i:Nat,ii=.int .i64 i/\i<=n+1/\Hid (NOwn w.heap.size wr o i (fun _=>0))/\Hid (Below w.heap.size w wr)) (fun o ii wr=>n+1-(intOf ii).toNat)
 case atStart=>exact⟨0,rfl,S4 _,NOwn.nil _ _ _,Z3 _ _⟩
 case round=>
  obtain⟨i,rfl,hi',hO,hB⟩:=hrel;by_cases hlt:i<n+1
  .have d1:decide (i<=n)=true:=by simp;omega
   have wi:IntKind.i64.wrap ((i:Int)+1)=((i+1:Nat):Int):=by rw[Q0 _ ⟨by omega,by omega⟩];omega
   have IL:=hid hlt;clear hlt hi';go_wp2_with fail;refine (HR _).out.mono ?_;rintro e wm ⟨⟨vm,rfl,hvm,hfm⟩,hbm⟩;obtain⟨am,cm,rfl,-,-,-⟩:=hvm.openI;rw[show (limbs 0).length=0 from by rw[limbs_zero];rfl]at hvm hfm |-;have VM:=hid hvm;have BRM:=hid hbm;have FM:=hid hfm;clear hvm hbm hfm;obtain⟨vs,HO0,HO1⟩:=id hO.out;have HOO:=hid HO0;have HO9:=hid HO1;obtain⟨ar,cr,rfl⟩:=b0i HO0;clear HO0 HO1;have hi9:=IL.out;go_wp2_with (at_builtin;refine Fj _ rfl _ _ 204 rfl w.heap.size 79 i0 (.slice none 0 0) 1 24 Tryz.underlying204 hi hz0 hz1 hz2 rfl (by decide) _ i vs rfl ((HOO.out.kept (a0T BRM.out none) (by cases ar<;>simp[Value.ownBlock])).alloc _) ⟨wm.heap.size,0,none⟩ 1 1 [.slice am 0 cm] rfl rfl (Dh wm (.slice am 0 cm) 79) (by simp[Value.oneCell']) (by unfold maxLen;omega) (by omega) (by have:=hB.out.size;have:=BRM.out.size;simp;omega) ?_;intro v' w5 hown hgrow _ hat;have HO5:=hid hown;have HG5:=hid hgrow;have HA5:=hid hat;clear hown hgrow hat)
   have N5:=hid (NOwn.next (f:=fun _=>0) HOO.out HO9.out BRM.out VM.out nr0 FM.out HO5.out HG5.out HA5.out);have B5:=hid (k0h HOO.out hB.out BRM.out HG5.out);clear HO5 HG5 HA5 hi9;go_wp2_with fail;go_roundw
   case rel=>exact⟨i+1,by go_num,by have:=IL.out;omega,N5,B5⟩
   case measure=>simp[intOf]<;>(have:=IL.out;omega)
  .obtain rfl:i=n+1:=by omega
   have d1:decide ((n:Int)+1<=(n:Int))=false:=by simp;omega
   obtain⟨g,c,rfl,ht⟩:=NTab.of hO.out;have HT:=hid ht;clear hlt hi' ht;go_wp2_with fail;go_ret
   exact⟨⟨g,c,rfl,HT.out⟩,hB.out⟩
def i0Z (f:Nat->Nat)(i:Nat):f i<=cvo f pw2 i:=by
 cases i with
 | zero=>rw[r0V];exact J4 _
 | succ i=>rw[l0Y];omega
theorem NRow.openA {w:World}{v:Value}{m:Nat}{f:Nat->Nat}(h:NRow w v m f):∃ a c,v=.slice a m c/\m<=c/\c<=9223372036854775807:=by
 obtain⟨a,c,h1,h2,h3,-⟩:=h.open;exact⟨a,c,h1,h2,h3⟩
theorem NRow.el {w:World}{a:Option Addr}{m c:Nat}{f:Nat->Nat}(h:NRow w (.slice a m c) m f){i:Nat}(hi:i<m):∃ g o x,a=some ⟨g,o,none⟩/\g<w.heap.size/\w.cell? ⟨g,o+i,none⟩=some x/\IsN .i64 w x (f i):=by
 obtain⟨a',c',e,-,-,h3⟩:=h.open;simp only[Hv]at e;obtain⟨rfl,-,rfl⟩:=e;exact h3 i hi
def aF (c:Nat->Bool)(f:Nat->Nat)(i j k:Nat):Nat:=a0k (fun i'=>if i'<=k/\c (k-i')=true then f i' else 0) i+(if i<=k/\k<i+j/\c (k-i)=true then f i else 0)
def s0x {c:Nat->Bool}(f:Nat->Nat)(h0:c 0=false)(k:Nat):aF c f 0 1 k=0:=by
 unfold aF;rw[a0k,U0];intro ⟨_,h2,h3⟩;obtain rfl:k=0:=by omega
 rw[h0]at h3;cases h3
def s0z {c:Nat->Bool}{f:Nat->Nat}{i j:Nat}(h:c j=false)(k:Nat):aF c f i (j+1) k=aF c f i j k:=by
 unfold aF
 congr 1
 by_cases hc:i<=k/\k<i+j/\c (k-i)=true
 .rw[J2 hc,J2 ⟨hc.1,by omega,hc.2.2⟩]
 .rw[U0 hc,U0];intro ⟨h1,h2,h3⟩;by_cases he:k=i+j
  .rw[he,show i+j-i=j by omega,h]at h3;cases h3
  .exact hc ⟨h1,by omega,h3⟩
def s0y {c:Nat->Bool}{f:Nat->Nat}{i j:Nat}(h:c j=true)(k:Nat):aF c f i (j+1) k=if k=i+j then aF c f i j k+f i else aF c f i j k:=by
 by_cases he:k=i+j
 .rw[J2 he];unfold aF;rw[J2 ⟨by omega,by omega,by rw[he,show i+j-i=j by omega];exact h⟩,U0 (by omega)]
  rfl
 .rw[U0 he];unfold aF
  congr 1
  by_cases hc:i<=k/\k<i+j/\c (k-i)=true
  .rw[J2 hc,J2 ⟨hc.1,by omega,hc.2.2⟩]
  .rw[U0 hc,U0];intro ⟨h1,h2,h3⟩;exact hc ⟨h1,by omega,h3⟩
def s0A {c:Nat->Bool}{f:Nat->Nat}{n i k:Nat}(h0:c 0=false)(hi:i<=n)(hk:k<=n):aF c f i (n+1-i) k=aF c f (i+1) 1 k:=by
 have e1:(if i+1<=k/\k<i+1+1/\c (k-(i+1))=true then f (i+1) else 0)=0:=U0 fun ⟨h1,h2,h3⟩=>by
  obtain rfl:k=i+1:=by omega
  rw[Ce,h0]at h3;cases h3
 have e2:(if i<=k/\k<i+(n+1-i)/\c (k-i)=true then f i else 0)=(if i<=k/\c (k-i)=true then f i else 0):=by
  by_cases hc:i<=k/\c (k-i)=true
  .rw[J2 hc,J2 ⟨hc.1,by omega,hc.2⟩]
  .rw[U0 hc,U0 (fun ⟨h1,_,h3⟩=>hc ⟨h1,h3⟩)]
 unfold aF;rw[e1,e2,Ac]
 rfl
def v0O {c:Nat->Bool}{f:Nat->Nat}{n k:Nat}(hk:k<=n):aF c f (n+1) 1 k=cvo (chi c) f k:=by
 unfold aF;rw[U0 (by omega),Ac];exact f0Q (by omega)
def a1X {c:Nat->Bool}{f:Nat->Nat}{n i j k:Nat}(hi:i<=n)(hk:k<=n):aF c f i j k<=cvo (chi c) f k:=by
 rw[<- f0Q (c:=c) (f:=f) (k:=k) (m:=n+1) (by omega)];refine O0 ?_ (a0K (show i+1<=n+1 by omega));unfold aF;rw[a0k];refine Iq ?_ _;by_cases hc:i<=k/\k<i+j/\c (k-i)=true
 .rw[J2 hc,J2 ⟨hc.1,hc.2.2⟩];exact J4 _
 .rw[U0 hc];exact S4 _
def k0C (w:World)(v:Value)(n:Nat)(f:Nat->Nat)(hn:n<=1000)(hv:NRow w v (n+1) f)(hd:∀ i,i<=n->nDigits (cvo f pw2 i)<=4000):
 Calls Tryz.prog 219 #[v] w fun e w'=>(∃ g c,e=.returned (.slice (some ⟨g,0,none⟩) (n+1) c)/\NTab w.heap.size w' g (n+1) c (cvo f pw2))/\Below w.heap.size w w':=by
 obtain⟨a,cv,rfl,q1,q2⟩:=hv.openA;have HEL:Hid (∀ i,i<n+1->∃ g o x,a=some ⟨g,o,none⟩/\g<w.heap.size/\w.cell? ⟨g,o+i,none⟩=some x/\IsN .i64 w x (f i)):=fun i hi=>hv.el hi
 have HLF:Hid (∀ i,i<=n->(limbs (f i)).length<=1000000/\(limbs (cvo f pw2 i)).length<=1000000):=fun i hi=>⟨a0x (O0 (a0r (i0Z f i)) (hd i hi)),a0x (hd i hi)⟩
 have HL2:Hid (∀ i,i+1<=n->(limbs (cvo f pw2 i+cvo f pw2 i)).length<=1000000):=fun i hi=>a0x (O0 (a0r (by rw[l0Y];omega)) (hd (i+1) hi))
 have HZ:=fun V=>hid (e0S V n hn)
 have HN:=hid hn;have wn:IntKind.i64.wrap (((n+1:Nat):Int)-1)=(n:Int):=by rw[Q0 _ ⟨by omega,by omega⟩];omega
 have wn':IntKind.i64.wrap ((n:Int)+1-1)=(n:Int):=by rw[Q0 _ ⟨by omega,by omega⟩];omega
 clear hn hv hd;go_enter Tryz.func219,Tryz.ntmps219;go_wp2_with fail;refine (HZ _).out.mono ?_;rintro e w1 ⟨⟨g,c,rfl,ht⟩,hb1⟩;have T0:Hid (NTab w.heap.size w1 g (n+1) c (fun j=>if j<0 then cvo f pw2 j else 0)):=ht.fn fun i _=>by rw[U0 (by omega)]
 have B1:=hid hb1;clear ht hb1;go_wp2_with fail
 go_loopw [4] (fun s4 wr=>∃ i:Nat,s4=.int .i64 (i:Nat)/\i<=n+1/\Hid (NTab w.heap.size wr g (n+1) c (fun j=>if j<i then cvo f pw2 j else 0))/\Hid (Below w.heap.size w wr)) (fun s4 wr=>n+1-(intOf s4).toNat)
 case atStart=>exact⟨0,rfl,S4 _,T0,B1⟩
 case round=>
  clear T0 B1;obtain⟨i,rfl,hi,hT,hB⟩:=hrel;by_cases hlt:i<n+1
  .have q0:decide ((i:Int)<((n+1:Nat):Int))=true:=by simp;omega
   have d0:decide ((i:Int)<(n:Int)+1)=true:=by simp;omega
   have f0:(0:Int)<=(i:Int):=by omega
   have f1:(i:Int)<((n+1:Nat):Int):=by omega
   have f1':(i:Int)<(n:Int)+1:=by omega
   have IL:=hid hlt;obtain⟨gl,ol,y,rfl,hgl,hy1,hy2⟩:=HEL.out i hlt;have cy:=(hB.out.cell (a0e hy1)).trans hy1;have YN:=hid (hy2.call hB.out);have YW:=hid hy2;have CY:=hid hy1;have wi:IntKind.i64.wrap ((i:Int)+1)=((i+1:Nat):Int):=by have:=HN.out;rw[Q0 _ ⟨by omega,by omega⟩];omega
   rcases M7 i with h0 | h0
   .have d2:decide ((0:Int)<(i:Int))=false:=by simp;omega
    have d2':decide (0<i)=false:=by simp;omega
    obtain⟨x,cx,hx,-⟩:=hT.out.at hlt;rw[U0 (by omega)]at hx;have XN:=hid hx;have I0:=hid h0;clear hi hlt hx hy1 hy2 hgl h0;go_wp2_with fail;refine b0a 11 2 [0,1,2,3,4,5,6,7,8,9] 1 (fun W'=>W'.cell? ⟨g,i,none⟩=some x/\W'.cell? ⟨gl,ol+i,none⟩=some y) (by kernel_rfl) rfl (by kernel_rfl) (by kernel_rfl) (by kernel_rfl) (by kernel_rfl) ⟨cx,cy⟩ ?_
    iterate 10
     refine⟨_,rfl,?_⟩;apply Exists.intro
     refine⟨.inl ⟨by rfl,?_⟩,?_⟩
     .rintro W' ⟨r1,r2⟩;go_simp;try with_reducible rfl
     go_frame
    refine a0c (i:=10) (by kernel_rfl) (by rfl) (by rfl) ?_;go_wp2_with fail;refine (c0z _ _ _ _ _ (XN.out.call br0.drew) (YN.out.call br0.drew) (by rw[limbs_zero];simp) (HLF.out i (by have:=IL.out;omega)).1).mono ?_;rintro e w5 ⟨⟨zz,rfl,hz,hf⟩,hbc⟩;obtain⟨az1,cz1,rfl,-,-,-⟩:=hz.openI;obtain⟨lz1,hlz⟩:=gn ((limbs (0+f i)).length);rw[hlz]at hz hf |-;clear hlz;have C1:=hid (show Below wr.heap.size wr w5 from br0.drew.trans hbc);have T1:=hid (hT.out.call C1.out);have Z1:=hid hz;have FZ1:Hid (∀ g',(Value.slice az1 lz1 cz1).ownBlock=some g'->w.heap.size<=g'/\g'≠g):=fun g' hg=>by
     have h1:wr.heap.size<=g':=hf g' hg;have h2:=hT.out.slot;have h3:=hB.out.size;exact⟨by omega,by omega⟩
    have m1:=(C1.out.cell (a0e cx)).trans cx;have m2:=(C1.out.cell (a0e cy)).trans cy;have B5:=hid (hB.out.trans (C1.out.mono hB.out.size));clear hz hf hbc cx cy;go_wp2_with fail;refine⟨⟨m1,m2⟩,?_⟩;refine H8 (by kernel_rfl) ?_ _;simp only[b0h,c0w,Ab,A9];have m3:=T1.out.slot.2.2.2.2 i;have T2:Hid (NTab w.heap.size (w5.setCell ⟨g,i,none⟩ (.slice az1 lz1 cz1)) g (n+1) c (fun j=>if j<i+1 then cvo f pw2 j else 0)):=(T1.out.put i Z1.out (.inr FZ1.out)).fn fun j hj=>by
     have:=I0.out;by_cases e:j=i
     .rw[J2 e,J2 (by omega),e,this,r0V,J8]
     .rw[U0 e,U0 (by omega),U0 (by omega)]
    have B6:=hid (B5.out.setCell (p:=⟨g,i,none⟩) (by have:=hT.out.slot.1;exact this) (.slice az1 lz1 cz1));go_wp2_with fail
    try simp only[b0h]
    go_roundw
    case rel=>exact⟨i+1,by go_num,by have:=IL.out;omega,T2,B6⟩
    case measure=>simp[intOf]<;>(have:=IL.out;omega)
   .obtain⟨i',rfl⟩:∃ i',i=i'+1:=⟨i-1,by omega⟩;have d2:decide ((0:Int)<((i'+1:Nat):Int))=true:=by simp<;>omega
    have d2':decide (0<i'+1)=true:=by simp
    have d2'':decide ((0:Int)<(i':Int)+1)=true:=by simp<;>omega
    have w5a:IntKind.i64.wrap (i':Int)=(i':Int):=by have:=HN.out;rw[Q0 _ ⟨by omega,by omega⟩]
    have w5':IntKind.i64.wrap (((i'+1:Nat):Int)-1)=(i':Int):=by have:=HN.out;rw[Q0 _ ⟨by omega,by omega⟩]<;>omega
    have w5'':IntKind.i64.wrap ((i':Int)+1-1)=(i':Int):=by have:=HN.out;rw[Q0 _ ⟨by omega,by omega⟩]<;>omega
    have f2:(0:Int)<=(i':Int):=by omega
    have f3':(i':Int)<(n:Int)+1:=by omega
    have f8:(0:Int)<=(i':Int)+1:=by omega
    have f9':(i':Int)+1<(n:Int)+1:=by omega
    have f10:((i':Int)+1).toNat=i'+1:=by omega
    obtain⟨x1,cx1,hx1,-⟩:=hT.out.at (i:=i') (by omega);rw[J2 (by omega)]at hx1;have XN1:=hid hx1;obtain⟨x0,cx0,-,-⟩:=hT.out.at hlt;clear hi hlt hx1 hy1 hy2 hgl h0;go_wp2_with fail;refine b0a 13 2 [0,1,2,3,4,5,6,7,8,9,10,11] 1 (fun W'=>W'.cell? ⟨g,i',none⟩=some x1/\W'.cell? ⟨g,i'+1,none⟩=some x0) (by kernel_rfl) rfl (by kernel_rfl) (by kernel_rfl) (by kernel_rfl) (by kernel_rfl) ⟨cx1,cx0⟩ ?_
    iterate 12
     refine⟨_,rfl,?_⟩;apply Exists.intro
     refine⟨.inl ⟨by rfl,?_⟩,?_⟩
     .rintro W' ⟨r1,r2⟩;go_simp;try with_reducible rfl
     go_frame
    refine a0c (i:=12) (by kernel_rfl) (by rfl) (by rfl) ?_;go_wp2_with fail;refine (c0z _ _ _ _ _ (XN1.out.call br0.drew) (XN1.out.call br0.drew) (HLF.out i' (by have:=IL.out;omega)).2 (HLF.out i' (by have:=IL.out;omega)).2).mono ?_;rintro e w5 ⟨⟨zz,rfl,hz,hf⟩,hbc⟩;obtain⟨az1,cz1,rfl,-,-,-⟩:=hz.openI;obtain⟨lz1,hlz⟩:=gn ((limbs (cvo f pw2 i'+cvo f pw2 i')).length);rw[hlz]at hz hf |-;clear hlz;have C1:=hid (show Below wr.heap.size wr w5 from br0.drew.trans hbc);have T1:=hid (hT.out.call C1.out);have Z1:=hid hz;have FZ1:Hid (∀ g',(Value.slice az1 lz1 cz1).ownBlock=some g'->w.heap.size<=g'/\g'≠g):=fun g' hg=>by
     have h1:wr.heap.size<=g':=hf g' hg;have h2:=hT.out.slot;have h3:=hB.out.size;exact⟨by omega,by omega⟩
    have m1:=(C1.out.cell (a0e cx1)).trans cx1;have m2:=(C1.out.cell (a0e cx0)).trans cx0;have B5:=hid (hB.out.trans (C1.out.mono hB.out.size));have cy5:=(C1.out.cell (a0e cy)).trans cy;clear hz hf hbc;go_wp2_with fail;refine⟨⟨m1,m2⟩,?_⟩;refine H8 (by kernel_rfl) ?_ _;simp only[b0h,c0w,Ab,A9];have m3:=T1.out.slot.2.2.2.2 (i'+1);have T2:=hid (T1.out.put (i'+1) Z1.out (.inr FZ1.out));have B6:=hid (B5.out.setCell (p:=⟨g,i'+1,none⟩) (by have:=hT.out.slot.1;exact this) (.slice az1 lz1 cz1));have NEL:Hid (gl≠g):=by
     have h1:=a0e CY.out;have h2:=hT.out.slot.1;show gl≠g
     intro e;rw[e]at h1;simp at h1;omega
    have cy6:(w5.setCell ⟨g,i'+1,none⟩ (.slice az1 lz1 cz1)).cell? ⟨gl,ol+(i'+1),none⟩=some y:=by
     rw[<- cy5];unfold World.setCell World.cell?;simp[Cd,Ne.symm NEL.out]
    have YN6:Hid (IsN .i64 (w5.setCell ⟨g,i'+1,none⟩ (.slice az1 lz1 cz1)) y (f (i'+1))):=YW.out.call B6.out;obtain⟨w6,hw6⟩:=gn (w5.setCell ⟨g,i'+1,none⟩ (.slice az1 lz1 cz1));clear m1 cy5 cx1 cx0 cy;go_wp2_with fail
    try simp only[b0h]
    rw[hw6]at T2 B6 cy6 YN6
    try rw[hw6]
    clear hw6 m2 m3;obtain⟨x,cx,hx,-⟩:=T2.out.at (i:=i'+1) IL.out;simp only[Fm]at hx;have XN:=hid hx;clear hx;refine b0a 11 2 [0,1,2,3,4,5,6,7,8,9] 1 (fun W'=>W'.cell? ⟨g,i'+1,none⟩=some x/\W'.cell? ⟨gl,ol+(i'+1),none⟩=some y) (by kernel_rfl) rfl (by kernel_rfl) (by kernel_rfl) (by kernel_rfl) (by kernel_rfl) ⟨cx,cy6⟩ ?_
    iterate 10
     refine⟨_,rfl,?_⟩;apply Exists.intro
     refine⟨.inl ⟨by rfl,?_⟩,?_⟩
     .rintro W' ⟨r1,r2⟩;go_simp;try with_reducible rfl
     go_frame
    refine a0c (i:=10) (by kernel_rfl) (by rfl) (by rfl) ?_;go_wp2_with fail;refine (c0z _ _ _ _ _ (XN.out.call br0.drew) (YN6.out.call br0.drew) (HL2.out i' (by have:=IL.out;omega)) (HLF.out (i'+1) (by have:=IL.out;omega)).1).mono ?_;rintro e w7 ⟨⟨zz,rfl,hz,hf⟩,hbc⟩;obtain⟨az2,cz2,rfl,-,-,-⟩:=hz.openI;obtain⟨lz2,hlz⟩:=gn ((limbs (cvo f pw2 i'+cvo f pw2 i'+f (i'+1))).length);rw[hlz]at hz hf |-;clear hlz;have C2:=hid (show Below w6.heap.size w6 w7 from br0.drew.trans hbc);have T3:=hid (T2.out.call C2.out);have Z2:=hid hz;have FZ2:Hid (∀ g',(Value.slice az2 lz2 cz2).ownBlock=some g'->w.heap.size<=g'/\g'≠g):=fun g' hg=>by
     have h1:w6.heap.size<=g':=hf g' hg;have h2:=T2.out.slot;have h3:=B6.out.size;exact⟨by omega,by omega⟩
    have m1:=(C2.out.cell (a0e cx)).trans cx;have m2:=(C2.out.cell (a0e cy6)).trans cy6;have B7:=hid (B6.out.trans (C2.out.mono B6.out.size));clear hz hf hbc cx cy6;go_wp2_with fail;refine⟨⟨m1,m2⟩,?_⟩;refine H8 (by kernel_rfl) ?_ _;simp only[b0h,c0w,Ab,A9];have m3:=T3.out.slot.2.2.2.2 (i'+1);have T4:Hid (NTab w.heap.size (w7.setCell ⟨g,i'+1,none⟩ (.slice az2 lz2 cz2)) g (n+1) c (fun j=>if j<i'+1+1 then cvo f pw2 j else 0)):=(T3.out.put (i'+1) Z2.out (.inr FZ2.out)).fn fun j hj=>by
     by_cases e:j=i'+1
     .rw[J2 e,J2 (by omega),e,l0Y]
     .rw[U0 e,U0 e];by_cases e2:j<i'+1
      .rw[J2 e2,J2 (by omega)]
      .rw[U0 e2,U0 (by omega)]
    have B8:=hid (B7.out.setCell (p:=⟨g,i'+1,none⟩) (by have:=hT.out.slot.1;exact this) (.slice az2 lz2 cz2));go_wp2_with fail
    try simp only[b0h]
    go_roundw
    case rel=>exact⟨i'+1+1,by go_num,by have:=IL.out;omega,T4,B8⟩
    case measure=>simp[intOf]<;>(have:=IL.out;omega)
  .have q0:decide ((i:Int)<((n+1:Nat):Int))=false:=by simp;omega
   have d0:decide ((i:Int)<(n:Int)+1)=false:=by simp;omega
   have e1:i=n+1:=by omega
   subst e1;have TE:Hid (NTab w.heap.size wr g (n+1) c (cvo f pw2)):=hT.out.fn fun i hi=>by rw[J2 hi]
   clear hi hlt;go_wp2_with fail;go_ret
   exact⟨⟨g,c,rfl,TE.out⟩,hB.out⟩
def j0a (w:World)(v u:Value)(n:Nat)(f:Nat->Nat)(b:Nat->Bool)(hn:n<=1000)(hv:NRow w v (n+1) f)(hu:Row w u ((List.range (n+1)).map fun j=>.bool (b j)))(h0:b 0=false)(hd:∀ i,i<=n->nDigits (cvo (chi b) f i)<=4000/\nDigits (f i)<=4000):
 Calls Tryz.prog 284 #[v,u] w fun e w'=>(∃ g c,e=.returned (.slice (some ⟨g,0,none⟩) (n+1) c)/\NTab w.heap.size w' g (n+1) c (cvo (chi b) f))/\Below w.heap.size w w':=by
 obtain⟨a,cv,rfl,q1,q2⟩:=hv.openA;have HEL:Hid (∀ i,i<n+1->∃ g o x,a=some ⟨g,o,none⟩/\g<w.heap.size/\w.cell? ⟨g,o+i,none⟩=some x/\IsN .i64 w x (f i)):=fun i hi=>hv.el hi
 obtain⟨ab,cb,rfl,p1,p2,p3⟩:=hu.ex;have HBL:Hid (∀ i,i<n+1->∃ g o,ab=some ⟨g,o,none⟩/\w.cell? ⟨g,o+i,none⟩=some (.bool (b i))):=fun i hi=>by
  obtain⟨g,o,h1,h2,h3⟩:=p3 i (.bool (b i)) (by rw[Ea,Es hi];rfl);exact⟨g,o,h1,h3⟩
 rw[Dl,List.length_range]at p1 |-;have HLF:Hid (∀ i,i<=n->(limbs (f i)).length<=1000000):=fun i hi=>a0x (hd i hi).2
 have HLA:Hid (∀ i j k,i<=n->k<=n->(limbs (aF b f i j k)).length<=1000000):=fun i j k hi hk=>a0x (O0 (a0r (a1X hi hk)) (hd k hk).1)
 have HZ:=fun V=>hid (e0S V n hn)
 have HN:=hid hn;have H0:=hid h0;have wn:IntKind.i64.wrap (((n+1:Nat):Int)-1)=(n:Int):=by rw[Q0 _ ⟨by omega,by omega⟩];omega
 have wn':IntKind.i64.wrap ((n:Int)+1-1)=(n:Int):=by rw[Q0 _ ⟨by omega,by omega⟩];omega
 clear hn hv hd hu p3 h0;go_enter Tryz.func284,Tryz.ntmps284;go_wp2_with fail;refine (HZ _).out.mono ?_;rintro e w1 ⟨⟨g,c,rfl,ht⟩,hb1⟩;have T0:Hid (NTab w.heap.size w1 g (n+1) c (aF b f 0 1)):=ht.fn fun i _=>(s0x f H0.out i).symm
 have B1:=hid hb1;clear ht hb1;go_wp2_with fail
 go_loopw [6] (fun s6 wr=>∃ i:Nat,s6=.int .i64 (i:Nat)/\i<=n+1/\Hid (NTab w.heap.size wr g (n+1) c (aF b f i 1))/\Hid (Below w.heap.size w wr)) (fun s6 wr=>n+1-(intOf s6).toNat)
 case atStart=>exact⟨0,rfl,S4 _,T0,B1⟩
 case round=>
  clear T0 B1;obtain⟨i,rfl,hi,hT,hB⟩:=hrel;by_cases hlt:i<n+1
  .have q0:decide ((i:Int)<((n+1:Nat):Int))=true:=by simp;omega
   have d0:decide ((i:Int)<(n:Int)+1)=true:=by simp;omega
   have f0:(0:Int)<=(i:Int):=by omega
   have f1:(i:Int)<((n+1:Nat):Int):=by omega
   have f1':(i:Int)<(n:Int)+1:=by omega
   have f9:(i:Int)<=1000:=by have:=HN.out;omega
   have IL:=hid hlt;obtain⟨gl,ol,y,rfl,hgl,hy1,hy2⟩:=HEL.out i hlt;have YW:=hid hy2;have CY:=hid hy1;clear hi hlt hy1 hy2 hgl;go_wp2_with fail
   go_loopw [7] (fun s7 wq=>∃ j:Nat,s7=.int .i64 (j:Nat)/\1<=j/\(i+j<=n+1\/j=1)/\Hid (NTab w.heap.size wq g (n+1) c (aF b f i j))/\Hid (Below w.heap.size w wq)) (fun s7 wq=>n+2-(intOf s7).toNat)
   case atStart=>exact⟨1,rfl,J4 _,.inr rfl,hT,hB⟩
   case round=>
    clear hT hB;obtain⟨j,rfl,hj1,hj,hT,hB⟩:=hrel;have wij:IntKind.i64.wrap ((i:Int)+(j:Int))=(i:Int)+(j:Int):=by have:=HN.out;rw[Q0 _ ⟨by omega,by omega⟩]
    by_cases hlt:i+j<n+1
    .have q1:decide ((i:Int)+(j:Int)<((n+1:Nat):Int))=true:=by simp;omega
     have d1:decide ((i:Int)+(j:Int)<(n:Int)+1)=true:=by simp;omega
     have f2:(0:Int)<=(j:Int):=by omega
     have f3:(j:Int)<((n+1:Nat):Int):=by omega
     have f3':(j:Int)<(n:Int)+1:=by omega
     have f4:(0:Int)<=(i:Int)+(j:Int):=by omega
     have f5:(i:Int)+(j:Int)<((n+1:Nat):Int):=by omega
     have f5':(i:Int)+(j:Int)<(n:Int)+1:=by omega
     have f6:(j:Int)<=1000:=by have:=HN.out;omega
     have et:((i:Int)+(j:Int)).toNat=i+j:=by omega
     have JL:=hid hlt;obtain⟨gb,ob,rfl,hb1⟩:=HBL.out j (by omega);have cb1:=(hB.out.cell (a0e hb1)).trans hb1;obtain⟨bj,hbj⟩:=gn (b j);rw[hbj]at cb1;have HBJ:=hid hbj;have J1:=hid hj1;clear hj hlt hb1 hbj;cases bj
     .have T2:Hid (NTab w.heap.size wr g (n+1) c (aF b f i (j+1))):=hT.out.fn fun k _=>(s0z HBJ.out k).symm
      clear hj1;go_wp2_with fail;go_roundw
      case rel=>exact⟨j+1,by go_num,by omega,.inl (by have:=JL.out;omega),T2,hB⟩
      case measure=>simp[intOf]<;>(have:=JL.out;omega)
     .obtain⟨x,cx,hx,-⟩:=hT.out.at (i:=i+j) JL.out;have XN:=hid hx;have cy:=(hB.out.cell (a0e CY.out)).trans CY.out;have YN:=hid (YW.out.call hB.out);clear hx hj1;go_wp2_with fail;refine b0a 15 2 [0,1,2,3,4,5,6,7,8,9,10,11,12,13] 1 (fun W'=>W'.cell? ⟨g,i+j,none⟩=some x/\W'.cell? ⟨gl,ol+i,none⟩=some y) (by kernel_rfl) rfl (by kernel_rfl) (by kernel_rfl) (by kernel_rfl) (by kernel_rfl) ⟨cx,cy⟩ ?_
      iterate 14
       refine⟨_,rfl,?_⟩;apply Exists.intro
       refine⟨.inl ⟨by rfl,?_⟩,?_⟩
       .rintro W' ⟨r1,r2⟩;go_simp;try with_reducible rfl
       go_frame
      refine a0c (i:=14) (by kernel_rfl) (by rfl) (by rfl) ?_;go_wp2_with fail;refine (c0z _ _ _ _ _ (XN.out.call br0.drew) (YN.out.call br0.drew) (HLA.out i j (i+j) (by have:=IL.out;omega) (by have:=JL.out;omega)) (HLF.out i (by have:=IL.out;omega))).mono ?_;rintro e w5 ⟨⟨zz,rfl,hz,hf⟩,hbc⟩;obtain⟨az1,cz1,rfl,-,-,-⟩:=hz.openI;obtain⟨lz1,hlz⟩:=gn ((limbs (aF b f i j (i+j)+f i)).length);rw[hlz]at hz hf |-;clear hlz;have C1:=hid (show Below wr.heap.size wr w5 from br0.drew.trans hbc);have T1:=hid (hT.out.call C1.out);have Z1:=hid hz;have FZ1:Hid (∀ g',(Value.slice az1 lz1 cz1).ownBlock=some g'->w.heap.size<=g'/\g'≠g):=fun g' hg=>by
       have h1:wr.heap.size<=g':=hf g' hg;have h2:=hT.out.slot;have h3:=hB.out.size;exact⟨by omega,by omega⟩
      have m1:=(C1.out.cell (a0e cx)).trans cx;have m2:=(C1.out.cell (a0e cy)).trans cy;have B5:=hid (hB.out.trans (C1.out.mono hB.out.size));clear hz hf hbc cx cy cb1;go_wp2_with fail;refine⟨⟨m1,m2⟩,?_⟩;refine H8 (by kernel_rfl) ?_ _;simp only[b0h,c0w,Ab,A9];have m3:=T1.out.slot.2.2.2.2 (i+j);have T2:Hid (NTab w.heap.size (w5.setCell ⟨g,i+j,none⟩ (.slice az1 lz1 cz1)) g (n+1) c (aF b f i (j+1))):=(T1.out.put (i+j) Z1.out (.inr FZ1.out)).fn fun k hk=>by
       rw[s0y HBJ.out];by_cases e:k=i+j
       .rw[J2 e,J2 e,e]
       .rw[U0 e,U0 e]
      have B6:=hid (B5.out.setCell (p:=⟨g,i+j,none⟩) (by have:=hT.out.slot.1;exact this) (.slice az1 lz1 cz1));go_wp2_with fail
      try simp only[b0h]
      go_roundw
      case rel=>exact⟨j+1,by go_num,by have:=J1.out;omega,.inl (by have:=JL.out;omega),T2,B6⟩
      case measure=>simp[intOf]<;>(have:=JL.out;omega)
    .have q1:decide ((i:Int)+(j:Int)<((n+1:Nat):Int))=false:=by simp;omega
     have d1:decide ((i:Int)+(j:Int)<(n:Int)+1)=false:=by simp;omega
     have f6:(j:Int)<=1002:=by have:=HN.out;omega
     have e1:j=n+1-i\/(i=n/\j=1):=by have:=IL.out;omega
     have e2:j=n+1-i:=by have:=IL.out;omega
     subst e2;have T2:Hid (NTab w.heap.size wr g (n+1) c (aF b f (i+1) 1)):=hT.out.fn fun k hk=>s0A H0.out (by have:=IL.out;omega) (by omega)
     clear hj hlt hj1 e1;go_wp2_with fail;go_roundw
     case rel=>exact⟨i+1,by go_num,by have:=IL.out;omega,T2,hB⟩
     case measure=>simp[intOf]<;>(have:=IL.out;omega)
  .have q0:decide ((i:Int)<((n+1:Nat):Int))=false:=by simp;omega
   have d0:decide ((i:Int)<(n:Int)+1)=false:=by simp;omega
   have e1:i=n+1:=by omega
   subst e1;have TE:Hid (NTab w.heap.size wr g (n+1) c (cvo (chi b) f)):=hT.out.fn fun i hi=>v0O (by omega)
   clear hi hlt;go_wp2_with fail;go_ret
   exact⟨⟨g,c,rfl,TE.out⟩,hB.out⟩
def bls (f:Nat->Bool)(j:Nat):List Value:=(List.range j).map fun i=>Value.bool (f i)
def s0q (f:Nat->Bool)(j:Nat):(bls f j).length=j:=by simp[bls]
def n0H (f:Nat->Bool)(j:Nat):bls f (j+1)=bls f j ++ [.bool (f j)]:=by simp[bls,Js]
structure TsS (W:World)(B gc:Nat)(v1 v2:Value)(j:Nat)(f1 f2:Nat->Bool):Prop where
 blk:Blk W gc #[v1,v2] 268
 o1:W.ownsRow B 4 1 v1 j (bls f1 j)
 o2:W.ownsRow B 4 1 v2 j (bls f2 j)
 n1:v1.ownBlock≠some gc
 n2:v2.ownBlock≠some gc
 n12:∀ g,v1.ownBlock=some g->v2.ownBlock≠some g
 b1:∀ g,v1.ownBlock=some g->B+1<g
 b2:∀ g,v2.ownBlock=some g->B+1<g
theorem TsS.call {W W':World}{B gc:Nat}{v1 v2:Value}{j:Nat}{f1 f2:Nat->Bool}(h:TsS W B gc v1 v2 j f1 f2)(hb:Below W.heap.size W W'):TsS W' B gc v1 v2 j f1 f2:=
 ⟨h.blk.call hb,a0Q h.o1 hb,a0Q h.o2 hb,h.n1,h.n2,h.n12,h.b1,h.b2⟩
def v0Q {W w5 w6:World}{B gc J:Nat}{v1 v2 v1' v2':Value}{f1 f2:Nat->Bool}{o1 o2:Obj}{x1 x2:Bool}(h:TsS W B gc v1 v2 J f1 f2)(hgc:B+1<gc)(e1:f1 J=x1)(e2:f2 J=x2)
 (own1:w5.ownsRow B 4 1 v1' (J+1) (bls f1 J ++ [.bool x1])) (g1:(W.alloc o1).grownBy w5 v1.ownBlock) (at1:v1'.ownBlock=v1.ownBlock\/v1'.ownBlock=some (W.heap.size+1))
 (own2:w6.ownsRow B 4 1 v2' (J+1) (bls f2 J ++ [.bool x2])) (g2:(w5.alloc o2).grownBy w6 v2.ownBlock) (at2:v2'.ownBlock=v2.ownBlock\/v2'.ownBlock=some (w5.heap.size+1)):
 TsS ((w6.setCell ⟨gc,0,none⟩ v1').setCell ⟨gc,1,none⟩ v2') B gc v1' v2' (J+1) f1 f2:=by
 have hlt:=h.blk.lt;have s5:W.heap.size+1<=w5.heap.size:=by have:=g1.size;simpa using this
 have n1:v1'.ownBlock≠some gc:=by
  rcases at1 with e | e
  .rw[e];exact h.n1
  .rw[e];intro e';have:=J9 e';omega
 have n2:v2'.ownBlock≠some gc:=by
  rcases at2 with e | e
  .rw[e];exact h.n2
  .rw[e];intro e';have:=J9 e';omega
 have k1:v1'.ownBlock=none\/v1'.ownBlock≠v2.ownBlock:=by
  cases hv:v1'.ownBlock with
  | none=>exact .inl rfl
  | some g=>
   right
   intro e;rcases at1 with e' | e'
   .rw[hv]at e';exact h.n12 g e'.symm e.symm
   .rw[hv]at e';have h1:=(h.o2.lt g e.symm).2;have:=J9 e';omega
 have oo1:w6.ownsRow B 4 1 v1' (J+1) (bls f1 J ++ [.bool x1]):=(own1.alloc o2).kept g2 k1;have bk:Blk w6 gc #[v1,v2] 268:=Blk.grown ((Blk.grown (h.blk.alloc o1) g1 h.n1).alloc o2) g2 h.n2;refine⟨?_,?_,?_,n1,n2,?_,?_,?_⟩
 .have:=(bk.set 0 v1').set 1 v2';simpa using this
 .rw[n0H,e1];exact b0W (b0W oo1 (a:=⟨gc,0,none⟩) n1 _) (a:=⟨gc,1,none⟩) n1 _
 .rw[n0H,e2];exact b0W (b0W own2 (a:=⟨gc,0,none⟩) n2 _) (a:=⟨gc,1,none⟩) n2 _
 .intro g hg hg2;rcases at2 with e | e
  .rw[e]at hg2;rcases k1 with k | k
   .rw[k]at hg;cases hg
   .exact k (hg.trans hg2.symm)
  .rw[e]at hg2;have h1:=(own1.lt g hg).2;have:=J9 hg2;omega
 .intro g hg;rcases at1 with e | e
  .rw[e]at hg;exact h.b1 g hg
  .rw[e]at hg;have:=J9 hg;omega
 .intro g hg;rcases at2 with e | e
  .rw[e]at hg;exact h.b2 g hg
  .rw[e]at hg;have:=J9 hg;omega
def r0g:(Tryz.prog.info? 4).map (fun i=>(i.zero,i.size,i.bytes))=some (some (.bool false),1,1):=by kernel_rfl
def w0M (x:Nat):(b0d (x%2) 1==0)=decide (x%2=1):=by
 have h:=Hy x;rcases h with h | h
 .rw[h,b0H (by omega)];rfl
 .rw[h,c0F];rfl
def w0N (x:Nat):(b0d x 0==0)=decide (x=0):=by
 rcases M7 x with h | h
 .rw[h,c0F];rfl
 .rw[c0f h];have:decide (x=0)=false:=by simp;omega
  rw[this];rfl
def o0F {W w5:World}{b:Option Nat}(h:W.drew.grownBy w5 b):W.grownBy w5 b:=⟨h.os,h.tape,h.output,h.size,h.block⟩
def f0E {w W w5:World}{b:Option Nat}(h:Below w.heap.size w W)(g:W.grownBy w5 b)(hb:∀ k,b=some k->w.heap.size<=k):Below w.heap.size w w5:=
 h.trans ⟨g.os,g.tape,g.output,g.size,fun i hi=>g.block i (by have:=h.size;omega) (fun e=>by have:=hb _ e.symm;omega)⟩
def k0D (w:World)(m:Bool)(vN vD:Value)(N D n:Nat)(hn:n<=300)(h0:0<N)(hND:N<D)(hN:IsN .i64 w vN N)(hD:IsN .i64 w vD D)(hd:∀ j,j<=n->nDigits (N*2 ^ j)<=4000):
 Calls Tryz.prog 283 #[.agg #[.bool m,vN,vD],.int .i64 (n:Nat)] w fun e w'=>(∃ u1 u2,e=.returned (.agg #[u1,u2])/\Row w' u1 (bls (a0C N D) (n+1))/\Row w' u2 (bls (a0i N D) (n+1)))/\Below w.heap.size w w':=by
 obtain⟨i0,hi,hz0,hz1,hz2⟩:=Dj r0g;obtain⟨aN,cN,rfl,-,-,-⟩:=hN.openI;obtain⟨aD,cD,rfl,-,-,-⟩:=hD.openI;obtain⟨lN,hlN⟩:=gn ((limbs N).length);obtain⟨lD,hlD⟩:=gn ((limbs D).length);rw[hlN]at hN |-;rw[hlD]at hD |-;have HT:=hid (fun j=>t0j hND j);have HL1:Hid (∀ j,j<=n->(limbs (N*2 ^ j)).length<=1000000/\(limbs (2 ^ j)).length<=1000000/\(limbs (N*2 ^ j / D)).length<=1000000):=fun j hj=>⟨a0x (hd j hj),a0x (O0 (a0r (Ju _ h0)) (hd j hj)),a0x (O0 (a0r (Dp _ _)) (hd j hj))⟩
 have HLN:Hid ((limbs N).length<=1000000):=a0x (by have:=hd 0 (S4 _);simpa using this);have HD0:Hid (0<D):=by show 0<D;omega
 have S0:Hid ((sdx N D 0).2=true/\a0C N D 0=false/\a0i N D 0=false):=⟨by simp[sdx];omega,rfl,by simp[a0i];omega⟩;have H2:=fun V=>hid (c0y V 2 (O0 (a0l (k:=1) (by omega) (by omega)) (by omega)))
 rw[numB_two']at H2;have H1:=fun V=>hid (i0n V)
 have H0:=fun V=>hid (g0B V)
 have NN:=hid hN;have ND:=hid hD;have HN:=hid hn;obtain⟨W1,hW1⟩:=gn ((((((w.alloc (.cells #[.bool m,.slice aN lN cN,.slice aD lD cD] 81)).alloc (.cells #[.slice none 0 0,.slice none 0 0] 268)).alloc (.cells #[.bool false] 4)).alloc (.cells #[.bool false] 4)).alloc (.cells #[.slice (some ⟨w.heap.size+1+1,0,none⟩) 1 1,.slice (some ⟨w.heap.size+1+1+1,0,none⟩) 1 1] 268)));have B1:Hid (Below w.heap.size w W1):=by
  show Below w.heap.size w W1
  rw[<- hW1];exact ((((br0.alloc nr0 _).alloc (by simp) _).alloc (by simp<;>omega) _).alloc (by simp<;>omega) _).alloc (by simp<;>omega) _
 have K0:Hid (Blk W1 w.heap.size #[.bool m,.slice aN lN cN,.slice aD lD cD] 81):=by
  show Blk _ _ _ _
  rw[<- hW1];have h:=Blk.new w #[.bool m,.slice aN lN cN,.slice aD lD cD] 81;exact (((h.alloc _).alloc _).alloc _).alloc _
 have K1:Hid (Blk W1 (w.heap.size+1) #[.slice none 0 0,.slice none 0 0] 268):=by
  show Blk _ _ _ _
  rw[<- hW1];have h:=Blk.new (w.alloc (.cells #[.bool m,.slice aN lN cN,.slice aD lD cD] 81)) #[.slice none 0 0,.slice none 0 0] 268;rw[show (w.alloc (.cells #[.bool m,.slice aN lN cN,.slice aD lD cD] 81)).heap.size=w.heap.size+1 by simp]at h;exact ((h.alloc _).alloc _).alloc _
 have K2:Blk W1 (w.heap.size+1+1) #[.bool false] 4:=by
  rw[<- hW1];have h:=Blk.new ((w.alloc (.cells #[.bool m,.slice aN lN cN,.slice aD lD cD] 81)).alloc (.cells #[.slice none 0 0,.slice none 0 0] 268)) #[.bool false] 4;rw[show ((w.alloc (.cells #[.bool m,.slice aN lN cN,.slice aD lD cD] 81)).alloc (.cells #[.slice none 0 0,.slice none 0 0] 268)).heap.size=w.heap.size+1+1 by simp]at h;exact (h.alloc _).alloc _
 have K3:Blk W1 (w.heap.size+1+1+1) #[.bool false] 4:=by
  rw[<- hW1];have h:=Blk.new (((w.alloc (.cells #[.bool m,.slice aN lN cN,.slice aD lD cD] 81)).alloc (.cells #[.slice none 0 0,.slice none 0 0] 268)).alloc (.cells #[.bool false] 4)) #[.bool false] 4;rw[show (((w.alloc (.cells #[.bool m,.slice aN lN cN,.slice aD lD cD] 81)).alloc (.cells #[.slice none 0 0,.slice none 0 0] 268)).alloc (.cells #[.bool false] 4)).heap.size=w.heap.size+1+1+1 by simp]at h;exact h.alloc _
 have K4:Blk W1 (w.heap.size+1+1+1+1) #[.slice (some ⟨w.heap.size+1+1,0,none⟩) 1 1,.slice (some ⟨w.heap.size+1+1+1,0,none⟩) 1 1] 268:=by
  rw[<- hW1];have h:=Blk.new ((((w.alloc (.cells #[.bool m,.slice aN lN cN,.slice aD lD cD] 81)).alloc (.cells #[.slice none 0 0,.slice none 0 0] 268)).alloc (.cells #[.bool false] 4)).alloc (.cells #[.bool false] 4)) #[.slice (some ⟨w.heap.size+1+1,0,none⟩) 1 1,.slice (some ⟨w.heap.size+1+1+1,0,none⟩) 1 1] 268;rw[show ((((w.alloc (.cells #[.bool m,.slice aN lN cN,.slice aD lD cD] 81)).alloc (.cells #[.slice none 0 0,.slice none 0 0] 268)).alloc (.cells #[.bool false] 4)).alloc (.cells #[.bool false] 4)).heap.size=w.heap.size+1+1+1+1 by simp]at h;exact h
 have T1:Hid (TsS W1 w.heap.size (w.heap.size+1+1+1+1) (.slice (some ⟨w.heap.size+1+1,0,none⟩) 1 1) (.slice (some ⟨w.heap.size+1+1+1,0,none⟩) 1 1) 1 (a0C N D) (a0i N D)):=by
  refine⟨K4,⟨rfl,.inr ⟨_,1,_,rfl,by omega,K2,J4 _,by unfold maxLen;omega,rfl,?_⟩⟩,⟨rfl,.inr ⟨_,1,_,rfl,by omega,K3,J4 _,by unfold maxLen;omega,rfl,?_⟩⟩,?_,?_,?_,?_,?_⟩
  .show [Value.bool false] = [Value.bool (a0C N D 0)]
   rw[S0.out.2.1]
  .show [Value.bool false] = [Value.bool (a0i N D 0)]
   rw[S0.out.2.2]
  .simp[Value.ownBlock]
  .simp[Value.ownBlock]
  .intro g hg e;simp[Value.ownBlock]at hg e;omega
  .intro g hg;simp[Value.ownBlock]at hg;omega
  .intro g hg;simp[Value.ownBlock]at hg;omega
 clear hN hD hd hn h0 hND K2 K3 K4 hlN hlD;go_enter Tryz.func283,Tryz.ntmps283;go_wp2_with fail
 try rw[hW1]
 clear hW1;obtain⟨gc,hgc⟩:=gn (w.heap.size+1+1+1+1);rw[hgc]at T1 |-;have HGC:Hid (w.heap.size+1<gc):=by show w.heap.size+1<gc;omega
 clear hgc
 go_loopw [6,7] (fun s6 s7 wr=>∃ J v1 v2,s6=.bool ((sdx N D (J-1)).2)/\s7=.int .i64 (J:Nat)/\1<=J/\J<=n+1/\Hid (TsS wr w.heap.size gc v1 v2 J (a0C N D) (a0i N D))/\Hid (Blk wr w.heap.size #[.bool m,.slice aN lN cN,.slice aD lD cD] 81)/\Hid (Blk wr (w.heap.size+1) #[.slice none 0 0,.slice none 0 0] 268)/\Hid (Below w.heap.size w wr)) (fun s6 s7 wr=>n+1-(intOf s7).toNat)
 case atStart=>exact⟨1,_,_,by rw[S0.out.1],rfl,J4 _,by omega,T1,K0,K1,B1⟩
 case round=>
  clear T1 K0 K1 B1;obtain⟨J,v1,v2,rfl,rfl,hJ1,hJ2,hT,hK0,hK1,hB⟩:=hrel;by_cases hlt:J<=n
  .have d0:decide ((J:Int)<=(n:Int))=true:=by simp;omega
   have d0':decide (J<=n)=true:=by simp;omega
   obtain⟨t1,t2,t3⟩:=HT.out (J-1);rw[show J-1+1=J by omega]at t1 t2 t3;obtain⟨l1,l2,l3⟩:=HL1.out J hlt;have wi:IntKind.i64.wrap ((J:Int)+1)=((J+1:Nat):Int):=by have:=HN.out;rw[Q0 _ ⟨by omega,by omega⟩];omega
   have JL:=hid hlt;obtain⟨o,ho⟩:=gn ((sdx N D (J-1)).2);rw[ho]at t1 t2 t3 |-;have KB:Hid (∀ W,Below wr.heap.size wr W->W.cell? ⟨w.heap.size,1,none⟩=some (.slice aN lN cN)/\W.cell? ⟨w.heap.size,2,none⟩=some (.slice aD lD cD)):=fun W hW=>⟨(hK0.out.call hW).cell 1,(hK0.out.call hW).cell 2⟩
   have RN:=hid (NN.out.call hB.out);have RD:=hid (ND.out.call hB.out);have L1:=hid l1;have L2:=hid l2;have L3:=hid l3;have HT1:=hid t1;have HT2:=hid t2;have HT3:=hid t3;clear hlt hJ1 hJ2 ho t1 t2 t3 l1 l2 l3;go_wp2_with fail;refine a0m [0,1,2,5,6] 8 (fun W'=>W'.cell? ⟨w.heap.size,1,none⟩=some (.slice aN lN cN)/\W'.cell? ⟨w.heap.size,2,none⟩=some (.slice aD lD cD)) (by kernel_rfl) (by kernel_rfl) (by kernel_rfl) (by kernel_rfl) (KB.out _ br0.drew) ?_
   iterate 5
    refine⟨_,rfl,?_⟩;apply Exists.intro
    refine⟨.inl ⟨by rfl,?_⟩,?_⟩
    .rintro W' ⟨r1,r2⟩;go_simp;try with_reducible rfl
    go_frame
   refine a0c (i:=3) (by kernel_rfl) (by rfl) (by rfl) ?_;go_wp2_with fail;refine (m0I _ J (by have:=JL.out;have:=HN.out;omega)).mono ?_;rintro e wa ⟨⟨vt,rfl,hvt⟩,hba⟩;have A1:=hid (show Below wr.heap.size wr wa from br0.drew.trans hba);have VT:=hid hvt;clear hba hvt;go_wp2_with fail;refine⟨KB.out _ A1.out,?_⟩;refine a0c (i:=4) (by kernel_rfl) (by rfl) (by rfl) ?_;go_wp2_with fail;refine (b0m _ _ _ _ _ (RN.out.call A1.out) VT.out HLN.out L2.out).mono ?_;rintro e wb ⟨⟨vp,rfl,hvp⟩,hbb⟩;have A2:=hid (a0a A1.out hbb);have VP:=hid hvp;clear hbb hvp VT;go_wp2_with fail;refine⟨KB.out _ A2.out,?_⟩;refine a0c (i:=7) (by kernel_rfl) (by rfl) (by rfl) ?_;go_wp2_with fail;refine (g0E _ _ _ _ _ VP.out (RD.out.call A2.out) HD0.out L1.out).mono ?_;rintro e wc ⟨⟨vk,vr,rfl,hvk,hvr⟩,hbc⟩;have A3:=hid (a0a A2.out hbc);have VK:=hid hvk;have VR:=hid hvr;clear hbc hvk hvr VP;go_wp2_with fail;refine⟨KB.out _ A3.out,?_⟩;refine b0e (is:=[8,9,10,11,12]) (g:=0) (by kernel_rfl) rfl (KB.out _ A3.out) (by kernel_rfl) ?_
   iterate 5
    refine⟨_,rfl,?_⟩;apply Exists.intro
    refine⟨.inl ⟨by rfl,?_⟩,?_⟩
    .rintro W' ⟨r1,r2⟩;go_simp;try with_reducible rfl
    go_frame
   refine H8 (by kernel_rfl) ?_ _;simp only[b0h];go_wp2_with fail;refine (H2 _).out.mono ?_;rintro e wd ⟨⟨v2',rfl,hv2,-⟩,hbd⟩;have A4:=hid (a0a A3.out hbd);have VK4:=hid (VK.out.call hbd);have VR4:=hid (VR.out.call hbd);have V2:=hid hv2;clear hbd hv2;go_wp2_with fail;refine (g0E _ _ _ _ _ VK4.out V2.out (by omega) L3.out).mono ?_;rintro e we ⟨⟨vq,vo,rfl,-,hvo⟩,hbe⟩;have A5:=hid (a0a A4.out hbe);have VR5:=hid (VR4.out.call hbe);have VO:=hid hvo;clear hbe hvo;go_wp2_with fail;refine (H1 _).out.mono ?_;rintro e wf ⟨⟨v1',rfl,hv1,-⟩,hbf⟩;have A6:=hid (a0a A5.out hbf);have VR6:=hid (VR5.out.call hbf);have VO6:=hid (VO.out.call hbf);have V1:=hid hv1;clear hbf hv1;have oa:=w0M (N*2 ^ J / D);obtain⟨ab,hab⟩:=gn (decide (N*2 ^ J / D%2=1));rw[hab]at oa;have HAB:=hid hab;clear hab;go_wp2_with fail;refine (b0k _ _ _ _ _ VO6.out V1.out).mono ?_;rintro e wg ⟨rfl,hbg⟩;have A7:=hid (a0a A6.out hbg);have VR7:=hid (VR6.out.call hbg);clear hbg VO VO6 V1 V2;obtain⟨za,hza⟩:=gn (b0d (N*2 ^ J / D%2) 1);rw[hza]at oa |-;clear hza;cases ab
   focus
    have E1:Hid (a0C N D J=false/\a0i N D J=o/\(sdx N D J).2=o):=by
     refine⟨?_,?_,?_⟩
     .rw[HT1.out,HAB.out];cases o<;>rfl
     .rw[HT2.out,HAB.out];cases o<;>rfl
     .rw[HT3.out,HAB.out];cases o<;>rfl
    go_wp2_with fail;cases o
   rotate_left 2
   focus
    have oz:=w0N (N*2 ^ J%D);obtain⟨eq0,heq⟩:=gn (decide (N*2 ^ J%D=0));rw[heq]at oz;have HEQ:=hid heq;clear heq;go_wp2_with fail;refine (H0 _).out.mono ?_;rintro e wh ⟨⟨v0',rfl,hv0,-⟩,hbh⟩;have A8:=hid (a0a A7.out hbh);have VR8:=hid (VR7.out.call hbh);have V0:=hid hv0;clear hbh hv0;go_wp2_with fail;refine (b0k _ _ _ _ _ VR8.out V0.out).mono ?_;rintro e wg ⟨rfl,hbi⟩;have A7:=hid (a0a A8.out hbi);clear hbi V0 VR8;obtain⟨zb,hzb⟩:=gn (b0d (N*2 ^ J%D) 0);rw[hzb]at oz |-;clear hzb;cases eq0
    focus
     have E1:Hid (a0C N D J=o/\a0i N D J=false/\(sdx N D J).2=o):=by
      refine⟨?_,?_,?_⟩
      .rw[HT1.out,HAB.out];cases o<;>rfl
      .rw[HT2.out,HAB.out,HEQ.out];cases o<;>rfl
      .rw[HT3.out,HAB.out,HEQ.out];cases o<;>rfl
     go_wp2_with fail;cases o
    rotate_left 2
    focus
     have E1:Hid (a0C N D J=o/\a0i N D J=o/\(sdx N D J).2=false):=by
      refine⟨?_,?_,?_⟩
      .rw[HT1.out,HAB.out];cases o<;>rfl
      .rw[HT2.out,HAB.out,HEQ.out];cases o<;>rfl
      .rw[HT3.out,HAB.out,HEQ.out];cases o<;>rfl
     go_wp2_with fail;cases o
   all_goals
    obtain⟨x1,x2,x3⟩:=E1.out;have KC:Hid (∀ W,Below wr.heap.size wr W->W.cell? ⟨gc,0,none⟩=some v1/\W.cell? ⟨gc,1,none⟩=some v2):=fun W hW=>⟨(hT.out.call hW).blk.cell 0,(hT.out.call hW).blk.cell 1⟩
    have TA:=hid (hT.out.call A7.out);have jn:=JL.out;have hn9:=HN.out;have hgc9:=HGC.out;have K0A:=hid (hK0.out.call A7.out);have K1A:=hid (hK1.out.call A7.out);have BA:=hid (hB.out.trans (A7.out.mono hB.out.size));refine g0W 21 3 [] [(18,19),(17,18),(16,17),(11,17),(15,16),(14,16),(13,14),(12,13),(10,11)] [0,1,2,3,4,5,8,9,10] 12 (fun W'=>W'.cell? ⟨gc,0,none⟩=some v1/\W'.cell? ⟨gc,1,none⟩=some v2) (by kernel_rfl) (by kernel_rfl) (by kernel_rfl) (by kernel_rfl) (by kernel_rfl) (by kernel_rfl) (by kernel_rfl) (by kernel_rfl) (by kernel_rfl) (by kernel_rfl) (by kernel_rfl) (by kernel_rfl) (KC.out _ A7.out.drew) ?_;show d0T _ _ _ _ _ _
    iterate 9
     refine⟨_,rfl,?_⟩;apply Exists.intro
     first
      | (refine⟨.inl ⟨by rfl,?_⟩,?_⟩
         ·(rintro W' ⟨r1,r2⟩;go_simp;try with_reducible rfl))
      | refine⟨.inr ⟨by rfl,rfl⟩,?_⟩
     go_frame
    refine a0c (i:=6) (by kernel_rfl) (by rfl) (by rfl) ?_;go_wp2_with fail;refine⟨KC.out _ (a0a A7.out (br0.alloc nr0 _).drew),?_⟩;refine a0c (i:=7) (by kernel_rfl) (by rfl) (by rfl) ?_;refine Fj _ rfl _ _ 261 rfl w.heap.size 4 i0 (.bool false) 1 1 Tryz.underlying261 hi hz0 hz1 hz2 rfl (by decide) v1 J (bls (a0C N D) J) rfl (TA.out.o1.alloc _) ⟨wg.heap.size,0,none⟩ 1 1 [_] rfl rfl (Dh wg _ _) (by simp[Value.oneCell']) (by unfold maxLen;omega) (by omega) (by have:=BA.out.size;simp;omega) ?_;intro v1' w5 hown1 hgrow1 _ hat1;have hat1':v1'.ownBlock=v1.ownBlock\/v1'.ownBlock=some (wg.heap.size+1):=by simpa using hat1
    have G1:=hid (o0F hgrow1);have OW1:=hid hown1;have AT1:=hid hat1';obtain⟨p1,q1,rfl,-,-⟩:=hown1.form (Ed J);clear hown1 hgrow1 hat1 hat1';have Bk5:Hid (Blk w5 gc #[v1,v2] 268):=Blk.grown (TA.out.blk.alloc _) G1.out TA.out.n1;have Bb5:Hid (Blk w5 w.heap.size #[.bool m,.slice aN lN cN,.slice aD lD cD] 81):=Blk.grown (K0A.out.alloc _) G1.out (fun e=>by have:=TA.out.b1 _ e;omega);have Br5:Hid (Blk w5 (w.heap.size+1) #[.slice none 0 0,.slice none 0 0] 268):=Blk.grown (K1A.out.alloc _) G1.out (fun e=>by have:=TA.out.b1 _ e;omega);have Be5:=hid (f0E (BA.out.alloc BA.out.size _) G1.out (fun k e=>by have:=TA.out.b1 _ e;omega))
    have o25:w5.ownsRow w.heap.size 4 1 v2 J (bls (a0i N D) J):=(TA.out.o2.alloc _).kept G1.out (by
     cases hv:v2.ownBlock with
     | none=>exact .inl rfl
     | some g=>exact .inr fun e=>TA.out.n12 g e.symm hv)
    have O25:=hid o25;clear o25;go_wp2_with fail;refine⟨⟨Bk5.out.cell 0,Bk5.out.cell 1⟩,?_⟩;refine b0e (is:=[11,12,13,14,15,16,17,20]) (g:=2) (by kernel_rfl) rfl ⟨Bk5.out.cell 0,Bk5.out.cell 1⟩ (by kernel_rfl) ?_
    iterate 8
     refine⟨_,rfl,?_⟩;apply Exists.intro
     first
      | (refine⟨.inl ⟨by rfl,?_⟩,?_⟩
         ·(rintro W' ⟨r1,r2⟩;go_simp;try with_reducible rfl))
      | refine⟨.inr ⟨by rfl,rfl⟩,?_⟩
     go_frame
    refine a0c (i:=18) (by kernel_rfl) (by rfl) (by rfl) ?_;go_wp2_with fail;refine⟨⟨(Bk5.out.alloc _).cell 0,(Bk5.out.alloc _).cell 1⟩,?_⟩;refine a0c (i:=19) (by kernel_rfl) (by rfl) (by rfl) ?_;refine Fj _ rfl _ _ 261 rfl w.heap.size 4 i0 (.bool false) 1 1 Tryz.underlying261 hi hz0 hz1 hz2 rfl (by decide) v2 J (bls (a0i N D) J) rfl (O25.out.alloc _) ⟨w5.heap.size,0,none⟩ 1 1 [_] rfl rfl (Dh w5 _ _) (by simp[Value.oneCell']) (by unfold maxLen;omega) (by omega) (by have:=Be5.out.size;simp;omega) ?_;intro v2' w6 hown2 hgrow2 _ hat2;have hat2':v2'.ownBlock=v2.ownBlock\/v2'.ownBlock=some (w5.heap.size+1):=by simpa using hat2
    have G2:=hid hgrow2;have OW2:=hid hown2;have AT2:=hid hat2';obtain⟨p2,q2,rfl,-,-⟩:=hown2.form (Ed J);clear hown2 hgrow2 hat2 hat2';have Bk6:Hid (Blk w6 gc #[v1,v2] 268):=Blk.grown (Bk5.out.alloc _) G2.out TA.out.n2;have Bb6:Hid (Blk w6 w.heap.size #[.bool m,.slice aN lN cN,.slice aD lD cD] 81):=Blk.grown (Bb5.out.alloc _) G2.out (fun e=>by have:=TA.out.b2 _ e;omega);have Br6:Hid (Blk w6 (w.heap.size+1) #[.slice none 0 0,.slice none 0 0] 268):=Blk.grown (Br5.out.alloc _) G2.out (fun e=>by have:=TA.out.b2 _ e;omega);have Be6:=hid (f0E (Be5.out.alloc Be5.out.size _) G2.out (fun k e=>by have:=TA.out.b2 _ e;omega));go_wp2_with fail;refine⟨⟨Bk6.out.cell 0,Bk6.out.cell 1⟩,?_⟩;refine H8 (by kernel_rfl) ?_ _;simp only[b0h,c0w,Ab,A9];have TN:=hid (v0Q TA.out HGC.out x1 x2 OW1.out G1.out AT1.out OW2.out G2.out AT2.out);have c0:=Bk6.out.cell 0;have f0:=Bk6.out.free 0;have Bk7:=Bk6.out.set 0 (.slice (some ⟨p1,0,none⟩) (J+1) q1);have c1:=Bk7.cell 1;have f1:=Bk7.free 1;simp at c0 c1;have B7:=hid ((Be6.out.setCell (p:=⟨gc,0,none⟩) (by simp;omega) (.slice (some ⟨p1,0,none⟩) (J+1) q1)).setCell (p:=⟨gc,1,none⟩) (by simp;omega) (.slice (some ⟨p2,0,none⟩) (J+1) q2));have Bb7:=hid ((Bb6.out.other (a:=⟨gc,0,none⟩) (by simp;omega) (.slice (some ⟨p1,0,none⟩) (J+1) q1)).other (a:=⟨gc,1,none⟩) (by simp;omega) (.slice (some ⟨p2,0,none⟩) (J+1) q2));have Br7:=hid ((Br6.out.other (a:=⟨gc,0,none⟩) (by simp;omega) (.slice (some ⟨p1,0,none⟩) (J+1) q1)).other (a:=⟨gc,1,none⟩) (by simp;omega) (.slice (some ⟨p2,0,none⟩) (J+1) q2));clear Bk7;go_wp2_with fail;simp only[b0h];go_wp2_with fail;go_roundw
    case rel=>exact⟨J+1,_,_,by rw[Fd,x3],by go_num,by omega,by omega,TN,Bb7,Br7,B7⟩
    case measure=>simp[intOf]<;>omega
  .have d0:decide ((J:Int)<=(n:Int))=false:=by simp;omega
   have d0':decide (J<=n)=false:=by simp;omega
   obtain rfl:J=n+1:=by omega
   obtain⟨p1,q1,rfl,-,-⟩:=hT.out.o1.form (Ed n);obtain⟨p2,q2,rfl,-,-⟩:=hT.out.o2.form (Ed n);have k0:=hT.out.blk.cell 0;have k1:=hT.out.blk.cell 1;simp at k0 k1;have m0:=hK1.out.cell 0;have m1:=(hK1.out.set 0 (.slice (some ⟨p1,0,none⟩) (n+1) q1)).cell 1;have g0:=hK1.out.free 0;have g1:=(hK1.out.set 0 (.slice (some ⟨p1,0,none⟩) (n+1) q1)).free 1;simp at m0 m1;have BF:=hid ((hB.out.setCell (p:=⟨w.heap.size+1,0,none⟩) (by simp) (.slice (some ⟨p1,0,none⟩) (n+1) q1)).setCell (p:=⟨w.heap.size+1,1,none⟩) (by simp) (.slice (some ⟨p2,0,none⟩) (n+1) q2));have KF:=hid ((hK1.out.set 0 (.slice (some ⟨p1,0,none⟩) (n+1) q1)).set 1 (.slice (some ⟨p2,0,none⟩) (n+1) q2));have RF1:=hid (Row.of_owns (b0W (b0W hT.out.o1 (a:=⟨w.heap.size+1,0,none⟩) (fun e=>absurd (hT.out.b1 _ e) (Jn _)) (.slice (some ⟨p1,0,none⟩) (n+1) q1)) (a:=⟨w.heap.size+1,1,none⟩) (fun e=>absurd (hT.out.b1 _ e) (Jn _)) (.slice (some ⟨p2,0,none⟩) (n+1) q2)));have RF2:=hid (Row.of_owns (b0W (b0W hT.out.o2 (a:=⟨w.heap.size+1,0,none⟩) (fun e=>absurd (hT.out.b2 _ e) (Jn _)) (.slice (some ⟨p1,0,none⟩) (n+1) q1)) (a:=⟨w.heap.size+1,1,none⟩) (fun e=>absurd (hT.out.b2 _ e) (Jn _)) (.slice (some ⟨p2,0,none⟩) (n+1) q2)));clear hlt hJ1 hJ2;go_wp2_with fail;have f0:=KF.out.cell 0;have f1:=KF.out.cell 1;simp at f0 f1;refine Z6 (v:=.agg #[.slice (some ⟨p1,0,none⟩) (n+1) q1,.slice (some ⟨p2,0,none⟩) (n+1) q2]) (by simp[results,Tryz.results283,go_sem,f0,f1]) rfl ⟨⟨_,_,rfl,RF1.out,RF2.out⟩,BF.out⟩
def dF (c:Nat->Bool)(u:Nat->Nat)(i j k:Nat):Nat:=dlt k+aF c u i j k
def a1G {N D n i j:Nat}(h0:a0C N D 0=false)(hi:i<=n):dF (a0C N D) (uT (a0C N D) (a0i N D) n) i j i=uT (a0C N D) (a0i N D) n i:=by
 have h:=(f0P (zs:=a0i N D) h0 (n:=n) (i:=i) (by omega) i hi).1;unfold dF aF;have e:(if i<=i/\i<i+j/\a0C N D (i-i)=true then uT (a0C N D) (a0i N D) n i else 0)=0:=U0 fun hh=>by rw[Ce,h0]at hh;cases hh.2.2
 rw[e,Ac];exact h.symm
def b1N {N D n i j k:Nat}(h0:a0C N D 0=false)(hi:i<=n)(hk:k<=n):dF (a0C N D) (uT (a0C N D) (a0i N D) n) i j k<=uT (a0C N D) (a0i N D) n k:=by
 rw[s0O h0 hk];exact Iq (a1X hi hk) _
def y0N {N D n k:Nat}(h0:a0C N D 0=false)(hk:k<=n):uT (a0C N D) (a0i N D) n k<=2 ^ k:=(TB.outer (zs:=a0i N D) h0 n k (by omega)).src
def y0V {N D n k:Nat}(h0:a0C N D 0=false)(hk:k<=n):cvo (chi (a0i N D)) (uT (a0C N D) (a0i N D) n) k<=2 ^ (n+2):=by
 rw[<- m0r h0 hk];exact (TB.outer (zs:=a0i N D) h0 n (n+1) nr0).up2 k
def o0O (w:World)(m:Bool)(vN vD:Value)(N D n:Nat)(hn:n<=300)(h0:0<N)(hND:N<D)(hN:IsN .i64 w vN N)(hD:IsN .i64 w vD D)(hd:∀ j,j<=n->nDigits (N*2 ^ j)<=4000):
 Calls Tryz.prog 218 #[.agg #[.bool m,vN,vD],.int .i64 (n:Nat)] w fun e w'=>(∃ g c,e=.returned (.slice (some ⟨g,0,none⟩) (n+1) c)/\NTab w.heap.size w' g (n+1) c (fun k=>(b0L (a0C N D) (a0i N D) n (n+1)).2.getD k 0))/\Below w.heap.size w w':=by
 obtain⟨aN,cN,rfl,-,-,-⟩:=hN.openI;obtain⟨aD,cD,rfl,-,-,-⟩:=hD.openI;obtain⟨lN,hlN⟩:=gn ((limbs N).length);obtain⟨lD,hlD⟩:=gn ((limbs D).length);rw[hlN]at hN |-;rw[hlD]at hD |-;have HT:=fun V hV1 hV2=>hid (k0D V m (.slice aN lN cN) (.slice aD lD cD) N D n hn h0 hND hV1 hV2 hd)
 have NN:=hid hN;have ND:=hid hD;have HN:=hid hn;clear hN hD hd;go_enter Tryz.func218,Tryz.ntmps218;go_wp2_with fail;have C0:=hid ((Z3 w.heap.size w).alloc nr0 (.cells #[.bool m,.slice aN lN cN,.slice aD lD cD] 81));refine (HT _ (NN.out.call C0.out) (ND.out.call C0.out)).out.mono ?_;rintro e w1 ⟨⟨u1,u2,rfl,hu1,hu2⟩,hb1⟩;obtain⟨a1,c1,rfl,p1,p2,-⟩:=hu1.ex;obtain⟨a2,c2,rfl,p3,p4,-⟩:=hu2.ex;simp only[s0q]at p1 p3 hu1 hu2 |-;have HZ:=fun V=>hid (e0S V n (by omega))
 have HR:=fun V=>hid (i0n V)
 have Z1:Hid (a0C N D 0=false/\a0i N D 0=false):=⟨rfl,by simp[a0i];omega⟩;have EQ:Hid (∀ k,k<=n->dF (a0C N D) (uT (a0C N D) (a0i N D) n) (n+1) 1 k=uT (a0C N D) (a0i N D) n k):=fun k hk=>by
  unfold dF;rw[v0O hk,<- s0O Z1.out.1 hk]
 obtain⟨WA,hWA⟩:=gn ((w1.alloc (.cells #[.slice a1 (n+1) c1,.slice a2 (n+1) c2] 268)));have BA:Hid (Below w.heap.size w WA):=by
  show Below w.heap.size w WA
  rw[<- hWA];have h1:=(C0.out.trans (hb1.mono C0.out.size));exact h1.alloc h1.size _
 have BB:Hid (Below w1.heap.size w1 WA):=by
  show Below w1.heap.size w1 WA
  rw[<- hWA];exact br0.alloc nr0 _
 have KA:Hid (Blk WA w1.heap.size #[.slice a1 (n+1) c1,.slice a2 (n+1) c2] 268):=by
  show Blk _ _ _ _
  rw[<- hWA];exact Blk.new w1 _ _
 have U1:=hid (hu1.call BB.out);have U2:=hid (hu2.call BB.out);obtain⟨gc,hgc⟩:=gn (w1.heap.size);rw[hgc]at KA;clear hu1 hu2 hb1 BB;go_wp2_with fail
 try rw[hWA]
 try rw[hgc]
 clear hWA hgc;refine (HZ _).out.mono ?_;rintro e w2 ⟨⟨g,c,rfl,ht⟩,hb2⟩;have T0:=hid ht;have B2:=hid hb2;clear ht hb2;go_wp2_with fail;refine (HR _).out.mono ?_;rintro e w3 ⟨⟨v1,rfl,hv1,hf1⟩,hb3⟩;obtain⟨av,cv,rfl,-,-,-⟩:=hv1.openI;obtain⟨lv,hlv⟩:=gn ((limbs 1).length);rw[hlv]at hv1 hf1 |-;have B3:=hid (a0a B2.out hb3);have T1:=hid (T0.out.call hb3);have F1:Hid (∀ g',(Value.slice av lv cv).ownBlock=some g'->WA.heap.size<=g'/\g'≠g):=fun g' hg=>by
  have h1:w2.heap.size<=g':=hf1 g' hg;have h2:=T0.out.slot;have h3:=B2.out.size;exact⟨by omega,by omega⟩
 have V1:=hid hv1;have fr:=T1.out.slot.2.2.2.2 0;obtain⟨x0,cx0,-,-⟩:=T1.out.at (i:=0) (by omega);have e0':(0:Int)<(n:Int)+1:=by omega
 have T2:Hid (NTab WA.heap.size (w3.setCell ⟨g,0,none⟩ (.slice av lv cv)) g (n+1) c (dF (a0C N D) (uT (a0C N D) (a0i N D) n) 0 1)):=(T1.out.put 0 V1.out (.inr F1.out)).fn fun k hk=>by
  unfold dF;rw[s0x _ Z1.out.1,Ac]
  rfl
 have B4:=hid (B3.out.setCell (p:=⟨g,0,none⟩) (by have:=T1.out.slot.1;exact this) (.slice av lv cv));clear hlv hv1 hf1 hb3;go_wp2_with fail;clear cx0 T0 T1 fr e0' F1 V1 B2 B3 HR HT HZ;have SZ:Hid (gc<WA.heap.size):=KA.out.lt;have CC:=hid (KA.out.cell 0);have CC2:=hid (KA.out.cell 1);have HDF:Hid (∀ i j k,i<=n->k<=n->(limbs (dF (a0C N D) (uT (a0C N D) (a0i N D) n) i j k)).length<=1000000):=fun i j k hi hk=>a0x (a0b (O0 (b1N Z1.out.1 hi hk) (y0N Z1.out.1 hk)) (by omega))
 have HBL:Hid (∀ j,j<n+1->∃ gb ob,a1=some ⟨gb,ob,none⟩/\gb<WA.heap.size/\WA.cell? ⟨gb,ob+j,none⟩=some (.bool (a0C N D j))):=fun j hj=>U1.out.at (by unfold bls;rw[Ea,Es hj];rfl)
 go_loopw [7] (fun s7 wr=>∃ i:Nat,s7=.int .i64 (i:Nat)/\i<=n+1/\Hid (NTab WA.heap.size wr g (n+1) c (dF (a0C N D) (uT (a0C N D) (a0i N D) n) i 1))/\Hid (Below WA.heap.size WA wr)) (fun s7 wr=>n+1-(intOf s7).toNat)
 case atStart=>exact⟨0,rfl,S4 _,T2,B4⟩
 case round=>
  clear T2 B4;obtain⟨i,rfl,hi,hT,hB⟩:=hrel;by_cases hlt:i<=n
  .have d0:decide (i<=n)=true:=by simp;omega
   have f0:(0:Int)<=(i:Int):=by omega
   have f1:(i:Int)<((n+1:Nat):Int):=by omega
   have f1':(i:Int)<(n:Int)+1:=by omega
   have f9:(i:Int)<=1000:=by have:=HN.out;omega
   have IL:=hid hlt;clear hi hlt;go_wp2_with fail
   go_loopw [8] (fun s8 wq=>∃ j:Nat,s8=.int .i64 (j:Nat)/\1<=j/\(i+j<=n+1\/j=1)/\Hid (NTab WA.heap.size wq g (n+1) c (dF (a0C N D) (uT (a0C N D) (a0i N D) n) i j))/\Hid (Below WA.heap.size WA wq)) (fun s8 wq=>n+2-(intOf s8).toNat)
   case atStart=>exact⟨1,rfl,J4 _,.inr rfl,hT,hB⟩
   case round=>
    clear hT hB;obtain⟨j,rfl,hj1,hj,hT,hB⟩:=hrel;have wij:IntKind.i64.wrap ((i:Int)+(j:Int))=(i:Int)+(j:Int):=by have:=HN.out;rw[Q0 _ ⟨by omega,by omega⟩]
    by_cases hlt:i+j<n+1
    .have q1:decide ((i:Int)+(j:Int)<=(n:Int))=true:=by simp;omega
     have f2:(0:Int)<=(j:Int):=by omega
     have f3:(j:Int)<((n+1:Nat):Int):=by omega
     have f3':(j:Int)<(n:Int)+1:=by omega
     have f4:(0:Int)<=(i:Int)+(j:Int):=by omega
     have f5:(i:Int)+(j:Int)<((n+1:Nat):Int):=by omega
     have f5':(i:Int)+(j:Int)<(n:Int)+1:=by omega
     have f6:(j:Int)<=1000:=by have:=HN.out;omega
     have et:((i:Int)+(j:Int)).toNat=i+j:=by omega
     have JL:=hid hlt;obtain⟨gb,ob,eb,hgb,hb1⟩:=HBL.out j (by omega);subst eb;have cb1:=(hB.out.cell (p:=⟨gb,ob+j,none⟩) hgb).trans hb1;have cc:=(hB.out.cell (p:=⟨gc,0,none⟩) SZ.out).trans CC.out;obtain⟨bj,hbj⟩:=gn (a0C N D j);rw[hbj]at cb1;have HBJ:=hid hbj;have J1:=hid hj1;clear hj hlt hb1 hbj hgb;cases bj
     .have T2:Hid (NTab WA.heap.size wr g (n+1) c (dF (a0C N D) (uT (a0C N D) (a0i N D) n) i (j+1))):=hT.out.fn fun k _=>by unfold dF;rw[s0z HBJ.out k]
      clear hj1;go_wp2_with fail;go_roundw
      case rel=>exact⟨j+1,by go_num,by omega,.inl (by have:=JL.out;omega),T2,hB⟩
      case measure=>simp[intOf]<;>(have:=JL.out;omega)
     .obtain⟨x,cx,hx,-⟩:=hT.out.at (i:=i+j) JL.out;obtain⟨y,cy,hy,-⟩:=hT.out.at (i:=i) (by have:=IL.out;omega);rw[a1G Z1.out.1 IL.out]at hy;have XN:=hid hx;have YN:=hid hy;clear hx hy hj1;go_wp2_with fail;refine b0a 15 2 [0,1,2,3,4,5,6,7,8,9,10,11,12,13] 1 (fun W'=>W'.cell? ⟨g,i+j,none⟩=some x/\W'.cell? ⟨g,i,none⟩=some y) (by kernel_rfl) rfl (by kernel_rfl) (by kernel_rfl) (by kernel_rfl) (by kernel_rfl) ⟨cx,cy⟩ ?_
      iterate 14
       refine⟨_,rfl,?_⟩;apply Exists.intro
       refine⟨.inl ⟨by rfl,?_⟩,?_⟩
       .rintro W' ⟨r1,r2⟩;go_simp;try with_reducible rfl
       go_frame
      refine a0c (i:=14) (by kernel_rfl) (by rfl) (by rfl) ?_;go_wp2_with fail;refine (c0z _ _ _ _ _ (XN.out.call br0.drew) (YN.out.call br0.drew) (HDF.out i j (i+j) IL.out (by have:=JL.out;omega)) (by have:=HDF.out i 1 i IL.out IL.out;rwa[a1G Z1.out.1 IL.out]at this)).mono ?_;rintro e w5 ⟨⟨zz,rfl,hz,hf⟩,hbc⟩;obtain⟨az1,cz1,rfl,-,-,-⟩:=hz.openI;obtain⟨lz1,hlz⟩:=gn ((limbs (dF (a0C N D) (uT (a0C N D) (a0i N D) n) i j (i+j)+uT (a0C N D) (a0i N D) n i)).length);rw[hlz]at hz hf |-;clear hlz;have C1:=hid (show Below wr.heap.size wr w5 from br0.drew.trans hbc);have T1:=hid (hT.out.call C1.out);have Z9:=hid hz;have FZ1:Hid (∀ g',(Value.slice az1 lz1 cz1).ownBlock=some g'->WA.heap.size<=g'/\g'≠g):=fun g' hg=>by
       have h1:wr.heap.size<=g':=hf g' hg;have h2:=hT.out.slot;have h3:=hB.out.size;exact⟨by omega,by omega⟩
      have m1:=(C1.out.cell (a0e cx)).trans cx;have m2:=(C1.out.cell (a0e cy)).trans cy;have B5:=hid (hB.out.trans (C1.out.mono hB.out.size));clear hz hf hbc cx cy cb1 cc;go_wp2_with fail;refine⟨⟨m1,m2⟩,?_⟩;refine H8 (by kernel_rfl) ?_ _;simp only[b0h,c0w,Ab,A9];have m3:=T1.out.slot.2.2.2.2 (i+j);have T2:Hid (NTab WA.heap.size (w5.setCell ⟨g,i+j,none⟩ (.slice az1 lz1 cz1)) g (n+1) c (dF (a0C N D) (uT (a0C N D) (a0i N D) n) i (j+1))):=(T1.out.put (i+j) Z9.out (.inr FZ1.out)).fn fun k hk=>by
       unfold dF;rw[s0y HBJ.out];by_cases e:k=i+j
       .rw[J2 e,J2 e,e,Bn]
       .rw[U0 e,U0 e]
      have B6:=hid (B5.out.setCell (p:=⟨g,i+j,none⟩) (by have:=hT.out.slot.1;exact this) (.slice az1 lz1 cz1));go_wp2_with fail
      try simp only[b0h]
      go_roundw
      case rel=>exact⟨j+1,by go_num,by have:=J1.out;omega,.inl (by have:=JL.out;omega),T2,B6⟩
      case measure=>simp[intOf]<;>(have:=JL.out;omega)
    .have q1:decide ((i:Int)+(j:Int)<=(n:Int))=false:=by simp;omega
     have f6:(j:Int)<=1002:=by have:=HN.out;omega
     have e2:j=n+1-i:=by have:=IL.out;omega
     subst e2;have T2:Hid (NTab WA.heap.size wr g (n+1) c (dF (a0C N D) (uT (a0C N D) (a0i N D) n) (i+1) 1)):=hT.out.fn fun k hk=>by
      unfold dF;rw[s0A Z1.out.1 IL.out (by omega)]
     clear hj hlt hj1;go_wp2_with fail;go_roundw
     case rel=>exact⟨i+1,by go_num,by have:=IL.out;omega,T2,hB⟩
     case measure=>simp[intOf]<;>(have:=IL.out;omega)
  .have e1:i=n+1:=by omega
   subst e1;have d0:decide ((n:Int)+1<=(n:Int))=false:=by simp;omega
   have TE:Hid (NRow wr (.slice (some ⟨g,0,none⟩) (n+1) c) (n+1) (uT (a0C N D) (a0i N D) n)):=(hT.out.fn fun k hk=>EQ.out k (by omega)).row;have cc2:=(hB.out.cell (p:=⟨gc,1,none⟩) SZ.out).trans CC2.out;have U3:=hid (U2.out.call hB.out);clear hi hlt;go_wp2_with fail;refine (j0a _ _ _ n (uT (a0C N D) (a0i N D) n) (a0i N D) (by have:=HN.out;omega) TE.out U3.out Z1.out.2 (fun k hk=>⟨a0b (y0V Z1.out.1 hk) (by have:=HN.out;omega),a0b (y0N Z1.out.1 hk) (by have:=HN.out;omega)⟩)).mono ?_;rintro e w9 ⟨⟨g9,c9,rfl,ht9⟩,hb9⟩;have BF:=hid (BA.out.trans ((hB.out.trans (hb9.mono hB.out.size)).mono BA.out.size));have TF:Hid (NTab w.heap.size w9 g9 (n+1) c9 (fun k=>(b0L (a0C N D) (a0i N D) n (n+1)).2.getD k 0)):=(ht9.mono (O0 BA.out.size hB.out.size)).fn fun k hk=>(m0r Z1.out.1 (by omega)).symm
   clear ht9 hb9;go_wp2_with fail;go_ret
   exact⟨⟨g9,c9,rfl,TF.out⟩,BF.out⟩
def u0h:(Tryz.prog.info? 204).map (fun i=>(i.zero,i.size,i.bytes))=some (some (.slice none 0 0),1,24):=by kernel_rfl
def u0F (w:World)(m:Bool)(vN vD:Value)(N D n:Nat)(hn:n<=32)(h0:0<N)(hND:N<D)(hN:IsN .i64 w vN N)(hD:IsN .i64 w vD D)(hd:∀ j,j<=n->nDigits (N*2 ^ j)<=4000):
 Calls Tryz.prog 241 #[.agg #[.bool m,vN,vD],.int .i64 (n:Nat)] w fun e w'=>(∃ v,e=.returned v/\NSeg w.heap.size w' v (n+1) (n+1) (edn N D))/\Below w.heap.size w w':=by
 obtain⟨i0,hi,hz0,hz1,hz2⟩:=Dj u0h;obtain⟨aN,cN,rfl,-,-,-⟩:=hN.openI;obtain⟨aD,cD,rfl,-,-,-⟩:=hD.openI;obtain⟨lN,hlN⟩:=gn ((limbs N).length);obtain⟨lD,hlD⟩:=gn ((limbs D).length);rw[hlN]at hN |-;rw[hlD]at hD |-;have HT:=fun V hV1 hV2=>hid (k0D V m (.slice aN lN cN) (.slice aD lD cD) N D n (by omega) h0 hND hV1 hV2 hd)
 have NN:=hid hN;have ND:=hid hD;have HN:=hid hn;clear hN hD hd;go_enter Tryz.func241,Tryz.ntmps241;go_wp2_with fail;have C0:=hid ((Z3 w.heap.size w).alloc nr0 (.cells #[.bool m,.slice aN lN cN,.slice aD lD cD] 81));refine (HT _ (NN.out.call C0.out) (ND.out.call C0.out)).out.mono ?_;rintro e w1 ⟨⟨u1,u2,rfl,hu1,hu2⟩,hb1⟩;obtain⟨a1,c1,rfl,p1,p2,-⟩:=hu1.ex;obtain⟨a2,c2,rfl,p3,p4,-⟩:=hu2.ex;simp only[s0q]at p1 p3 hu1 hu2 |-;have HZ:=fun V=>hid (e0S V n (by omega))
 have HR:=fun V=>hid (i0n V)
 have Z1:Hid (a0C N D 0=false/\a0i N D 0=false):=⟨rfl,by simp[a0i];omega⟩;obtain⟨WA,hWA⟩:=gn ((w1.alloc (.cells #[.slice a1 (n+1) c1,.slice a2 (n+1) c2] 268)));have BA:Hid (Below w.heap.size w WA):=by
  show Below w.heap.size w WA
  rw[<- hWA];have h1:=(C0.out.trans (hb1.mono C0.out.size));exact h1.alloc h1.size _
 have BB:Hid (Below w1.heap.size w1 WA):=by
  show Below w1.heap.size w1 WA
  rw[<- hWA];exact br0.alloc nr0 _
 have KA:Hid (Blk WA w1.heap.size #[.slice a1 (n+1) c1,.slice a2 (n+1) c2] 268):=by
  show Blk _ _ _ _
  rw[<- hWA];exact Blk.new w1 _ _
 have U1:=hid (hu1.call BB.out);have U2:=hid (hu2.call BB.out);obtain⟨gc,hgc⟩:=gn (w1.heap.size);rw[hgc]at KA;clear hu1 hu2 hb1 BB;go_wp2_with fail
 try rw[hWA]
 try rw[hgc]
 clear hWA hgc;refine (HZ _).out.mono ?_;rintro e w2 ⟨⟨g,c,rfl,ht⟩,hb2⟩;have T0:=hid ht;have B2:=hid hb2;clear ht hb2;go_wp2_with fail;refine (HR _).out.mono ?_;rintro e w3 ⟨⟨v1,rfl,hv1,hf1⟩,hb3⟩;obtain⟨av,cv,rfl,-,-,-⟩:=hv1.openI;obtain⟨lv,hlv⟩:=gn ((limbs 1).length);rw[hlv]at hv1 hf1 |-;have B3:=hid (a0a B2.out hb3);have T1:=hid (T0.out.call hb3);have F1:Hid (∀ g',(Value.slice av lv cv).ownBlock=some g'->WA.heap.size<=g'/\g'≠g):=fun g' hg=>by
  have h1:w2.heap.size<=g':=hf1 g' hg;have h2:=T0.out.slot;have h3:=B2.out.size;exact⟨by omega,by omega⟩
 have V1:=hid hv1;have fr:=T1.out.slot.2.2.2.2 0;obtain⟨x0,cx0,-,-⟩:=T1.out.at (i:=0) (by omega);have e0':(0:Int)<(n:Int)+1:=by omega
 have T2:Hid (NTab WA.heap.size (w3.setCell ⟨g,0,none⟩ (.slice av lv cv)) g (n+1) c (opn N D 0)):=(T1.out.put 0 V1.out (.inr F1.out)).fn fun k hk=>rfl
 have B4:=hid (B3.out.setCell (p:=⟨g,0,none⟩) (by have:=T1.out.slot.1;exact this) (.slice av lv cv));clear hlv hv1 hf1 hb3;go_wp2_with fail;have X0:Hid (NRowX (w3.setCell ⟨g,0,none⟩ (.slice av lv cv)) (.slice (some ⟨g,0,none⟩) (n+1) c) (n+1) (opn N D 0) (.slice none 0 0)):=NRowX.of T2.out fun b hb=>by simp[Value.ownBlock]at hb
 clear cx0 T0 T1 T2 fr e0' F1 V1 B2 B3 HR HT HZ;have SZ:Hid (gc<WA.heap.size):=KA.out.lt;have CC:=hid (KA.out.cell 0);have CC2:=hid (KA.out.cell 1)
 go_loopw [6,7,8] (fun s6 s7 s8 wr=>∃ (k G C:Nat),s6=.slice (some ⟨G,0,none⟩) (n+1) C/\s8=.int .i64 (k:Nat)/\k<=n+1/\Hid (NRowX wr s6 (n+1) (opn N D k) s7)/\Hid (NSeg WA.heap.size wr s7 k (n+1) (edn N D))/\Hid (Below WA.heap.size WA wr)) (fun s6 s7 s8 wr=>n+1-(intOf s8).toNat)
 case atStart=>exact⟨0,g,c,rfl,rfl,S4 _,X0,NSeg.nil _ _ _ _,B4⟩
 case round=>
  clear X0 B4;obtain⟨k,G,C,rfl,rfl,hk,hX,hO,hB⟩:=hrel;by_cases hlt:k<=n
  .have d0:decide (k<=n)=true:=by simp;omega
   have wi:IntKind.i64.wrap ((k:Int)+1)=((k+1:Nat):Int):=by have:=HN.out;rw[Q0 _ ⟨by omega,by omega⟩];omega
   have cc2:wr.cell? ⟨gc,1,none⟩=some (.slice a2 (n+1) c2):=(hB.out.cell (p:=⟨gc,1,none⟩) SZ.out).trans CC2.out;have U3:=hid (U2.out.call hB.out);have XR:=hid hX.out.row;have KL:=hid hlt;clear hk hlt;go_wp2_with fail;refine (j0a _ _ _ n (opn N D k) (a0i N D) (by have:=HN.out;omega) XR.out U3.out Z1.out.2 (fun s hs=>⟨a0b (n0s HN.out k s hs) (by have:=HN.out;have:=KL.out;omega),a0b (g0L HN.out k s hs) (by have:=HN.out;have:=KL.out;omega)⟩)).mono ?_;rintro e wz ⟨⟨gz,cz,rfl,htz⟩,hbz⟩;have BZ:=hid hbz;have TZ:=hid htz;clear hbz htz;obtain⟨vs,HO0,HO1⟩:=id hO.out;have HOO:=hid HO0;have HO9:=hid HO1;obtain⟨ar,cr,rfl⟩:=b0i HO0;clear HO0 HO1;have hk9:=KL.out;go_wp2_with (at_builtin;refine Fj _ rfl _ _ 226 rfl WA.heap.size 204 i0 (.slice none 0 0) 1 24 Tryz.underlying226 hi hz0 hz1 hz2 rfl (by decide) _ k vs rfl ((HOO.out.kept (a0T BZ.out none) (by cases ar<;>simp[Value.ownBlock])).alloc _) ⟨wz.heap.size,0,none⟩ 1 1 [.slice (some ⟨gz,0,none⟩) (n+1) cz] rfl rfl (Dh wz (.slice (some ⟨gz,0,none⟩) (n+1) cz) 204) (by simp[Value.oneCell']) (by unfold maxLen;omega) (by omega) (by have:=hB.out.size;have:=BZ.out.size;simp;omega) ?_;intro v' w5 hown hgrow _ hat;have HO5:=hid hown;have HG5:=hid hgrow;have HA5:=hid hat;clear hown hgrow hat;have B5:=hid (k0h HOO.out hB.out BZ.out HG5.out);have cc5:w5.cell? ⟨gc,0,none⟩=some (.slice a1 (n+1) c1):=(B5.out.cell (p:=⟨gc,0,none⟩) SZ.out).trans CC.out)
   have N5:=hid (NSeg.next (f:=edn N D) (Ed n) HOO.out HO9.out BZ.out TZ.out HO5.out HG5.out HA5.out);have X5:=hid (((hX.out.call BZ.out).call (br0.alloc nr0 _)).grow (Ed n) HG5.out HA5.out);have XR5:=hid X5.out.row;have U5:=hid (U1.out.call B5.out);have OL5:Hid (∀ b,v'.ownBlock=some b->b<w5.heap.size):=fun b hb=>(HO5.out.lt b hb).2
   clear HO5 HG5 HA5 hk9 cc2;refine (j0a _ _ _ n (opn N D k) (a0C N D) (by have:=HN.out;omega) XR5.out U5.out Z1.out.1 (fun s hs=>⟨a0b (g0L HN.out (k+1) s hs) (by have:=HN.out;have:=KL.out;omega),a0b (g0L HN.out k s hs) (by have:=HN.out;have:=KL.out;omega)⟩)).mono ?_;rintro e w6 ⟨⟨g6,c6,rfl,ht6⟩,hb6⟩;have X6:Hid (NRowX w6 (.slice (some ⟨g6,0,none⟩) (n+1) c6) (n+1) (opn N D (k+1)) v'):=NRowX.of ht6 OL5.out;have N6:=hid (N5.out.call hb6);have B6:=hid (a0a B5.out hb6);clear ht6 hb6;go_wp2_with fail;go_roundw
   case rel=>exact⟨k+1,_,_,rfl,by go_num,by have:=KL.out;omega,X6,N6,B6⟩
   case measure=>simp[intOf]<;>(have:=KL.out;omega)
  .have e1:k=n+1:=by omega
   subst e1;have d0:decide ((n:Int)+1<=(n:Int))=false:=by simp;omega
   have BF:=hid (BA.out.trans (hB.out.mono BA.out.size));have NF:=hid (hO.out.mono BA.out.size);clear hk hlt;go_wp2_with fail;go_ret
   exact⟨⟨_,rfl,NF.out⟩,BF.out⟩
def ttF (N D n k:Nat):Nat:=(b0L (a0C N D) (a0i N D) n (n+1)).2.getD k 0
def t2F (N D n i:Nat):Nat:=a0k (fun i=>ttF N D n i*cw (n-i) (f0A N D)) i
section
variable {N D : Nat} (h : N < D)
include h
theorem j0D {n m:Nat}(hm:m<=n):cvo (ttF N D n) pw2 m=cw m (f0A N D):=i0g h n hm
theorem v0V (n:Nat):t2F N D n (n+1)=cw n (d0y N D):=n0w h n
omit h in
theorem r0U (n:Nat)(P:List UInt8->Bool):cw n P<=2 ^ n:=by have:=k0H P n;omega
theorem z0a {n i:Nat}(hi:i<=n+1):t2F N D n i<=2 ^ n:=O0 (a0K hi) (by rw[show a0k (fun i=>ttF N D n i*cw (n-i) (f0A N D)) (n+1)=cw n (d0y N D) from n0w h n];exact r0U _ _)
theorem y0U {n i:Nat}(hi:i<=n):ttF N D n i<=2 ^ n:=O0 (i0Z _ _) (by rw[j0D h hi];exact O0 (r0U _ _) (H6 (by omega) hi))
end
def o0N (w:World)(a:ByteArray)(n:Nat)(two:Bool)(ha:a.size<=100000)(he:gPE a=0)(hn:n<=256)(h0:a≠⟨#[48]⟩):
 Calls Tryz.prog 147 #[.string a,.int .i64 (n:Nat),.bool two] w fun e w'=>e=.returned (.tuple #[.string (shB (gL (bN (cW a)) (bN (qD a)) two n) (2 ^ n)),.int .i64 0])/\Below w.heap.size w w':=by
 have HA:=hid (b0V w a (by omega));rw[he]at HA;obtain⟨hq,hm⟩:=i0o he;have HR:=fun V=>hid (i0s V a (by omega))
 rw[hq,b0O hm,hm]at HR;obtain⟨N,hN⟩:=gn (bN (cW a));obtain⟨D,hD⟩:=gn (bN (qD a));have hND:=(c0h he).2;have hpos:=g0C he h0;have hdg:∀ j,j<=n->nDigits (N*2 ^ j)<=4000:=fun j hj=>by rw[<- hN];exact j0U he (by omega)
 rw[hN]at HR hND hpos;rw[hD]at HR hND;rw[hN,hD];have HT:=fun V m v1 v2 k1 k2=>hid (o0O V m v1 v2 N D n (by omega) hpos hND k1 k2 hdg)
 have HND:=hid hND;have HN:=hid hn;have n0:(decide ((n:Int)<0))=false:=by simp
 have n1:(decide ((256:Int)<(n:Int)))=false:=by simp;omega
 have ze:(a.toList == [48])=false:=by
  have e:a.toList=a.data.toList:=Kt a;rw[e,U4];exact fun e=>h0 (b0c e)
 clear ha he hq hm hN hD hND hpos hdg h0;go_enter Tryz.func147,Tryz.ntmps147;go_wp2_with fail;refine HA.out.mono ?_;rintro e w1 ⟨rfl,hb1⟩;have B1:=hid hb1;clear hb1 HA;go_wp2_with fail;refine (HR _).out.mono ?_;rintro e w2 ⟨⟨v,rfl,hv,-⟩,hb2⟩;obtain⟨vN,vD,rfl,hvN,hvD⟩:=hv rfl;obtain⟨aN,cN,rfl,-,-,-⟩:=hvN.openI;obtain⟨aD,cD,rfl,-,-,-⟩:=hvD.openI;have B2:=hid (a0a B1.out hb2);obtain⟨lN,hlN⟩:=gn ((limbs N).length);obtain⟨lD,hlD⟩:=gn ((limbs D).length);rw[hlN]at hvN |-;rw[hlD]at hvD |-;have C2:=hid ((Z3 w2.heap.size w2).alloc nr0 (.cells #[.bool false,.slice aN lN cN,.slice aD lD cD] 81));have VN:=hid (hvN.call C2.out);have VD:=hid (hvD.call C2.out);have B3:=hid (a0a B2.out C2.out);clear hv hb2 hvN hvD hlN hlD HR;go_wp2_with fail;refine (HT _ _ _ _ VN.out VD.out).out.mono ?_;rintro e w3 ⟨⟨gl,cl,rfl,htl⟩,hb3⟩;have TL:Hid (NTab w.heap.size w3 gl (n+1) cl (ttF N D n)):=htl.mono B3.out.size;have B4:=hid (a0a B3.out hb3);have HDP:Hid (∀ i,i<=n->nDigits (cvo (ttF N D n) pw2 i)<=4000):=fun i hi=>by
  rw[j0D HND.out hi];exact a0b (r0U _ _) (by have:=HN.out;omega)
 clear htl hb3 HT VN VD;go_wp2_with fail;refine (k0C _ _ n (ttF N D n) (by have:=HN.out;omega) TL.out.row HDP.out).mono ?_;rintro e w4 ⟨⟨gd,cd,rfl,htd⟩,hb4⟩;have TD:=hid (htd.mono B4.out.size);have TL4:=hid (TL.out.call hb4);have B5:=hid (a0a B4.out hb4);clear htd hb4 TL;obtain⟨xd,cxd,hxd,-⟩:=TD.out.at (i:=n) (by omega);have XD:=hid hxd;have f0:(0:Int)<=(n:Int):=by omega
 have f1':(n:Int)<(n:Int)+1:=by omega
 have HTw:=fun V=>hid (m0I V n (by have:=HN.out;omega))
 have HSh:=fun V u x hu hx=>hid (m0J V u x n hu (by have:=HN.out;omega) hx)
 have LP:Hid ((limbs (2 ^ n)).length<=1000000):=a0x (a0b nr0 (by have:=HN.out;omega));have E256:Hid (∀ x,2 ^ n-x<=2 ^ 256):=fun x=>O0 (Ls _ _) (H6 (by omega) HN.out)
 clear hxd hn;cases two
 .have ED:Hid (2 ^ n-cvo (ttF N D n) pw2 n=gL N D false n):=by
   show _=_
   rw[j0D HND.out (J4 n),v0y]
  have LE:Hid (cvo (ttF N D n) pw2 n<=2 ^ n):=by
   show _<=_
   rw[j0D HND.out (J4 n)];exact r0U _ _
  go_wp2_with fail;refine (HTw _).out.mono ?_;rintro e w6 ⟨⟨vt,rfl,hvt⟩,hbt⟩;have VT:=hid hvt;have XD6:=hid (XD.out.call hbt);have B6:=hid (a0a B5.out hbt);clear hvt hbt;go_wp2_with fail;refine (e0E _ _ _ _ _ VT.out XD6.out LE.out LP.out).mono ?_;rintro e w7 ⟨⟨vm,rfl,hvm⟩,hbm⟩;have VM:=hid hvm;have B7:=hid (a0a B6.out hbm);clear hvm hbm;go_wp2_with fail;refine (HSh _ _ _ VM.out (E256.out _)).out.mono ?_;rintro e w8 ⟨rfl,hbs⟩;have B8:=hid (a0a B7.out hbs);clear hbs;go_wp2_with fail;rw[ED.out];go_ret2
  exact⟨rfl,B8.out⟩
 .have HR0:=fun V=>hid (g0B V)
  have ED:Hid (2 ^ n-t2F N D n (n+1)=gL N D true n):=by
   show _=_
   rw[v0V HND.out,r0s]
  have LE:Hid (∀ i,i<=n+1->t2F N D n i<=2 ^ n):=fun i hi=>z0a HND.out hi
  clear XD;go_wp2_with fail;clear cxd;refine (HR0 _).out.mono ?_;rintro e w6 ⟨⟨v0,rfl,hv0,-⟩,hb0⟩;have V0:Hid (IsN .i64 w6 v0 (t2F N D n 0)):=hv0;have B6:=hid (a0a B5.out hb0);have TD6:=hid (TD.out.call hb0);have TL6:=hid (TL4.out.call hb0);clear hv0 hb0 TD TL4 HR0;go_wp2_with fail
  go_loopw [13,14] (fun s13 s14 wr=>∃ i:Nat,s14=.int .i64 (i:Nat)/\i<=n+1/\Hid (IsN .i64 wr s13 (t2F N D n i))/\Hid (NTab w.heap.size wr gl (n+1) cl (ttF N D n))/\Hid (NTab w.heap.size wr gd (n+1) cd (cvo (ttF N D n) pw2))/\Hid (Below w.heap.size w wr)) (fun s13 s14 wr=>n+1-(intOf s14).toNat)
  case atStart=>exact⟨0,rfl,S4 _,V0,TL6,TD6,B6⟩
  case round=>
   clear V0 TL6 TD6 B6;obtain⟨i,rfl,hi,hV,hL,hT,hB⟩:=hrel;by_cases hlt:i<=n
   .have d0:decide (i<=n)=true:=by simp;omega
    have e0:(0:Int)<=(i:Int):=by omega
    have e1:(i:Int)<((n+1:Nat):Int):=by omega
    have e1':(i:Int)<(n:Int)+1:=by omega
    have e3':(n:Int)-(i:Int)<(n:Int)+1:=by omega
    have ws:IntKind.i64.wrap ((n:Int)-(i:Int))=(n:Int)-(i:Int):=by have:=HN.out;rw[Q0 _ ⟨by omega,by omega⟩]
    have wi:IntKind.i64.wrap ((i:Int)+1)=((i+1:Nat):Int):=by have:=HN.out;rw[Q0 _ ⟨by omega,by omega⟩];omega
    have et:((n:Int)-(i:Int)).toNat=n-i:=by omega
    have IL:=hid hlt;obtain⟨x,cx,hx,-⟩:=hL.out.at (i:=i) (by omega);obtain⟨y,cy,hy,-⟩:=hT.out.at (i:=n-i) (by omega);have XN:=hid hx;have YN:=hid hy;have LX:Hid ((limbs (ttF N D n i)).length<=1000000):=a0x (a0b (y0U HND.out hlt) (by have:=HN.out;omega));have LY:Hid ((limbs (cvo (ttF N D n) pw2 (n-i))).length<=1000000):=a0x (HDP.out _ (by omega));have LS:Hid ((limbs (t2F N D n i)).length<=1000000):=a0x (a0b (LE.out i hi) (by have:=HN.out;omega));have ST:Hid (t2F N D n i+ttF N D n i*cvo (ttF N D n) pw2 (n-i)=t2F N D n (i+1)):=by
     show _=_
     rw[j0D HND.out (show n-i<=n by omega)];rfl
    have LM:Hid ((limbs (ttF N D n i*cvo (ttF N D n) pw2 (n-i))).length<=1000000):=a0x (a0b (O0 (by rw[<- ST.out];omega) (LE.out (i+1) (by omega))) (by have:=HN.out;omega));clear hx hy hi hlt;go_wp2_with fail;have e4:=IL.out;refine b0a 13 1 [0,1,2,3,4,5,6,7,8,9,10] 2 (fun W'=>W'.cell? ⟨gl,i,none⟩=some x/\W'.cell? ⟨gd,n-i,none⟩=some y) (by kernel_rfl) rfl (by kernel_rfl) (by kernel_rfl) (by kernel_rfl) (by kernel_rfl) ⟨cx,cy⟩ ?_
    iterate 11
     refine⟨_,rfl,?_⟩;apply Exists.intro
     refine⟨.inl ⟨by rfl,?_⟩,?_⟩
     .rintro W' ⟨r1,r2⟩;go_simp;try with_reducible rfl
     go_frame
    refine a0c (i:=11) (by kernel_rfl) (by rfl) (by rfl) ?_;go_wp2_with fail;refine (b0m _ _ _ _ _ (XN.out.call br0.drew) (YN.out.call br0.drew) LX.out LY.out).mono ?_;rintro e wa ⟨⟨vp,rfl,hvp⟩,hba⟩;have A1:=hid (show Below wr.heap.size wr wa from br0.drew.trans hba);have VP:=hid hvp;have m1:=(A1.out.cell (a0e cx)).trans cx;have m2:=(A1.out.cell (a0e cy)).trans cy;clear hba hvp cx cy e4;go_wp2_with fail;refine⟨⟨m1,m2⟩,?_⟩;refine a0c (i:=12) (by kernel_rfl) (by rfl) (by rfl) ?_;go_wp2_with fail;refine (d0n _ _ _ _ _ (hV.out.call A1.out) VP.out LS.out LM.out).mono ?_;rintro e wb ⟨⟨vs,rfl,hvs⟩,hbb⟩;have A2:=hid (a0a A1.out hbb);have VS:=hid (hvs.cast ST.out);have k1:=(hbb.cell (a0e m1)).trans m1;have k2:=(hbb.cell (a0e m2)).trans m2;clear hbb hvs m1 m2;go_wp2_with fail;refine⟨⟨k1,k2⟩,?_⟩;refine H8 (by kernel_rfl) ?_ _;simp only[b0h,c0w,Ab,A9];have NL:=hid (hL.out.call A2.out);have ND:=hid (hT.out.call A2.out);have NB:=hid (hB.out.trans (A2.out.mono hB.out.size));clear k1 k2;go_wp2_with fail
    try simp only[b0h]
    go_roundw
    case rel=>exact⟨i+1,by go_num,by have:=IL.out;omega,VS,NL,ND,NB⟩
    case measure=>simp[intOf]<;>(have:=IL.out;omega)
   .have e1:i=n+1:=by omega
    subst e1;have d0:decide ((n:Int)+1<=(n:Int))=false:=by simp;omega
    clear hi hlt;go_wp2_with fail;refine (HTw _).out.mono ?_;rintro e w6 ⟨⟨vt,rfl,hvt⟩,hbt⟩;have VT:=hid hvt;have XD6:=hid (hV.out.call hbt);have B7:=hid (a0a hB.out hbt);clear hvt hbt;go_wp2_with fail;refine (e0E _ _ _ _ _ VT.out XD6.out (LE.out _ nr0) LP.out).mono ?_;rintro e w7 ⟨⟨vm,rfl,hvm⟩,hbm⟩;have VM:=hid hvm;have B8:=hid (a0a B7.out hbm);clear hvm hbm;go_wp2_with fail;refine (HSh _ _ _ VM.out (E256.out _)).out.mono ?_;rintro e w8 ⟨rfl,hbs⟩;have B9:=hid (a0a B8.out hbs);clear hbs;go_wp2_with fail;rw[ED.out];go_ret2
    exact⟨rfl,B9.out⟩
def q0b (w:World)(n:Nat)(h:n<=9223372036854775807):Calls Tryz.prog 286 #[.int .i64 n] w fun e w'=>RetFr w.heap.size .i64 n e w'/\Below w.heap.size w w':=by
 have hd:=hid (show nDigits n<=9000 from O0 (a0l (k:=19) (by omega) (by omega)) (by omega));go_enter Tryz.func286,Tryz.ntmps286;go_wp2_with fail;refine (j0Z _ n h).mono ?_;rintro e w1 ⟨rfl,rfl⟩;go_wp2_with fail;refine (c0y _ n hd.out).mono ?_;rintro e w1 ⟨⟨v,rfl,hv,hf⟩,hb⟩;go_wp2_with fail;go_ret
 exact⟨⟨_,rfl,hv,hf⟩,hb⟩
def w0v (w:World)(n:Nat)(hn:n<=100000):Calls Tryz.prog 221 #[.int .i64 n] w fun e w'=>RetFr w.heap.size .i64 (2 ^ n) e w'/\Below w.heap.size w w':=by
 go_enter Tryz.func221,Tryz.ntmps221;go_wp2_with fail;refine (q0b _ 1 (by omega)).mono ?_;rintro e w1 ⟨⟨v,rfl,hv,hf⟩,hb⟩;have V:=hid hv;have B:=hid hb;have F:=hid hf;clear hv hb hf;go_wp2_with fail
 go_loopw [0,3] (fun nn o wr=>∃ j:Nat,nn=.int .i64 j/\j<=n/\Hid (IsN .i64 wr o (2 ^ (n-j)))/\Hid (∀ g,o.ownBlock=some g->w.heap.size<=g)/\Hid (Below w.heap.size w wr)) (fun nn o wr=>(intOf nn).toNat)
 case atStart=>exact⟨n,rfl,J4 _,by rw[Ce,El];exact V,F,B⟩
 case round=>
  obtain⟨j,rfl,hj,hO,hF,hB⟩:=hrel;by_cases h0:0<j
  .have ll:Hid ((limbs (2 ^ (n-j))).length<=1000000):=O0 (c0N (k:=n-j+1) (Gt (by omega) (by omega))) (by omega);have hs:Hid (2 ^ (n-j)+2 ^ (n-j)=2 ^ (n-(j-1))):=by
    show _=_
    rw[show n-(j-1)=n-j+1 by omega,I8];omega
   go_wp2_with fail;refine (c0z _ _ _ _ _ hO.out hO.out ll.out ll.out).mono ?_;rintro e w2 ⟨⟨v2,rfl,hv2,hf2⟩,hb2⟩;have V2:=hid hv2;have B2:=hid (a0a hB.out hb2);have F2:Hid (∀ g,v2.ownBlock=some g->w.heap.size<=g):=fun g hg=>O0 hB.out.size (hf2 g hg)
   clear hv2 hb2 hf2;go_wp2_with fail;go_roundw
   case rel=>exact⟨j-1,by go_num,by omega,V2.out.cast hs.out,F2,B2⟩
   case measure=>simp[intOf]<;>omega
  .obtain rfl:j=0:=by omega
   go_wp2_with fail;go_ret
   exact⟨⟨_,rfl,hO.out,hF.out⟩,hB.out⟩
end
end Go.Proofs.YtfkpfpobmobnbaaGreatDoor
