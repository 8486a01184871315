/- Texts that the proof rests on, merged: Sm, Gd0, Gl0, C3, C4, Las0, Last2, Last3, C5, C6, E1, E2, E3, E4, Sh3, Rep. -/
import Derived.Test.YtfkpfpobmobnbaaGreatDoorPc6
import Derived.Sort.OwnSortedInts
import Derived.WalkLawsBesides
import Derived.Sort.Walk0
import Derived.Deep.LoopGhost
import Derived.RangeFuncBox
import Derived.Scope
import Derived.Shelf.Bits.Mul64
import Derived.Ground.NamesProg
import Derived.Test.YtfkpfpobmobnbaaGreatDoorProg
import Derived.Laws.CopyOwn
set_option linter.defProp false
set_option linter.unusedVariables false
set_option linter.unusedSimpArgs false
set_option linter.unusedSectionVars false
set_option maxRecDepth 100000
set_option maxHeartbeats 8000000
namespace Go.Proofs.YtfkpfpobmobnbaaGreatDoor
section
open Go.RowKit Go.Sort Go.Shelf Go.Lib
def o0V (p q:ByteArray×ByteArray):Int:=if b0C p<b0C q then -1 else if b0C q<b0C p then 1 else 0
def g0o (p q:ByteArray×ByteArray):o0V p q<0↔b0C p<b0C q:=by
 unfold o0V
 split
 .rename_i h;simp[h]
 .rename_i h
  split<;>simp[h]
def r0S (p:ByteArray×ByteArray):List Value:=[.string p.1,.string p.2]
def c1g:SWO (ltOf o0V) where
 irrefl x:=by
  simp only[ltOf,F9,g0o];exact List.lt_irrefl _
 trans x y z h1 h2:=by
  simp only[ltOf,S5,g0o]at *;exact List.lt_trans h1 h2
 ntrans x y z h1 h2:=by
  simp only[ltOf,F9,g0o,List.not_lt]at *;exact List.le_trans h2 h1
def u0f {L:List (ByteArray×ByteArray)}(i:Nat):(a0R L)[i]? = (L[i / 2]?).map (fun p=>if i%2=0 then Value.string p.1 else Value.string p.2):=by
 cases h:L[i / 2]? with
 | none=>
  rw[Ig]at h;rw[Option.map_none,Ig,b0v];omega
 | some p=>
  obtain⟨h1,h2⟩:=e0I h;rw[Option.map_some];by_cases hm:i%2=0
  .rw[U0 hm,show i=2*(i / 2) by omega];exact h1
  .rw[Q0 hm,show i=2*(i / 2)+1 by omega];exact h2
def La:=@getElem!_pos
def i0g (d:Array (ByteArray×ByteArray)):(flatK r0S 2 d).toList=a0R d.toList:=by
 apply Bp
 intro i;rw[u0f];by_cases hi:i<d.size*2
 .have e1:=get_flatK r0S 2 d i (by omega);rw[La _ _ (by simp;omega)]at e1;have hi2:i / 2<d.size:=by omega
  rw[Cq,C7 (by simp;omega),e1,Cq,C7 hi2,Option.map_some,La d (i / 2) hi2];by_cases hm:i%2=0
  .rw[U0 hm,hm];rfl
  .rw[Q0 hm,show i%2=1 by omega];rfl
 .rw[U6 (by simp;omega),Cq,Hk (by omega)];rfl
def k0A {w:World}{g n:Nat}{os:Array Obj}{cur:Array Value}{e:TypeId}{fr:Nat×Nat}(d:Array Value)(hb:w.heap[g]?=some (.cells cur e fr)):
 (grow (putRow id (Sort.ahead w n) g 0 d) os).heap[g]?=some (.cells (putCells id 0 d cur) e fr):=by
 have hg:g<w.heap.size:=(S4.1 hb).1;rw[Go.Sort.heap_grow_old _ _ (by simpa using hg)];simp[putRow,mapBlock,Sort.ahead,Cp,hb,onCells]
def j0B {w:World}{g n base:Nat}{os:Array Obj}(d:Array Value)(hb:base<=g)(hw:base<=w.heap.size):Below base w (grow (putRow id (Sort.ahead w n) g 0 d) os):=by
 refine⟨rfl,rfl,rfl,by simp,fun k hk=>?_⟩;rw[Go.Sort.heap_grow_old _ _ (by simp;omega)];have:g≠k:=by omega
 simp[putRow,mapBlock,Sort.ahead,Cp,this]
def h0t (cur F:Array Value)(h:F.size<=cur.size):(putCells id 0 F cur).toList.take F.size=F.toList:=by
 apply Bp
 intro j;by_cases hj:j<F.size
 .rw[List.getElem?_take_of_lt hj,Cq];simp[putCells,hj,show j<cur.size by omega]
 .rw[List.getElem?_take_eq_none (by omega),U6 (by simp;omega)]
def o0i {d d':Array (ByteArray×ByteArray)}(h:PermIn 0 d.size d d'):d'.size=d.size/\d'.toList.Perm d.toList:=by
 obtain⟨h1,_,h3⟩:=h;refine⟨h1,?_⟩;have e1:d'.extract 0 d.size=d':=by rw[<- h1];simp
 have e2:d.extract 0 d.size=d:=by simp
 rwa[e1,e2]at h3
def j0W {d':Array (ByteArray×ByteArray)}(h:SortedIn (ltOf o0V) 0 d'.size d'):d'.toList.Pairwise (fun p q=>leB (b0C p) (b0C q)=true):=by
 rw[Il];intro i j hi hj hij;have:=h i j (J5 _) hij (by simpa using hj);simp only[ltOf,F9,g0o,List.not_lt]at this;rw[La _ _ (by simpa using hi),La _ _ (by simpa using hj)]at this;simp only[leB,S5];simpa using this
def p0C {L M:List (ByteArray×ByteArray)}(hp:L.Perm M)(hs:L.Pairwise (fun p q=>leB (b0C p) (b0C q)=true))(nd:(M.map b0C).Nodup):L=a0B M:=by
 have nd2:(L.map b0C).Nodup:=((hp.map b0C).nodup_iff).2 nd;rw[<- d0D nd2 nd (fun p=>hp.mem_iff)];exact (List.mergeSort_of_pairwise hs).symm
def l0g (F:Nat)(g cap base:Nat)(d:Array (ByteArray×ByteArray))(w:World)(cur:Array Value)(hb:base<=g)(hg:w.heap[g]?=some (.cells cur 42 (0,0)))(h1:d.size<=cap)(h2:cap<=maxLen)(h3:cur.size=cap*2)(h4:cur.toList.take (d.size*2)=a0R d.toList)(hs:d.size<=1000000)(hnd:(d.toList.map b0C).Nodup)
 (eg:∀ args w,(callFunc F args).run Tryz.prog w=.ok (.enter F args) w) (hF:∀ (x y:ByteArray×ByteArray) (W:World),Calls Tryz.prog F #[.agg #[.string x.1,.string x.2],.agg #[.string y.1,.string y.2]] W fun e w'=>e=.returned (.int .i64 (o0V x y))/\∃ n os',w'=grow (W.drewN n) os'):
 Calls Tryz.prog 65 #[.slice (some ⟨g,0,none⟩) d.size cap,.func (.func F) #[] #[]] w fun e w'=>e=.returned (.tuple #[])/\w'.ownsRow base 42 2 (.slice (some ⟨g,0,none⟩) d.size cap) d.size (a0R (a0B d.toList))/\Below base w w':=by
 have hblk:g<w.heap.size:=(S4.1 hg).1;have hH:HoldsK r0S 2 w g 0 d:=by
  intro j hj;have hj':j<d.size*2:=by simpa using hj
  refine⟨?_,by simp[World.frozen?,hg]⟩;have e:(cur.toList.take (d.size*2))[j]? = (flatK r0S 2 d).toList[j]? := by rw[h4,i0g]
  rw[List.getElem?_take_of_lt hj']at e;simp only[World.cell?,hg,U7];simp only[Option.isSome_none,Er,Gu];rw[<- Cq,e,Cq,C7 hj,La (flatK r0S 2 d) j hj]
  rfl
 have hcmp:CmpLays Tryz.prog F #[] r0S 2 o0V g 0 d.size w:=fun _ _ _ _ x y=>hF x y _
 have hd:∀ x:ByteArray×ByteArray,(r0S x).length=2:=fun _=>rfl
 have h1c:∀ x:ByteArray×ByteArray,∀ v∈r0S x,v.oneCell'=true:=fun x v hv=>by simp[r0S]at hv;rcases hv with rfl | rfl<;>rfl
 have hlim:Lib.bitLen d.size<4611686018427387904:=Cn (Lib.bitLen_le d.size 62 (by omega) (by omega)) (by omega);have hpd:=AnyQ.pdqsortCmpFunc_all Tryz.sortMW 2 Tryz.isAgg42 Tryz.sizeOf42 r0S o0V F #[] c1g g 0 cap d w eg hcmp ⟨hd,h1c,hH,hblk⟩ (d.size+1) 0 d.size (Lib.bitLen d.size) d w (by omega) rfl (SWK.start hH) (J5 _) nr (by omega) hlim (Or.inl rfl)
 change Calls Tryz.prog 167 _ _ _ at hpd
 have hbl:Calls Tryz.prog 168 #[.int .u64 (d.size:Int)] w fun e w'=>e=.returned (.int .i64 (Lib.bitLen d.size:Nat))/\w'=w:=by
  have h:=Any.bits_Len Tryz.lenW (d.size:Int) w (by omega) (by omega);rwa[An]at h
 have wr:IntKind.u64.wrap (d.size:Int)=d.size:=by simp[IntKind.wrap,IntKind.bits,IntKind.signed];omega
 have hz:=pdq_sorts (ltOf o0V) c1g d 0 d.size (Lib.bitLen d.size) true true (J5 _) nr (Or.inl rfl);have P:=o0i hz.1;have hz2:=hz.2;generalize pdq (ltOf o0V) d 0 d.size (Lib.bitLen d.size) true true=d' at *
 have S:=j0W (P.1 ▸ hz2);have hd':d'.toList=a0B d.toList:=p0C P.2 S hnd;clear hH hcmp hz hz2 hF;have h2h:=hid h2;clear h2;clear h4;clear hnd;go_enter Tryz.func65,Tryz.ntmps65;go_wp2_with fail;refine hbl.mono ?_;rintro e w' ⟨rfl,rfl⟩;go_wp2_with fail;refine hpd.mono ?_;rintro e w' ⟨rfl,n,os,rfl⟩;go_wp2_with fail
 go_end0
 refine⟨rfl,⟨?_,.inr ⟨g,cap,_,rfl,hb,k0A _ hg,h1,h2h.out,by simp[putCells,h3],?_⟩⟩,j0B _ hb (by omega)⟩
 .rw[b0v,<- hd'];simp[P.1]
 .rw[<- hd',<- i0g];have:=h0t cur (flatK r0S 2 d') (by rw[size_flatK,P.1,h3];omega);rwa[size_flatK,P.1]at this
end
section
open Go.RowKit Go.Sort Go.Shelf Go.Maps
open Go.Lib (decDigits nDigits)
def w0D (w:World)(v:Int)(h1 : -100000<=v)(h2:v<=100000)(hL:Lay w):
 Calls Tryz.prog 64 #[.int .i64 v] w fun e w'=>e=.returned (.string (zB v))/\Below w.heap.size w w':=by
 refine (Tryz.strconv_Itoa v (by omega) (by omega) w hL.tab).mono ?_;rintro e w' ⟨rfl,k,os,rfl⟩;exact⟨rfl,d0Q w k os⟩
def l0f (v x:Int):(Lit.int .i64 v).sameKey (.int .i64 x)=decide (v=x):=by
 by_cases h:v=x
 .subst h;rw[WideAt.sameKey_self (show WideAt.IsKeyLit (.int .i64 v) from trivial)];simp
 .rw[Maps.sameKey_ne (fun e=>h (by injection e))];simp[h]
def i0a (x z:ByteArray):Op.bytesLess x.toList z.toList=decide (x.data.toList<z.data.toList):=by
 rw[bytesLess_eq,Cw,Cw]
def p0M (w:World)(x:ByteArray):Calls Tryz.prog 169 #[.string x] w fun e w'=>e=.returned (.bool false)/\w=w':=by
 go_enter Tryz.func169,Tryz.ntmps169;go_wp2_with fail;go_ret
 exact⟨rfl,rfl⟩
theorem k0b (w:World)(x z:ByteArray):Calls Tryz.prog 67 #[.string x,.string z] w fun e w'=>e=.returned (.int .i64 (if x.data.toList<z.data.toList then -1 else if z.data.toList<x.data.toList then 1 else 0))/\w=w':=by
 have h1:=i0a x z;have h2:=i0a z x;have N1:=fun V=>hid (p0M V x)
 have N2:=fun V=>hid (p0M V z)
 by_cases c1:x.data.toList<z.data.toList
 focus
  rw[U0 c1];rw[I8 c1]at h1;clear h2 c1
 rotate_left
 focus
  rw[Q0 c1];rw[I7 c1]at h1;by_cases c2:z.data.toList<x.data.toList
  focus
   rw[U0 c2];rw[I8 c2]at h2;have h3:(x.toList==z.toList)=false:=by
    rw[U4];intro e;rw[Cw,Cw]at e;rw[e]at c2;exact List.lt_irrefl _ c2
   clear c1 c2
  rotate_left
  focus
   rw[Q0 c2];rw[I7 c2]at h2;have h3:(x.toList==z.toList)=true:=by
    rw[Ei,Cw,Cw];exact Ny (List.not_lt.1 c2) (List.not_lt.1 c1)
   clear c1 c2
 all_goals
  go_enter Tryz.func67,Tryz.ntmps67;go_wp2_with fail;refine (N1 _).out.mono ?_;rintro e w1 ⟨rfl,rfl⟩;go_wp2_with fail;refine zx (N2 _) ?_;go_wp2_with fail;go_ret
  exact⟨rfl,rfl⟩
def x0U (p q:ByteArray×ByteArray)(w:World):Calls Tryz.prog 226 #[.agg #[.string p.1,.string p.2],.agg #[.string q.1,.string q.2]] w fun e w'=>e=.returned (.int .i64 (o0V p q))/\∃ n os',w'=grow (w.drewN n) os':=by
 obtain⟨p1,p2⟩:=p;obtain⟨q1,q2⟩:=q;dsimp only;have HC:=fun V=>hid (k0b V p1 q1)
 unfold o0V b0C;dsimp only;obtain⟨r,hr⟩:∃ r:Int,(if p1.data.toList<q1.data.toList then (-1:Int) else if q1.data.toList<p1.data.toList then 1 else 0)=r:=⟨_,rfl⟩;rw[hr]at HC |-;clear hr;go_enter Tryz.func226,Tryz.ntmps226;go_wp2_with fail;refine zx (HC _) ?_;go_wp2_with fail;go_ret
 exact⟨rfl,0,_,by rw[Lr,Lr,grow_grow];rfl⟩
end
section
open Go.RowKit Go.Maps
open Go.Lib (decDigits nDigits)
structure ReadsI {H:Type}(D:DataW H)(c:Int->Nat):Prop where
 map:IsMap D
 has:∀ v:Int,Maps.has D (.int .i64 v)=decide (c v≠0)
 look:∀ v:Int,c v≠0->∀ z,D.atKey (.int .i64 v) z=.lit (.string (a0g (c v)).data.toList)
theorem ReadsI.nil {H:Type}:ReadsI (.map []:DataW H) (fun _=>0):=
 ⟨isMap_empty,fun v=>by simp[Maps.has_eq],fun v h=>absurd rfl h⟩
theorem ReadsI.put {H:Type}{D:DataW H}{c:Int->Nat}(h:ReadsI D c)(v:Int){x:Nat}(hx:0<x):
 ReadsI (D.put (.int .i64 v) (.lit (.string (a0g (c v+x)).data.toList))) (j0F c v x):=by
 refine⟨h.map.put _ _,fun y=>?_,fun y hy z=>?_⟩
 .by_cases e:y=v
  .subst e;rw[has_put_same h.map (show WideAt.IsKeyLit (.int .i64 y) from trivial)];unfold j0F;rw[U0 rfl];simp;omega
  .rw[has_put_other (fun e'=>e (by injection e')),h.has];unfold j0F;rw[Q0 e]
 .by_cases e:y=v
  .subst e;rw[atKey_put_same h.map (show WideAt.IsKeyLit (.int .i64 y) from trivial)];unfold j0F;rw[U0 rfl]
  .unfold j0F at hy |-;rw[Q0 e]at hy |-;rw[atKey_put_other (fun e'=>e (by injection e'))];exact h.look y hy z
def j0y (x:Nat):ByteArray:=if x=0 then ⟨#[]⟩ else a0g x
def Jv:=@Go.Proofs.Tryz.underlying211
def Gf:=@Go.Proofs.Tryz.underlying23
def v0D {H:Type}{w:World}{B nn:Nat}{D:DataW H}{c:Int->Nat}(hown:w.ownsMap Tryz.prog 3 (plainElem Tryz.prog 23) B nn D)(hR:ReadsI D c){v:Int}(hw:(Lit.int .i64 v).wf=true):
 (Instr.lookup 211 (.map (some B)) (.int .i64 v) false).run Tryz.prog w=.ok (.string (j0y (c v))) w:=by
 obtain⟨x,ps,h1,h2⟩:=hown.lookup (int_keyed U8) Jv (s0M w) (plainElem_string Gf (s:=⟨#[]⟩) (J5 _)) (keyOf_int_mk U8 hw);rw[h1];unfold j0y;by_cases h0:c v=0
 .rw[U0 h0];rw[atKey_of_not_has (by rw[hR.has,h0];rfl)]at h2;obtain⟨s,rfl,h3,-⟩:=plainElem_string_inv Gf h2;simp only[Jq,DataW.lit.injEq,Lit.string.injEq]at h3;have e:s=(⟨#[]⟩:ByteArray):=a0M (by simpa using h3.1.symm);rw[e]
 .rw[Q0 h0];rw[hR.look v h0]at h2;obtain⟨s,rfl,h3,-⟩:=plainElem_string_inv Gf h2;simp only[Jq,DataW.lit.injEq,Lit.string.injEq]at h3;rw[a0M h3.1]
end
section
open Go.RowKit Go.Shelf
open Go.Lib (decDigits nDigits)
def q0t {a b:Nat}:decide (b0e a b<=0)=decide (a<=b):=by
 unfold b0e
 split
 .simp;omega
 .split<;>simp<;>omega
def y0E (w:World)(n d:ByteArray):
 Calls Tryz.prog 344 #[.string n,.string d] w fun e w'=>e=.returned (.func (.func 357) #[] #[.pointer (some ⟨w.heap.size,0,none⟩),.pointer (some ⟨w.heap.size+1,0,none⟩)])/\w'=(w.alloc (.cells #[.string n] 23)).alloc (.cells #[.string d] 23):=by
 go_enter Tryz.func344,Tryz.ntmps344;go_wp2_with fail;go_ret
 exact⟨rfl,rfl⟩
def a1S (w:World)(bn bd N D K T:Nat)(hn:Blk w bn #[.string (a0g N)] 23)(hd:Blk w bd #[.string (a0g D)] 23)(hf:Fits N D K T)(hL:Lay w):
 Calls Tryz.prog 357 #[.string (a0g K),.string (a0g T),.pointer (some ⟨bn,0,none⟩),.pointer (some ⟨bd,0,none⟩)] w fun e w'=>e=.returned (.tuple #[.int .i64 (sdV N D K T:Nat),.bool (sdB N D K T)])/\Below w.heap.size w w':=by
 have dN:=b0a hf.n (by decide) (by decide);have dD:=b0a hf.d (by decide) (by decide);have dK:=b0a hf.k (by decide) (by decide);have dT:=b0a hf.t (by decide) (by decide);have f1:=h0m hf.n hf.t;have f2:=h0m hf.k hf.d;have dP:=b0a f1 (by decide) (by decide);have dQ:=b0a f2 (by decide) (by decide);have dS:=b0a (j0n f2 (a1E hf.d (by decide))) (by decide) (by decide);have T1:=fun V hV=>hid (s0q V (a0g N) (a0g T) (a0N dN) (a0N dT) hV)
 have T2:=fun V hV=>hid (s0q V (a0g K) (a0g D) (a0N dK) (a0N dD) hV)
 have T3:=fun V hV=>hid (s0r V (a0g (K*D)) (a0g D) (a0N dQ) (a0N dD) hV)
 have C1:=fun V=>hid (q0T V (a0g (N*T)) (a0g (K*D)) (a0N dP) (a0N dQ))
 have C2:=fun V=>hid (q0T V (a0g (K*D+D)) (a0g (N*T)) (a0N dS) (a0N dP))
 rw[d0c dN dT dP]at T1;rw[d0c dK dD dQ]at T2;rw[d0c dQ dD dS]at T3;rw[j0w dP dQ]at C1;rw[j0w dS dP]at C2;obtain⟨HL,HN,HD⟩:=zc hL hn hd;have c0:=hn.cell 0;have c1:=hd.cell 0;simp only[K6,By]at c0 c1;have hSV:sdV N D K T=if N*T<=K*D then 0 else 1:=rfl
 have hSB:sdB N D K T=(decide (N*T<=K*D) || decide (K*D+D<=N*T)):=rfl;rw[hSV,hSB];obtain⟨P,hP⟩:=gn (N*T);obtain⟨Q,hQ⟩:=gn (K*D);rw[hP]at T1 C1 C2 |-;rw[hQ]at T2 T3 C1 C2 |-;obtain⟨sn,hsn⟩:=gn (a0g N);obtain⟨sd,hsd⟩:=gn (a0g D);obtain⟨sk,hsk⟩:=gn (a0g K);obtain⟨st,hst⟩:=gn (a0g T);rw[hsn]at T1 c0 HN;rw[hsd]at T2 T3 c1 HD;rw[hsk]at T2 |-;rw[hst]at T1 |-;clear hsn hsd hsk hst hP hQ hSV hSB dN dD dK dT f1 f2 dP dQ dS hf hL hn hd;go_enter Tryz.func357,Tryz.ntmps357;go_wp2_with fail;refine a0k [0,1,3,4] 4 (fun W'=>W'.cell? ⟨bn,0,none⟩=some (.string sn)/\W'.cell? ⟨bd,0,none⟩=some (.string sd)) (by kernel_rfl) (by kernel_rfl) (by kernel_rfl) (by kernel_rfl) ⟨c0,c1⟩ ?_
 iterate 4
  refine⟨_,rfl,?_⟩;apply Exists.intro
  refine⟨.inl ⟨by rfl,?_⟩,?_⟩
  ·(intro W' hW'
    obtain⟨q1,q2⟩:=hW'
    go_simp
    try (with_reducible rfl))
  simp only[Act.put,Bj,Na,Je]
 refine a0c (i:=2) (by kernel_rfl) rfl rfl ?_;go_wp2_with fail;refine (T1 _ (HL.out.call br0.drew)).out.mono ?_;rintro e w1 ⟨rfl,hb1⟩;have y1:=hid (show Below w.heap.size w w1 from br0.drew.trans hb1);obtain⟨N1,D1⟩:=zg (HN.out.call y1.out) (HD.out.call y1.out);clear hb1;go_wp2_with fail;refine⟨⟨N1.out.cell 0,D1.out.cell 0⟩,?_⟩;refine a0c (i:=5) (by kernel_rfl) rfl rfl ?_;go_wp2_with fail;refine (T2 _ (HL.out.call y1.out)).out.mono ?_;rintro e w2 ⟨rfl,hb2⟩;obtain⟨y2,N2,D2⟩:=zc (a0a y1.out hb2) (N1.out.call hb2) (D1.out.call hb2);clear hb2;go_wp2_with fail;refine⟨⟨N2.out.cell 0,D2.out.cell 0⟩,?_⟩;refine a0c (i:=6) (by kernel_rfl) rfl rfl ?_;go_wp2_with fail;refine⟨⟨N2.out.cell 0,D2.out.cell 0⟩,?_⟩;refine a0c (i:=7) (by kernel_rfl) rfl rfl ?_;go_wp2_with fail;refine⟨⟨N2.out.cell 0,D2.out.cell 0⟩,?_⟩;refine Z7 (by kernel_rfl) ?_ _;simp only[a0Z];go_wp2_with fail;refine (C1 _).out.mono ?_;rintro e w3 ⟨rfl,hb3⟩;obtain⟨y3,D3⟩:=zg (a0a y2.out hb3) (D2.out.call hb3);clear hb3;have o1:=q0t (a:=P) (b:=Q);obtain⟨x1,hx1⟩:=gn (b0e P Q);rw[hx1]at o1 |-;clear hx1;by_cases h:P<=Q
 .simp only[h,decide_true,Fp,Bool.true_or]at o1 |-;go_wp2_with fail;go_ret2
  exact⟨rfl,y3.out⟩
 .have o2:=q0t (a:=Q+D) (b:=P);have d3:=D3.out.cell 0;simp only[K6,By]at d3;obtain⟨x2,hx2⟩:=gn (b0e (Q+D) P);obtain⟨r,hr⟩:=gn (decide (Q+D<=P));rw[hx2]at o2 C2;rw[hr]at o2;simp only[h,decide_false,Gu,Bool.false_or]at o1 |-;clear hx2;go_wp2_with fail;refine (T3 _ (HL.out.call y3.out)).out.mono ?_;rintro e w4 ⟨rfl,hb4⟩;have y4:=hid (a0a y3.out hb4);clear hb4;go_wp2_with fail;refine (C2 _).out.mono ?_;rintro e w5 ⟨rfl,hb5⟩;have y5:=hid (a0a y4.out hb5);clear hb5;go_wp2_with fail;go_ret2
  exact⟨rfl,y5.out⟩
def j0O (b k t:ByteArray)(bn bd:Nat)(dn:Bool)(v u:Int):Array Value:=
 #[.string b,.string k,.string t,.func (.func 357) #[] #[.pointer (some ⟨bn,0,none⟩),.pointer (some ⟨bd,0,none⟩)],.bool dn,.int .i64 v,.int .i64 u]
structure Toss (w:World)(g bn bd:Nat)(b:ByteArray)(N D K T u:Nat):Prop where
 blk:Blk w g (j0O b (a0g K) (a0g T) bn bd false 0 u) 330
 num:Blk w bn #[.string (a0g N)] 23
 den:Blk w bd #[.string (a0g D)] 23
 ln:bn<g
 ld:bd<g
def a1U (w:World)(g bn bd:Nat)(b:ByteArray)(N D K T u:Nat)(ht:Toss w g bn bd b N D K T u)(hf:Fits N D K T)(hL:Lay w)(hs:b.size<=100000)(hu:u<=b.size):
 Calls Tryz.prog 345 #[.pointer (some ⟨g,0,none⟩)] w fun e w'=>
  Below g w w' /\
  ((sdB N D K T=true/\e=.returned .nilFunc/\Blk w' g (j0O b (a0g K) (a0g T) bn bd true (sdV N D K T:Nat) u) 330) \/
   (sdB N D K T=false/\u=b.size/\e=.returned .nilFunc/\Toss w' g bn bd b N D K T u) \/
   (sdB N D K T=false/\u<b.size/\e=.returned (.func (.func 360) #[.pointer (some ⟨g,0,none⟩)] #[])/\Toss w' g bn bd b N D K T u)):=by
 obtain⟨HB,HN,HD,LN,LD,LG,HU⟩:=kq ht.blk ht.num ht.den ht.ln ht.ld (Blk.lt ht.blk) hu;have c1:w.cell? ⟨g,1,none⟩=some (.string (a0g K)):=ht.blk.cell 1;have c2:w.cell? ⟨g,2,none⟩=some (.string (a0g T)):=ht.blk.cell 2;have c3:w.cell? ⟨g,3,none⟩=some (.func (.func 357) #[] #[.pointer (some ⟨bn,0,none⟩),.pointer (some ⟨bd,0,none⟩)]):=ht.blk.cell 3;have e51:∀ args w,(callFunc 357 args).run Tryz.prog w=.ok (.enter 357 args) w:=Cx Tryz.func357 (by kernel_rfl) rfl;obtain⟨sk,hsk⟩:=gn (a0g K);obtain⟨st,hst⟩:=gn (a0g T);obtain⟨HK,HT⟩:=zg hsk hst;rw[hsk]at c1;rw[hst]at c2;have CS:=hid (a1S w.drew bn bd N D K T ht.num ht.den hf (hL.call br0.drew));rw[hsk,hst]at CS;obtain⟨xv,hxv⟩:=gn (sdV N D K T);obtain⟨xb,hxb⟩:=gn (sdB N D K T);rw[hxv,hxb]at CS;rw[hxv,hxb];clear hsk hst ht hf hL hs hu hxv hxb;go_enter Tryz.func345,Tryz.ntmps345;go_wp2_with fail;refine a0k [0,1,2,3,4,5,6,7,8,9,10,11] 6 (fun W'=>(W'.cell? ⟨g,1,none⟩=some (.string sk)/\W'.cell? ⟨g,2,none⟩=some (.string st))/\W'.cell? ⟨g,3,none⟩=some (.func (.func 357) #[] #[.pointer (some ⟨bn,0,none⟩),.pointer (some ⟨bd,0,none⟩)])) (by kernel_rfl) (by kernel_rfl) (by kernel_rfl) (by kernel_rfl) ⟨⟨c1,c2⟩,c3⟩ ?_
 iterate 12
  refine⟨_,rfl,?_⟩;apply Exists.intro
  refine⟨.inl ⟨by rfl,?_⟩,?_⟩
  ·(intro W' hW'
    obtain⟨⟨q1,q2⟩,q3⟩:=hW'
    go_simp
    try (with_reducible rfl))
  go_frame
 refine a0c (i:=12) (by kernel_rfl) rfl rfl ?_;go_wp2_with fail;refine CS.out.mono ?_;rintro e w1 ⟨rfl,hb1⟩;have y1:=hid (show Below w.heap.size w w1 from br0.drew.trans hb1);obtain⟨B1,N1,D1⟩:=zc (HB.out.call y1.out) (HN.out.call y1.out) (HD.out.call y1.out);have d0:w1.cell? ⟨g,0,none⟩=some (.string b):=B1.out.cell 0;have d1:w1.cell? ⟨g,1,none⟩=some (.string (a0g K)):=B1.out.cell 1;have d2:w1.cell? ⟨g,2,none⟩=some (.string (a0g T)):=B1.out.cell 2;have d3:w1.cell? ⟨g,3,none⟩=some (.func (.func 357) #[] #[.pointer (some ⟨bn,0,none⟩),.pointer (some ⟨bd,0,none⟩)]):=B1.out.cell 3;have d4:w1.cell? ⟨g,4,none⟩=some (.bool false):=B1.out.cell 4;have d5:w1.cell? ⟨g,5,none⟩=some (.int .i64 0):=B1.out.cell 5;have d6:w1.cell? ⟨g,6,none⟩=some (.int .i64 u):=B1.out.cell 6;have f4:=B1.out.free 4;have f5:=B1.out.free 5;rw[HK.out]at d1;rw[HT.out]at d2;clear hb1 c1 c2 c3;go_wp2_with fail;refine⟨⟨⟨d1,d2⟩,d3⟩,?_⟩;refine b0d (is:=[13,14,15,16,17]) (g:=0) (by kernel_rfl) rfl ⟨⟨d1,d2⟩,d3⟩ (by kernel_rfl) ?_
 iterate 5
  refine⟨_,rfl,?_⟩;apply Exists.intro
  refine⟨.inl ⟨by rfl,?_⟩,?_⟩
  ·(intro W' hW'
    clear hW'
    go_simp
    try (with_reducible rfl))
  go_frame
 refine Z7 (by kernel_rfl) ?_ _;simp only[a0Z];cases xb
 .go_wp2_with fail;refine a0k [0,1,2,3,4,5,6,7,8,9,10] 0 (fun W'=>W'.cell? ⟨g,0,none⟩=some (.string b)/\W'.cell? ⟨g,6,none⟩=some (.int .i64 u)) (by kernel_rfl) (by kernel_rfl) (by kernel_rfl) (by kernel_rfl) ⟨d0,d6⟩ ?_
  iterate 11
   refine⟨_,rfl,?_⟩;apply Exists.intro
   refine⟨.inl ⟨by rfl,?_⟩,?_⟩
   ·(intro W' hW'
     obtain⟨q1,q2⟩:=hW'
     go_simp
     try (with_reducible rfl))
   go_frame
  refine Z7 (by kernel_rfl) ?_ _;simp only[a0Z];have y2:=hid y1.out.drew;have T2:Hid (Toss w1.drew g bn bd b N D K T u):=⟨B1.out,N1.out,D1.out,LN.out,LD.out⟩;obtain⟨r,hr⟩:=gn (((u:Int)==(b.size:Int)));rw[hr];have HR:=hid hr;clear hr d0 d1 d2 d3 d4 d5 d6 f4 f5 e51;cases r
  .have HU2:=hid (show u<b.size from by have h1:=HU.out;have h2:=HR.out;simp at h2;omega);go_wp2_with fail;go_ret
   exact⟨y2.out.mono (Dc LG.out),.inr ⟨HU2.out,rfl,T2.out⟩⟩
  .have HU2:=hid (show u=b.size from by have h2:=HR.out;simp at h2;omega);go_wp2_with fail;go_ret
   exact⟨y2.out.mono (Dc LG.out),.inl ⟨HU2.out,rfl,T2.out⟩⟩
 .go_wp2_with fail;go_ret
  have r1:=(B1.out.set 4 (.bool true)).set 5 (.int .i64 xv);refine⟨?_,⟨rfl,?_⟩⟩
  .exact ((y1.out.mono (Dc LG.out)).setCell nr _).setCell nr _
  .simpa[j0O]using r1
end
section
open Go.RowKit
variable {P : Program} {Q : Exit -> Act -> World -> Prop}
def b0K (P:Program)(ops:Array Oper)(Q:Exit->Act->World->Prop)(rest:List Oper):Exit->Act->World->Prop
 | .normal,a,w=>wpList P ops Q rest a w
 | e,a,w=>Q e a w
theorem e0G {md:Region.Mode}{ops:Array Oper}:∀ (fuel:Nat) (listed:Array Bool) (a:Act) (w:World),wpAny P md ops (a0Z Q) fuel listed a w->wpAny P md ops Q fuel listed a w:=by
 intro fuel
 induction fuel with
 | zero=>exact fun _ _ _ h=>h
 | succ fuel ih=>
  rintro listed a w ⟨h1,h2⟩;refine⟨h1,fun i hi=>?_⟩;have h:=h2 i hi;unfold wpOp at h |-
  split at h
  .rename_i ho
   exact ih _ _ _ h
  .rename_i o ho
   split at h
   .rename_i hw
    rw[U0 hw];rcases h with h | ⟨_,a',w',h⟩
    .exact .inl (g0t (fun a w h=>ih _ _ _ h) (fun _ _ _ h=>h.elim) (fun ⟨_,_,h⟩=>h.elim) h)
    .exact h.elim
   .rename_i hw
    rw[Q0 hw];exact ih _ _ _ h
end
section
open Go.RowKit
variable {P : Program} {Q : Exit -> Act -> World -> Prop} {md : Region.Mode} {ops : Array Oper} {oz : Oper}
inductive Dep (md:Region.Mode) (ops:Array Oper) (oz:Oper):Nat->Prop
 | here {e:Edge}:e∈oz.after->Region.binds md e=true->Dep md ops oz e.on
 | step {i:Nat} {o:Oper} {f:Edge}:Dep md ops oz i->ops[i]?=some o->f∈o.after->Region.binds md f=true->Dep md ops oz f.on
theorem Dep.on {listed:Array Bool}(hc:Closed md ops listed)(h:∀ e∈oz.after,Region.binds md e=true->listed.getD e.on false=true){i:Nat}(hd:Dep md ops oz i):listed.getD i false=true:=by
 induction hd with
 | here he hb=>exact h _ he hb
 | step _ ho hf hb ih=>exact hc _ _ ho ih _ hf hb
theorem d0l {L0:List Nat}(hz:∀ e∈oz.after,Region.binds md e=true->e.on<ops.size)(hz2:∀ i,i<ops.size->i∈L0\/Dep md ops oz i)(hfwd:∀ i o,ops[i]?=some o->∀ e∈o.after,Region.binds md e=true->e.on<i){listed:Array Bool}(hs:listed.size=ops.size)(hcl:Closed md ops listed)(h0L:∀ i∈L0,listed.getD i false=true)(hn:¬ h0I ops.size listed):
 ∀ j,j∈Region.ready md (ops.push oz) (listed.push false)->j∈Region.ready md ops listed:=by
 intro j hj;rw[Ep]at hj |-;obtain⟨h0,o,ho,hall⟩:=hj;have hlt:j<ops.size+1:=by have:=(S4.1 ho).1;simpa using this
 by_cases hj':j=ops.size
 .subst hj';have:o=oz:=by simpa using ho.symm
  subst this;refine absurd (fun i hi=>?_) hn;rcases hz2 i hi with h | h
  .exact h0L i h
  .refine Dep.on hcl (fun e he hb=>?_) h;have h1:=hall e he hb;have h2:=hz e he hb;rwa[a0o (by omega)]at h1
 .have hjl:j<ops.size:=by omega
  rw[Bf hjl]at ho;rw[a0o (by omega)]at h0;refine⟨h0,o,by rw[C7 hjl];exact ho,fun e he hb=>?_⟩;have h1:=hall e he hb;have h2:=hfwd j o (by rw[C7 hjl];exact ho) e he hb;rwa[a0o (by omega)]at h1
theorem k0X {Q':Exit->Act->World->Prop}{L0:List Nat}(hgd:∀ (i:Nat) (o:Oper),ops[i]?=some o->o.guard=none)(hgz:oz.guard=none)
 (hz:∀ e∈oz.after,Region.binds md e=true->e.on<ops.size) (hz2:∀ i,i<ops.size->i∈L0\/Dep md ops oz i)
 (hfwd:∀ i o,ops[i]?=some o->∀ e∈o.after,Region.binds md e=true->e.on<i)
 (hP:∀ c a w,Q' (.panic c) a w->Q (.panic c) a w) (hL:LetsOut Q'->LetsOut Q) (hN:∀ a w,Q' .normal a w->oz.wp P a w (fun a w=>Q .normal a w) Q\/(oz.asks P a w/\LetsOut Q)):
 ∀ (fuel:Nat) (listed:Array Bool) (a:Act) (w:World),listed.size=ops.size->Closed md ops listed->(∀ i∈L0,listed.getD i false=true)->wpAny P md ops Q' fuel listed a w->wpAny P md (ops.push oz) Q (fuel+1) (listed.push false) a w:=by
 have lastStep:∀ (fuel:Nat) (listed:Array Bool) (a:Act) (w:World),listed.size=ops.size->h0I ops.size listed->Q' .normal a w->wpAny P md (ops.push oz) Q (fuel+1) (listed.push false) a w:=by
  intro fuel listed a w hs hall hq;have hmem:ops.size∈Region.ready md (ops.push oz) (listed.push false):=by
   rw[Ep];refine⟨by rw[<- hs];simp[Array.getD],oz,by simp,fun e he hb=>?_⟩;have:=hz e he hb;rw[a0o (by omega)];exact hall _ this
  refine⟨fun h=>(by rw[h]at hmem;cases hmem),fun j hj=>?_⟩;have hje:=c0H hs hall j hj;subst hje;have hdone:Region.ready md (ops.push oz) ((listed.push false).setIfInBounds ops.size true) = []:=by
   refine Al.2 fun k hk=>?_
   rw[Ep]at hk;obtain⟨h0,o,ho,_⟩:=hk;have hlt:k<ops.size+1:=by have:=(S4.1 ho).1;simpa using this
   by_cases hk':k=ops.size
   .subst hk';simp[Array.getD,hs]at h0
   .have h1:k<ops.size:=by omega
    have h2:=hall k h1;have h3:k<listed.size:=by omega
    simp[Array.getD,h3,Hx h3,Od hk',Hp h3]at h0 h2;rw[h0]at h2;cases h2
  unfold wpOp;simp only[Jb];have hw:Region.wanted oz (yielded (ops.push oz) a.tmps)=true:=by simp[Region.wanted,hgz]
  rw[U0 hw];refine (hN a w hq).imp (fun hx=>Oper.wp_mono (fun a' w' h'=>?_) hx) id;cases fuel with
  | zero=>exact⟨hdone,h'⟩
  | succ fuel=>exact⟨fun _=>h',fun k hk=>by rw[hdone]at hk;cases hk⟩
 intro fuel
 induction fuel with
 | zero=>
  intro listed a w hs _ _ h;exact lastStep 0 listed a w hs (b0X hfwd hs h.1) h.2
 | succ fuel ih=>
  intro listed a w hs hcl h0L h;by_cases hall:h0I ops.size listed
  .refine lastStep (fuel+1) listed a w hs hall (h.1 (Al.2 fun k hk=>?_));rw[Ep]at hk;obtain⟨h0,o,ho,_⟩:=hk;have h1:=(S4.1 ho).1;have h2:=hall k h1;have h3:k<listed.size:=by omega
   simp[Array.getD,h3]at h0 h2;rw[h0]at h2;cases h2
  .refine⟨fun hr=>?_,fun j hj=>?_⟩
   .have:Region.ready md ops listed = []:=Al.2 fun k hk=>by
     have hk2:k∈Region.ready md (ops.push oz) (listed.push false):=by
      rw[Ep]at hk |-;obtain⟨h0,o,ho,hh⟩:=hk;have h1:=(S4.1 ho).1;refine⟨by rw[a0o (by omega)];exact h0,o,by rw[Bf h1,<- C7 h1];exact ho,fun e he hb=>?_⟩;rw[a0o (by have:=hfwd k o ho e he hb;omega)];exact hh e he hb
     rw[hr]at hk2;cases hk2
    exact absurd (b0X hfwd hs this) hall
   .have hj':=d0l hz hz2 hfwd hs hcl h0L hall j hj;have h1:=h.2 j hj';have hlt:j<ops.size:=by
     rw[Ep]at hj';obtain⟨_,o,ho,_⟩:=hj';exact (S4.1 ho).1
    unfold wpOp at h1 |-;rw[Bf hlt];rw[C7 hlt]at h1;simp only at h1 |-;have hg:=hgd j _ (C7 hlt);have hw1:Region.wanted ops[j] (yielded (ops.push oz) a.tmps)=true:=by simp[Region.wanted,hg]
    have hw2:Region.wanted ops[j] (yielded ops a.tmps)=true:=by simp[Region.wanted,hg]
    rw[U0 hw1];rw[U0 hw2]at h1;rcases h1 with h1 | ⟨h1,h2⟩
    .refine .inl (g0t (fun a' w' h'=>?_) hP hL h1);rw[f0V (by omega)];exact ih _ _ _ (by simp[hs]) (hcl.set hj') (fun i hi=>Lw (h0L i hi)) h'
    .exact .inr ⟨h1,hL h2⟩
def u0I (md:Region.Mode)(ops:Array Oper)(j i:Nat):Bool:=match ops[j]? with | some o=>o.after.toList.any (fun f=>Region.binds md f && f.on==i) | none=>false
theorem o0M {j i:Nat}(h:u0I md ops j i=true):∃ o f,ops[j]?=some o/\f∈o.after/\Region.binds md f=true/\f.on=i:=by
 unfold u0I at h
 split at h
 .rename_i o ho
  simp only[Gm,I9,Ei,Av]at h;obtain⟨f,hf,hb,hon⟩:=h;exact⟨o,f,ho,hf,hb,hon⟩
 .cases h
def z0e (md:Region.Mode)(ops:Array Oper)(known:List Nat):List (Nat×Nat)->List Nat
 | []=>known
 | (i,j)::r=>z0e md ops (if (known.contains j && u0I md ops j i)=true then i::known else known) r
theorem i0r:∀ (r:List (Nat×Nat)) (known:List Nat),(∀ i∈known,Dep md ops oz i)->∀ i∈z0e md ops known r,Dep md ops oz i
 | [],known,h=>h
 | (i,j)::r,known,h=>by
  unfold z0e;refine i0r r _ ?_;by_cases hc:(known.contains j && u0I md ops j i)=true
  .rw[U0 hc];simp only[I9]at hc;obtain⟨hj,hx⟩:=hc;obtain⟨o,f,ho,hf,hb,hon⟩:=o0M hx;intro m hm;rcases Az.1 hm with rfl | hm
   .rw[<- hon];exact .step (h j (by simpa using hj)) ho hf hb
   .exact h m hm
  .rw[Q0 hc];exact h
def i0z (md:Region.Mode)(ops:Array Oper)(oz:Oper)(L0:List Nat)(via:List (Nat×Nat)):Bool:=
 ops.toList.all (fun o=>o.guard.isNone) && oz.guard.isNone && oz.after.toList.all (fun e => !Region.binds md e || decide (e.on<ops.size)) &&
 (List.range ops.size).all (fun i=>L0.contains i || (z0e md ops ((oz.after.toList.filter (Region.binds md)).map (·.on)) via).contains i) &&
 (List.range ops.size).all (fun i=>match ops[i]? with | some o=>o.after.toList.all (fun e => !Region.binds md e || decide (e.on<i)) | none=>true)
theorem q0C {Q':Exit->Act->World->Prop}{L0:List Nat}{via:List (Nat×Nat)}{a:Act}{w:World}{fuel:Nat}{listed:Array Bool}(hB:i0z md ops oz L0 via=true)(hs:listed.size=ops.size)(hcl:Closed md ops listed)(h0L:∀ i∈L0,listed.getD i false=true)
 (hP:∀ c a w,Q' (.panic c) a w->Q (.panic c) a w) (hL:LetsOut Q'->LetsOut Q) (hN:∀ a w,Q' .normal a w->oz.wp P a w (fun a w=>Q .normal a w) Q\/(oz.asks P a w/\LetsOut Q))
 (h:wpAny P md ops Q' fuel listed a w):wpAny P md (ops.push oz) Q (fuel+1) (listed.push false) a w:=by
 simp only[i0z,I9,Ar,Dv,S5,Fb,Av,M9,Au]at hB;obtain⟨⟨⟨⟨h1,h2⟩,h3⟩,h4⟩,h5⟩:=hB;refine k0X (L0:=L0) (fun i o ho=>h1 o (Array.mem_of_getElem? ho)) h2 (fun e he hb=>?_) (fun i hi=>?_) (fun i o ho e he hb=>?_) hP hL hN fuel listed a w hs hcl h0L h
 .rcases h3 e he with h | h
  .rw[hb]at h;cases h
  .exact h
 .rcases h4 i hi with h | h
  .exact .inl (by simpa using h)
  .refine .inr (i0r via _ (fun j hj=>?_) i (by simpa using h));obtain⟨e,he,rfl⟩:=Cc.1 hj;obtain⟨he1,he2⟩:=Mp.1 he;exact .here (by simpa using he1) he2
 .have:=h5 i (S4.1 ho).1;rw[ho]at this;simp only[Ar,Av,M9,Au,S5]at this;rcases this e he with h | h
  .rw[hb]at h;cases h
  .exact h
def i0W (l:List Oper)(L0:List Nat)(via:List (Nat×Nat)):Nat->Nat->Bool
 | 0,_=>true
 | k+1,n=>(match l[n]? with | some oz=>i0z .any (l.take n).toArray oz L0 via | none=>false) && i0W l L0 via k (n+1)
def j0x (md:Region.Mode)(ops:Array Oper)(listed:Array Bool):Bool:=
 (List.range ops.size).all fun j => !listed.getD j false || (match ops[j]? with | some o=>o.after.toList.all (fun e => !Region.binds md e || listed.getD e.on false) | none=>true)
theorem f0H {listed:Array Bool}(h:j0x md ops listed=true):Closed md ops listed:=by
 intro j o ho hj e he hb;simp only[j0x,Ar,Dv,M9,Au]at h;rcases h j (S4.1 ho).1 with h1 | h1
 .rw[hj]at h1;cases h1
 .rw[ho]at h1;simp only[Ar,Av,M9,Au]at h1;rcases h1 e he with h2 | h2
  .rw[hb]at h2;cases h2
  .exact h2
theorem Closed.pushed {listed:Array Bool}(h:Closed md ops listed)(hs:listed.size=ops.size)(hfwd:∀ i o,ops[i]?=some o->∀ e∈o.after,Region.binds md e=true->e.on<i):Closed md (ops.push oz) (listed.push false):=by
 intro j o ho hj e he hb;have hlt:j<ops.size+1:=by have:=(S4.1 ho).1;simpa using this
 by_cases hj2:j=ops.size
 .subst hj2
  exfalso
  simp[Array.getD,<- hs]at hj
 .have h1:j<ops.size:=by omega
  rw[Bf h1]at ho;rw[a0o (by omega)]at hj;have ho':ops[j]?=some o:=by rw[C7 h1];exact ho
  have h2:=hfwd j o ho' e he hb;rw[a0o (by omega)];exact h j o ho' hj e he hb
theorem i0q (l:List Oper)(L0:List Nat)(via:List (Nat×Nat)){a:Act}{w:World}:∀ (k n fuel:Nat) (listed:Array Bool),n+k=l.length->i0W l L0 via k n=true->listed.size=(l.take n).toArray.size->Closed .any (l.take n).toArray listed->(∀ i∈L0,listed.getD i false=true) ->
 wpAny P .any (l.take n).toArray (b0K P l.toArray Q (l.drop n)) fuel listed a w ->
 wpAny P .any l.toArray Q (fuel+k) (listed++Array.replicate k false) a w
 | 0,n,fuel,listed,hn,_,hs,hc,h0,h=>by
  have e1:l.take n=l:=Z6 (by omega);have e2:l.drop n = []:=Be (by omega);have e3:b0K P l.toArray Q []=Q:=by
   funext e a w
   cases e<;>simp[b0K,wpList]
  rw[e1,e2,e3]at h;simpa using h
 | k+1,n,fuel,listed,hn,hB,hs,hc,h0,h=>by
  simp only[i0W,I9]at hB;obtain⟨h1,h2⟩:=hB;have hlt:n<l.length:=by omega
  rw[J0 hlt]at h1;have e1:l.take (n+1)=l.take n ++ [l[n]]:=Di hlt;have e2:l.drop n=l[n]::l.drop (n+1):=J9 hlt;have e3:(l.take (n+1)).toArray=(l.take n).toArray.push l[n]:=by rw[e1];simp
  have h1':=h1;simp only[i0z,I9,Ar,Dv,Fb,Av,M9,Au,S5]at h1';have hgz:l[n].guard=none:=h1'.1.1.1.2;have hfwd:∀ (i:Nat) (o:Oper),(l.take n).toArray[i]?=some o->∀ e∈o.after,Region.binds .any e=true->e.on<i:=by
   intro i o ho e he hb;have:=h1'.2 i (S4.1 ho).1;rw[ho]at this;simp only[Ar,Av,M9,Au,S5]at this;rcases this e he with h | h
   .rw[hb]at h;cases h
   .exact h
  have step:=q0C (P:=P) (md:=.any) (ops:=(l.take n).toArray) (oz:=l[n]) (Q:=b0K P l.toArray Q (l.drop (n+1))) (Q':=b0K P l.toArray Q (l.drop n)) (L0:=L0) (via:=via) (a:=a) (w:=w) (fuel:=fuel) (listed:=listed) h1 hs hc h0 (fun _ _ _ h=>h) (fun ⟨a,w,h⟩=>⟨a,w,h⟩) (fun a w hq=>by
   have hq':wpList P l.toArray Q (l.drop n) a w:=hq;rw[e2]at hq';unfold wpList at hq';have hw:Region.wanted l[n] (yielded l.toArray a.tmps)=true:=by simp[Region.wanted,hgz]
   rw[U0 hw]at hq';rcases hq' with hq' | ⟨h3,h4⟩
   .exact .inl (g0t (fun _ _ h=>h) (fun _ _ _ h=>h) (fun ⟨a,w,h⟩=>⟨a,w,h⟩) hq')
   .exact .inr ⟨h3,by obtain⟨a,w,h⟩:=h4;exact⟨a,w,h⟩⟩) h
  rw[<- e3]at step
  have:=i0q l L0 via k (n+1) (fuel+1) (listed.push false) (by omega) h2 (by rw[e3,Fg,Fg,hs]) (by rw[e3];exact hc.pushed hs hfwd) (fun i hi=>by
   have hx:=h0 i hi;by_cases hi2:i<listed.size
   .rw[a0o hi2];exact hx
   .simp[Array.getD,hi2]at hx) step
  have e5:listed.push false++Array.replicate k false=listed++Array.replicate (k+1) false:=by
   apply Fk
   intro i;simp only[Array.getElem?_append,Mh,Fg,Array.getElem?_replicate];by_cases h1:i<listed.size
   .have h2:i<listed.size+1:=by omega
    have h3:¬ i=listed.size:=by omega
    simp[h1,h2,h3]
   .by_cases h2:i=listed.size
    .subst h2;simp
    .have h3:¬ i<listed.size+1:=by omega
     simp[h1,h3];have e:i-(listed.size+1)<k↔i-listed.size<k+1:=by omega
     simp[e]
  rw[e5]at this;rw[show fuel+(k+1)=fuel+1+k by omega];exact this
theorem d0Z {l:List Oper}{S:World->Prop}{L L':Act->Prop}(hL:∀ a,L a->L' a):∀ (is:List Nat) (a:Act),d0j P l S L is a->d0j P l S L' is a
 | [],a,h=>hL a h
 | i::is,a,⟨o,ho,v,hy,h⟩=>⟨o,ho,v,hy,d0Z hL is _ h⟩
theorem k0z:∀ (fuel:Nat) (listed:Array Bool) (a:Act) (w:World),wpAny P md ops Q fuel listed a w->wpAnyH P md ops Q (fun _=>True) fuel listed a w:=by
 intro fuel
 induction fuel with
 | zero=>exact fun _ _ _ h=>h
 | succ fuel ih=>
  rintro listed a w ⟨h1,h2⟩;refine⟨h1,fun i hi=>?_⟩;have h:=h2 i hi;unfold wpOp at h |-
  split at h
  .rename_i ho
   exact⟨trivial,ih _ _ _ h⟩
  .rename_i o ho
   split at h
   .rename_i hw
    rw[U0 hw];exact h.imp (fun h=>Oper.wp_mono (fun a w h=>⟨trivial,ih _ _ _ h⟩) h) id
   .rename_i hw
    rw[Q0 hw];exact⟨trivial,ih _ _ _ h⟩
theorem l0G {id:Nat}{a:Act}{w:World}{l:List Oper}(n k:Nat)(pre:List Nat)(via:List (Nat×Nat))(is:List Nat)(g:Nat)(S:World->Prop)(hm:P.follows .mixedOrders=true)(hk:n+k=l.length)
 (hsel0:Region.noSelect l.toArray=true) (hpre:h0y .any l.toArray pre (Array.replicate l.toArray.size false)=true)
 (hlast:i0W l pre via k n=true) (hset:h0v pre (Array.replicate l.toArray.size false)=h0v pre (Array.replicate n false)++Array.replicate k false) (hsz:(h0v pre (Array.replicate n false)).size=(l.take n).toArray.size) (hclo:j0x .any (l.take n).toArray (h0v pre (Array.replicate n false))=true) (hon:(pre.all fun i=>(h0v pre (Array.replicate n false)).getD i false)=true)
 (hsel:Region.noSelect (l.take n).toArray=true) (hg:g+is.length+k+pre.length=l.toArray.size) (hB:h0y .any (l.take n).toArray is (h0v pre (Array.replicate n false))=true) (hS:S w.drew)
 (h:d0j P l (fun _=>True) (fun a1=>d0j P (l.take n) S (fun a'=>wpAnyH P .any (l.take n).toArray (a0Z (b0K P l.toArray (a0Z Q) (l.drop n))) S g (h0v is (h0v pre (Array.replicate n false))) a' w.drew) is a1) pre a):(Code.region id l.toArray true).wp P Q a w:=by
 refine wp_region_any hm (e0G _ _ _ _ (Hy (S:=fun _=>True) _ _ _ _ ?_));have h1:=c0g (P:=P) (md:=.any) (Q:=Q) (S:=fun _=>True) (w:=w.drew) hsel0 (g:=g+is.length+k) trivial pre (Array.replicate l.toArray.size false) a hpre ?_
 .rw[hg]at h1;exact h1
 .refine d0Z (fun a1 h2=>?_) pre a h;refine k0z _ _ _ _ ?_;rw[hset];refine i0q l pre via k n (g+is.length) _ hk hlast hsz (f0H hclo) (fun i hi=>by simpa using List.all_eq_true.1 hon i hi) ?_;exact e0G _ _ _ _ (Hy (S:=S) _ _ _ _ (c0g (P:=P) (md:=.any) (S:=S) hsel (g:=g) hS is _ a1 hB h2))
end
section
open Go.RowKit
variable {P : Program} {Q : Exit -> Act -> World -> Prop} {md : Region.Mode} {ops : Array Oper} {oz : Oper}
theorem k0Y {o:Oper}{tmps:Array Value}(h:∀ g,o.guard=some g->g.1<ops.size):Region.wanted o (yielded (ops.push oz) tmps)=Region.wanted o (yielded ops tmps):=by
 unfold Region.wanted;cases hg:o.guard with
 | none=>rfl
 | some g=>
  obtain⟨j,b⟩:=g;have hj:=h _ hg;dsimp only at hj |-;have e:yielded (ops.push oz) tmps j=yielded ops tmps j:=by
   unfold yielded;rw[Bf hj,C7 hj]
  rw[e]
theorem k0W {Q':Exit->Act->World->Prop}{L0:List Nat}(hgd:∀ (i:Nat) (o:Oper),ops[i]?=some o->∀ g,o.guard=some g->g.1<ops.size)(hgz:oz.guard=none)
 (hz:∀ e∈oz.after,Region.binds md e=true->e.on<ops.size) (hz2:∀ i,i<ops.size->i∈L0\/Dep md ops oz i)
 (hfwd:∀ i o,ops[i]?=some o->∀ e∈o.after,Region.binds md e=true->e.on<i)
 (hP:∀ c a w,Q' (.panic c) a w->Q (.panic c) a w) (hL:LetsOut Q'->LetsOut Q) (hN:∀ a w,Q' .normal a w->oz.wp P a w (fun a w=>Q .normal a w) Q\/(oz.asks P a w/\LetsOut Q)):
 ∀ (fuel:Nat) (listed:Array Bool) (a:Act) (w:World),listed.size=ops.size->Closed md ops listed->(∀ i∈L0,listed.getD i false=true)->wpAny P md ops Q' fuel listed a w->wpAny P md (ops.push oz) Q (fuel+1) (listed.push false) a w:=by
 have lastStep:∀ (fuel:Nat) (listed:Array Bool) (a:Act) (w:World),listed.size=ops.size->h0I ops.size listed->Q' .normal a w->wpAny P md (ops.push oz) Q (fuel+1) (listed.push false) a w:=by
  intro fuel listed a w hs hall hq;have hmem:ops.size∈Region.ready md (ops.push oz) (listed.push false):=by
   rw[Ep];refine⟨by rw[<- hs];simp[Array.getD],oz,by simp,fun e he hb=>?_⟩;have:=hz e he hb;rw[a0o (by omega)];exact hall _ this
  refine⟨fun h=>(by rw[h]at hmem;cases hmem),fun j hj=>?_⟩;have hje:=c0H hs hall j hj;subst hje;have hdone:Region.ready md (ops.push oz) ((listed.push false).setIfInBounds ops.size true) = []:=by
   refine Al.2 fun k hk=>?_
   rw[Ep]at hk;obtain⟨h0,o,ho,_⟩:=hk;have hlt:k<ops.size+1:=by have:=(S4.1 ho).1;simpa using this
   by_cases hk':k=ops.size
   .subst hk';simp[Array.getD,hs]at h0
   .have h1:k<ops.size:=by omega
    have h2:=hall k h1;have h3:k<listed.size:=by omega
    simp[Array.getD,h3,Hx h3,Od hk',Hp h3]at h0 h2;rw[h0]at h2;cases h2
  unfold wpOp;simp only[Jb];have hw:Region.wanted oz (yielded (ops.push oz) a.tmps)=true:=by simp[Region.wanted,hgz]
  rw[U0 hw];refine (hN a w hq).imp (fun hx=>Oper.wp_mono (fun a' w' h'=>?_) hx) id;cases fuel with
  | zero=>exact⟨hdone,h'⟩
  | succ fuel=>exact⟨fun _=>h',fun k hk=>by rw[hdone]at hk;cases hk⟩
 intro fuel
 induction fuel with
 | zero=>
  intro listed a w hs _ _ h;exact lastStep 0 listed a w hs (b0X hfwd hs h.1) h.2
 | succ fuel ih=>
  intro listed a w hs hcl h0L h;by_cases hall:h0I ops.size listed
  .refine lastStep (fuel+1) listed a w hs hall (h.1 (Al.2 fun k hk=>?_));rw[Ep]at hk;obtain⟨h0,o,ho,_⟩:=hk;have h1:=(S4.1 ho).1;have h2:=hall k h1;have h3:k<listed.size:=by omega
   simp[Array.getD,h3]at h0 h2;rw[h0]at h2;cases h2
  .refine⟨fun hr=>?_,fun j hj=>?_⟩
   .have:Region.ready md ops listed = []:=Al.2 fun k hk=>by
     have hk2:k∈Region.ready md (ops.push oz) (listed.push false):=by
      rw[Ep]at hk |-;obtain⟨h0,o,ho,hh⟩:=hk;have h1:=(S4.1 ho).1;refine⟨by rw[a0o (by omega)];exact h0,o,by rw[Bf h1,<- C7 h1];exact ho,fun e he hb=>?_⟩;rw[a0o (by have:=hfwd k o ho e he hb;omega)];exact hh e he hb
     rw[hr]at hk2;cases hk2
    exact absurd (b0X hfwd hs this) hall
   .have hj':=d0l hz hz2 hfwd hs hcl h0L hall j hj;have h1:=h.2 j hj';have hlt:j<ops.size:=by
     rw[Ep]at hj';obtain⟨_,o,ho,_⟩:=hj';exact (S4.1 ho).1
    unfold wpOp at h1 |-;rw[Bf hlt];rw[C7 hlt]at h1;simp only at h1 |-;have hg:=k0Y (oz:=oz) (tmps:=a.tmps) (hgd j _ (C7 hlt));rw[hg];by_cases hw:Region.wanted ops[j] (yielded ops a.tmps)=true
    .rw[U0 hw]at h1 |-;rcases h1 with h1 | ⟨h1,h2⟩
     .refine .inl (g0t (fun a' w' h'=>?_) hP hL h1);rw[f0V (by omega)];exact ih _ _ _ (by simp[hs]) (hcl.set hj') (fun i hi=>Lw (h0L i hi)) h'
     .exact .inr ⟨h1,hL h2⟩
    .rw[Q0 hw]at h1 |-;rw[f0V (by omega)];exact ih _ _ _ (by simp[hs]) (hcl.set hj') (fun i hi=>Lw (h0L i hi)) h1
def i0y (md:Region.Mode)(ops:Array Oper)(oz:Oper)(L0:List Nat)(via:List (Nat×Nat)):Bool:=
 ops.toList.all (fun o=>match o.guard with | none=>true | some g=>decide (g.1<ops.size)) && oz.guard.isNone && oz.after.toList.all (fun e => !Region.binds md e || decide (e.on<ops.size)) &&
 (List.range ops.size).all (fun i=>L0.contains i || (z0e md ops ((oz.after.toList.filter (Region.binds md)).map (·.on)) via).contains i) &&
 (List.range ops.size).all (fun i=>match ops[i]? with | some o=>o.after.toList.all (fun e => !Region.binds md e || decide (e.on<i)) | none=>true)
theorem q0B {Q':Exit->Act->World->Prop}{L0:List Nat}{via:List (Nat×Nat)}{a:Act}{w:World}{fuel:Nat}{listed:Array Bool}(hB:i0y md ops oz L0 via=true)(hs:listed.size=ops.size)(hcl:Closed md ops listed)(h0L:∀ i∈L0,listed.getD i false=true)
 (hP:∀ c a w,Q' (.panic c) a w->Q (.panic c) a w) (hL:LetsOut Q'->LetsOut Q) (hN:∀ a w,Q' .normal a w->oz.wp P a w (fun a w=>Q .normal a w) Q\/(oz.asks P a w/\LetsOut Q))
 (h:wpAny P md ops Q' fuel listed a w):wpAny P md (ops.push oz) Q (fuel+1) (listed.push false) a w:=by
 simp only[i0y,I9,Ar,Dv,S5,Fb,Av,M9,Au]at hB;obtain⟨⟨⟨⟨h1,h2⟩,h3⟩,h4⟩,h5⟩:=hB
 refine k0W (L0:=L0) (fun i o ho g hg=>by
  have:=h1 o (Array.mem_of_getElem? ho);rw[hg]at this;simpa using this) h2 (fun e he hb=>?_) (fun i hi=>?_) (fun i o ho e he hb=>?_) hP hL hN fuel listed a w hs hcl h0L h
 .rcases h3 e he with h | h
  .rw[hb]at h;cases h
  .exact h
 .rcases h4 i hi with h | h
  .exact .inl (by simpa using h)
  .refine .inr (i0r via _ (fun j hj=>?_) i (by simpa using h));obtain⟨e,he,rfl⟩:=Cc.1 hj;obtain⟨he1,he2⟩:=Mp.1 he;exact .here (by simpa using he1) he2
 .have:=h5 i (S4.1 ho).1;rw[ho]at this;simp only[Ar,Av,M9,Au,S5]at this;rcases this e he with h | h
  .rw[hb]at h;cases h
  .exact h
def h0c (l:List Oper)(L0:List Nat)(via:List (Nat×Nat)):Nat->Nat->Bool
 | 0,_=>true
 | k+1,n=>(match l[n]? with | some oz=>i0y .any (l.take n).toArray oz L0 via | none=>false) && h0c l L0 via k (n+1)
theorem f0t (l:List Oper)(L0:List Nat)(via:List (Nat×Nat)){a:Act}{w:World}:∀ (k n fuel:Nat) (listed:Array Bool),n+k=l.length->h0c l L0 via k n=true->listed.size=(l.take n).toArray.size->Closed .any (l.take n).toArray listed->(∀ i∈L0,listed.getD i false=true) ->
 wpAny P .any (l.take n).toArray (b0K P l.toArray Q (l.drop n)) fuel listed a w ->
 wpAny P .any l.toArray Q (fuel+k) (listed++Array.replicate k false) a w
 | 0,n,fuel,listed,hn,_,hs,hc,h0,h=>by
  have e1:l.take n=l:=Z6 (by omega);have e2:l.drop n = []:=Be (by omega);have e3:b0K P l.toArray Q []=Q:=by
   funext e a w
   cases e<;>simp[b0K,wpList]
  rw[e1,e2,e3]at h;simpa using h
 | k+1,n,fuel,listed,hn,hB,hs,hc,h0,h=>by
  simp only[h0c,I9]at hB;obtain⟨h1,h2⟩:=hB;have hlt:n<l.length:=by omega
  rw[J0 hlt]at h1;have e1:l.take (n+1)=l.take n ++ [l[n]]:=Di hlt;have e2:l.drop n=l[n]::l.drop (n+1):=J9 hlt;have e3:(l.take (n+1)).toArray=(l.take n).toArray.push l[n]:=by rw[e1];simp
  have h1':=h1;simp only[i0y,I9,Ar,Dv,Fb,Av,M9,Au,S5]at h1';have hgz:l[n].guard=none:=h1'.1.1.1.2;have hfwd:∀ (i:Nat) (o:Oper),(l.take n).toArray[i]?=some o->∀ e∈o.after,Region.binds .any e=true->e.on<i:=by
   intro i o ho e he hb;have:=h1'.2 i (S4.1 ho).1;rw[ho]at this;simp only[Ar,Av,M9,Au,S5]at this;rcases this e he with h | h
   .rw[hb]at h;cases h
   .exact h
  have step:=q0B (P:=P) (md:=.any) (ops:=(l.take n).toArray) (oz:=l[n]) (Q:=b0K P l.toArray Q (l.drop (n+1))) (Q':=b0K P l.toArray Q (l.drop n)) (L0:=L0) (via:=via) (a:=a) (w:=w) (fuel:=fuel) (listed:=listed) h1 hs hc h0 (fun _ _ _ h=>h) (fun ⟨a,w,h⟩=>⟨a,w,h⟩) (fun a w hq=>by
   have hq':wpList P l.toArray Q (l.drop n) a w:=hq;rw[e2]at hq';unfold wpList at hq';have hw:Region.wanted l[n] (yielded l.toArray a.tmps)=true:=by simp[Region.wanted,hgz]
   rw[U0 hw]at hq';rcases hq' with hq' | ⟨h3,h4⟩
   .exact .inl (g0t (fun _ _ h=>h) (fun _ _ _ h=>h) (fun ⟨a,w,h⟩=>⟨a,w,h⟩) hq')
   .exact .inr ⟨h3,by obtain⟨a,w,h⟩:=h4;exact⟨a,w,h⟩⟩) h
  rw[<- e3]at step
  have:=f0t l L0 via k (n+1) (fuel+1) (listed.push false) (by omega) h2 (by rw[e3,Fg,Fg,hs]) (by rw[e3];exact hc.pushed hs hfwd) (fun i hi=>by
   have hx:=h0 i hi;by_cases hi2:i<listed.size
   .rw[a0o hi2];exact hx
   .simp[Array.getD,hi2]at hx) step
  have e5:listed.push false++Array.replicate k false=listed++Array.replicate (k+1) false:=by
   apply Fk
   intro i;simp only[Array.getElem?_append,Mh,Fg,Array.getElem?_replicate];by_cases h1:i<listed.size
   .have h2:i<listed.size+1:=by omega
    have h3:¬ i=listed.size:=by omega
    simp[h1,h2,h3]
   .by_cases h2:i=listed.size
    .subst h2;simp
    .have h3:¬ i<listed.size+1:=by omega
     simp[h1,h3];have e:i-(listed.size+1)<k↔i-listed.size<k+1:=by omega
     simp[e]
  rw[e5]at this;rw[show fuel+(k+1)=fuel+1+k by omega];exact this
theorem h0j {id:Nat}{a:Act}{w:World}{l:List Oper}(n k:Nat)(pre:List Nat)(via:List (Nat×Nat))(is:List Nat)(g:Nat)(S:World->Prop)(hm:P.follows .mixedOrders=true)(hk:n+k=l.length)
 (hsel0:Region.noSelect l.toArray=true) (hpre:h0y .any l.toArray pre (Array.replicate l.toArray.size false)=true)
 (hlast:h0c l pre via k n=true) (hset:h0v pre (Array.replicate l.toArray.size false)=h0v pre (Array.replicate n false)++Array.replicate k false) (hsz:(h0v pre (Array.replicate n false)).size=(l.take n).toArray.size) (hclo:j0x .any (l.take n).toArray (h0v pre (Array.replicate n false))=true) (hon:(pre.all fun i=>(h0v pre (Array.replicate n false)).getD i false)=true)
 (hsel:Region.noSelect (l.take n).toArray=true) (hg:g+is.length+k+pre.length=l.toArray.size) (hB:h0y .any (l.take n).toArray is (h0v pre (Array.replicate n false))=true) (hS:S w.drew)
 (h:d0j P l (fun _=>True) (fun a1=>d0j P (l.take n) S (fun a'=>wpAnyH P .any (l.take n).toArray (a0Z (b0K P l.toArray (a0Z Q) (l.drop n))) S g (h0v is (h0v pre (Array.replicate n false))) a' w.drew) is a1) pre a):(Code.region id l.toArray true).wp P Q a w:=by
 refine wp_region_any hm (e0G _ _ _ _ (Hy (S:=fun _=>True) _ _ _ _ ?_));have h1:=c0g (P:=P) (md:=.any) (Q:=Q) (S:=fun _=>True) (w:=w.drew) hsel0 (g:=g+is.length+k) trivial pre (Array.replicate l.toArray.size false) a hpre ?_
 .rw[hg]at h1;exact h1
 .refine d0Z (fun a1 h2=>?_) pre a h;refine k0z _ _ _ _ ?_;rw[hset];refine f0t l pre via k n (g+is.length) _ hk hlast hsz (f0H hclo) (fun i hi=>by simpa using List.all_eq_true.1 hon i hi) ?_;exact e0G _ _ _ _ (Hy (S:=S) _ _ _ _ (c0g (P:=P) (md:=.any) (S:=S) hsel (g:=g) hS is _ a1 hB h2))
end
section
open Go.RowKit Go.Shelf
open Go.Lib (decDigits nDigits)
def n0y (V:World)(K:Nat)(hK:K<10 ^ eK)(hL:Lay V):Calls Tryz.prog 359 #[.string (a0g K),.string (a0g K)] V fun e w'=>e=.returned (.string (a0g (K+K)))/\Below V.heap.size V w':=by
 have dK:=b0a hK (by decide) (by decide);have h:=s0r V (a0g K) (a0g K) (a0N dK) (a0N dK) hL;rw[d0c dK dK (b0a (j0n hK hK) (by decide) (by decide))]at h;exact h
def b1Y (V:World)(K:Nat)(hK:K<10 ^ (eK+1))(hL:Lay V):Calls Tryz.prog 359 #[.string (a0g K),.string ⟨#[49]⟩] V fun e w'=>e=.returned (.string (a0g (K+1)))/\Below V.heap.size V w':=by
 have dK:=b0a hK (by decide) (by decide);have e1:(⟨#[49]⟩:ByteArray)=a0g 1:=by unfold a0g;rw[f0r]
 have d1:nDigits 1<=4000:=b0a (n:=1) (k:=1) (by decide) (by decide) (by decide);have h:=s0r V (a0g K) (a0g 1) (a0N dK) (a0N d1) hL;rw[d0c dK d1 (b0a (k:=eK+1+1) (j0n hK (H6 (show 1<10 by decide) (Nat.le_self_pow (by decide) 10))) (by decide) (by decide))]at h;rw[e1];exact h
def Ab:=@List.drop_succ_cons
def a1T (w:World)(g bn bd:Nat)(b:ByteArray)(N D K T u:Nat)(ht:Toss w g bn bd b N D K T u)(hf:Fits N D K T)(hL:Lay w)(hs:b.size<=100000)(hu:u<b.size)(hG:s0G g):
 Calls Tryz.prog 360 #[.pointer (some ⟨g,0,none⟩)] w fun e w'=>
  Below g w w'/\e=.returned (.func (.func 345) #[.pointer (some ⟨g,0,none⟩)] #[])/\Toss w' g bn bd b N D (K+K+(if b[u]=49 then 1 else 0)) (T+T) (u+1):=by
 obtain⟨HB,HN,HD,LN,LD,LG,HL,HS,HG⟩:=ky ht.blk ht.num ht.den ht.ln ht.ld (Blk.lt ht.blk) hL hs hG;have c1:w.cell? ⟨g,1,none⟩=some (.string (a0g K)):=ht.blk.cell 1;have c2:w.cell? ⟨g,2,none⟩=some (.string (a0g T)):=ht.blk.cell 2;have P1:=fun V hV=>hid (n0y V K hf.k hV)
 have P2:=fun V hV=>hid (n0y V T hf.t hV)
 have P3:=fun V hV=>hid (b1Y V (K+K) (j0n hf.k hf.k) hV)
 obtain⟨sk,hsk⟩:=gn (a0g K);obtain⟨st,hst⟩:=gn (a0g T);rw[hsk]at c1 P1 HB;rw[hst]at c2 P2 HB;clear hsk hst ht hf hL hs hG;go_enter Tryz.func360,Tryz.ntmps360;go_wp2_with fail;refine h0j 20 6 [1] [(13,14),(12,13),(11,12),(17,18),(16,17),(15,16),(20,21),(23,24)] [0,2,3,4,5,6,7,8,9,11,12,13,14,15,16,17,18] 2 (fun W'=>W'.cell? ⟨g,1,none⟩=some (.string sk)/\W'.cell? ⟨g,2,none⟩=some (.string st)) (by kernel_rfl) (by kernel_rfl) (by kernel_rfl) (by kernel_rfl) (by kernel_rfl) (by kernel_rfl) (by kernel_rfl) (by kernel_rfl) (by kernel_rfl) (by kernel_rfl) (by kernel_rfl) (by kernel_rfl) ⟨c1,c2⟩ ?_
 iterate 1
  refine⟨_,rfl,?_⟩;apply Exists.intro
  refine⟨.inl ⟨by rfl,?_⟩,?_⟩
  ·(intro W' hW'
    clear hW'
    go_simp
    try (with_reducible rfl))
  go_frame
 iterate 17
  refine⟨_,rfl,?_⟩;apply Exists.intro
  refine⟨.inl ⟨by rfl,?_⟩,?_⟩
  ·(intro W' hW'
    obtain⟨q1,q2⟩:=hW'
    go_simp
    try (with_reducible rfl))
  go_frame
 refine a0c (i:=10) (by kernel_rfl) rfl rfl ?_;go_wp2_with fail;refine (P1 _ (HL.out.call br0.drew)).out.mono ?_;rintro e w1 ⟨rfl,hb1⟩;have y1:=hid (show Below w.heap.size w w1 from br0.drew.trans hb1);have B1:=hid (HB.out.call y1.out);clear hb1;go_wp2_with fail;refine⟨⟨B1.out.cell 1,B1.out.cell 2⟩,?_⟩;refine a0c (i:=19) (by kernel_rfl) rfl rfl ?_;go_wp2_with fail;refine (P2 _ (HL.out.call y1.out)).out.mono ?_;rintro e w2 ⟨rfl,hb2⟩;have y2:=hid (a0a y1.out hb2);obtain⟨B2,N2,D2⟩:=zc (HB.out.call y2.out) (HN.out.call y2.out) (HD.out.call y2.out);clear hb2;go_wp2_with fail;refine⟨⟨B2.out.cell 1,B2.out.cell 2⟩,?_⟩;refine Z7 (by kernel_rfl) ?_ _;simp only[a0Z,b0K,Ab,A9];have d1:w2.cell? ⟨g,1,none⟩=some (.string sk):=B2.out.cell 1;have d2:w2.cell? ⟨g,2,none⟩=some (.string st):=B2.out.cell 2;have f1:=B2.out.free 1;have f2:=B2.out.free 2;obtain⟨kk,hkk⟩:=gn (a0g (K+K));obtain⟨tt,htt⟩:=gn (a0g (T+T));rw[hkk,htt];obtain⟨HKK,HTT⟩:=zg hkk htt;rw[hkk]at P3;clear hkk htt c1 c2 P1 P2;go_wp2_with fail;simp only[a0Z];have b3:Blk ((w2.setCell ⟨g,1,none⟩ (.string kk)).setCell ⟨g,2,none⟩ (.string tt)) g (j0O b kk tt bn bd false 0 u) 330:=by
  have:=(B2.out.set 1 (.string kk)).set 2 (.string tt);simpa[j0O]using this
 have z3:Below g w2 ((w2.setCell ⟨g,1,none⟩ (.string kk)).setCell ⟨g,2,none⟩ (.string tt)):=(((J3 g w2).setCell nr _).setCell nr _);obtain⟨w3,hw3⟩:=gn ((w2.setCell ⟨g,1,none⟩ (.string kk)).setCell ⟨g,2,none⟩ (.string tt));rw[hw3]at b3 z3 |-;obtain⟨B3,N3,D3,y3,L3⟩:=zf b3 (N2.out.below z3 LN.out) (D2.out.below z3 LD.out) ((y2.out.mono (Dc LG.out)).trans z3) ((HL.out.call y2.out).below z3 HG.out);clear b3 z3 hw3 d1 d2 f1 f2;have d0:w3.cell? ⟨g,0,none⟩=some (.string b):=B3.out.cell 0;have d6:w3.cell? ⟨g,6,none⟩=some (.int .i64 u):=B3.out.cell 6;have h0:(0:Int)<=(u:Int):=by omega
 have h1:(u:Int)<(b.size:Int):=by omega
 go_wp2_with fail;refine a0k [0,1,2,3,4,5,6,7,8,9,10] 0 (fun W'=>W'.cell? ⟨g,0,none⟩=some (.string b)/\W'.cell? ⟨g,6,none⟩=some (.int .i64 u)) (by kernel_rfl) (by kernel_rfl) (by kernel_rfl) (by kernel_rfl) ⟨d0,d6⟩ ?_
 iterate 11
  refine⟨_,rfl,?_⟩;apply Exists.intro
  refine⟨.inl ⟨by rfl,?_⟩,?_⟩
  ·(intro W' hW'
    obtain⟨q1,q2⟩:=hW'
    go_simp
    try (with_reducible rfl))
  go_frame
 refine Z7 (by kernel_rfl) ?_ _;simp only[a0Z];have e1:((b[u].toNat:Int)==49)=decide (b[u]=49):=by
  rw[Bc,Ei,Gv]
  constructor
  .intro h;apply Em.1
   simp;omega
  .intro h;rw[h]
   rfl
 rw[e1];have d1:w3.cell? ⟨g,1,none⟩=some (.string kk):=B3.out.cell 1;have f1:=B3.out.free 1;have f6:=B3.out.free 6;have q6:IntKind.i64.wrap ((u:Int)+1)=(u:Int)+1:=O0 _ ⟨by omega,by have:=HS.out;omega⟩;clear e1;by_cases hb:b[u]=49
 .simp only[hb,decide_true,Fp];have HBU:=hid hb;clear hb;go_wp2_with fail;refine (P3 _ (L3.out.call br0.drew)).out.mono ?_;rintro e w4 ⟨rfl,hb4⟩;have y34:=hid (show Below w3.heap.size w3 w4 from br0.drew.trans hb4);clear hb4;have lg3:=Blk.lt B3.out;obtain⟨B4,N4,D4,y4⟩:=zd (B3.out.call y34.out) (N3.out.call y34.out) (D3.out.call y34.out) (y3.out.trans (y34.out.mono (Dc lg3)));have g1:w4.cell? ⟨g,1,none⟩=some (.string kk):=B4.out.cell 1;have g6:w4.cell? ⟨g,6,none⟩=some (.int .i64 u):=B4.out.cell 6;have k1:=B4.out.free 1;have k6:=B4.out.free 6;clear d0 d1 d6 f1 f6 lg3;go_wp2_with fail;go_ret
  have r:=(B4.out.set 1 (.string (a0g (K+K+1)))).set 6 (.int .i64 ((u:Int)+1));refine⟨(y4.out.setCell nr _).setCell nr _,rfl,?_⟩;refine⟨?_,(N4.out.other (by simp;have:=LN.out;omega) _).other (by simp;have:=LN.out;omega) _,(D4.out.other (by simp;have:=LD.out;omega) _).other (by simp;have:=LD.out;omega) _,LN.out,LD.out⟩;rw[HTT.out,show ((u+1:Nat):Int)=(u:Int)+1 by omega];exact r
 .simp only[hb,decide_false,Gu,Ao];have HBU:=hid hb;clear hb d1 f1;go_wp2_with fail;go_ret
  have r:=(show Blk w3.drew g (j0O b kk tt bn bd false 0 u) 330 from B3.out).set 6 (.int .i64 ((u:Int)+1));refine⟨y3.out.drew.setCell nr _,rfl,?_⟩;refine⟨?_,(N3.out).other (by simp;have:=LN.out;omega) _,(D3.out).other (by simp;have:=LD.out;omega) _,LN.out,LD.out⟩;rw[HKK.out,HTT.out,show ((u+1:Nat):Int)=(u:Int)+1 by omega];exact r
def a1L (x:Bool×Nat×Nat):Value:=.agg #[.bool x.1,.int .i64 (x.2.1:Nat),.int .i64 (x.2.2:Nat)]
def k0t (g:Nat):Value:=.func (.func 345) #[.pointer (some ⟨g,0,none⟩)] #[]
def n0W (g:Nat):Value:=.func (.func 360) #[.pointer (some ⟨g,0,none⟩)] #[]
def j0K (w:World)(g:Nat):Nat:=match w.cell? ⟨g,6,none⟩ with | some (.int _ u)=>u.toNat | _=>0
def e0l (n g:Nat)(nx:Value)(w:World):Nat:=match nx with
 | .func (.func f) _ _=>2*(n-j0K w g)+(if f=345 then 2 else 1)
 | _=>0
def c1e (g bn bd:Nat)(b:ByteArray)(N D:Nat)(nx:Value)(w:World):Prop:=
 (∃ K T u,nx=k0t g/\Toss w g bn bd b N D K T u/\Cell K T u/\u<=b.size/\b0t N D b.data.toList 0 1 0=b0t N D b.data.toList K T u) \/
 (∃ K T u,nx=n0W g/\Toss w g bn bd b N D K T u/\Cell K T u/\u<b.size/\sdB N D K T=false/\b0t N D b.data.toList 0 1 0=b0t N D b.data.toList K T u) \/
 (∃ (k t:ByteArray) (x:Bool×Nat×Nat),nx=.nilFunc/\Blk w g (j0O b k t bn bd x.1 (x.2.1:Nat) (x.2.2:Nat)) 330/\x=b0t N D b.data.toList 0 1 0)
def d0C {w:World}{g bn bd:Nat}{b k t:ByteArray}{d:Bool}{v:Int}{u:Nat}(h:Blk w g (j0O b k t bn bd d v u) 330):j0K w g=u:=by
 have h6:w.cell? ⟨g,6,none⟩=some (.int .i64 (u:Int)):=h.cell 6;unfold j0K;rw[h6];simp
def d0O {n g:Nat}{w:World}:e0l n g (k0t g) w=2*(n-j0K w g)+2:=by simp[e0l,k0t]
def i0h {n g:Nat}{w:World}:e0l n g (n0W g) w=2*(n-j0K w g)+1:=by simp[e0l,n0W]
def x0y (fn:Fn)(bs cs:Array Value)(W:World):(binOp BinOp.neq 332 (.func fn bs cs) .nilFunc).run Tryz.prog W=.ok (.bool true) W:=by
 kernel_rfl
def t0Y (W:World):(binOp BinOp.neq 332 .nilFunc .nilFunc).run Tryz.prog W=.ok (.bool false) W:=by
 kernel_rfl
def s0t (w:World)(p b:ByteArray)(hp:p.size<=100000)(hb:b.size<=256)(hc:c0t b=0)(he:cPE p=0)(hL:Lay w):
 Calls Tryz.prog 321 #[.string p,.string b] w fun e w'=>e=.returned (.tuple #[a1L (b0t (bN (cW p)) (bN (qD p)) b.data.toList 0 1 0),.int .i64 0])/\Below w.heap.size w w':=by
 have HP:=fun V hV=>hid (y0F V p hp hV)
 rw[he]at HP;simp only[Fp]at HP;have HC:=fun V=>hid (s0s V b (by omega))
 rw[hc]at HC;obtain⟨e1,e2,hN,hD,hle⟩:=v0X he;obtain⟨N,hn⟩:=gn (bN (cW p));obtain⟨D,hd⟩:=gn (bN (qD p));rw[hn]at e1 hN;rw[hd]at e2 hD;rw[e1,e2]at HP;rw[hn,hd];obtain⟨HN,HD,HL,HB⟩:=zd hN hD hL hb;clear hn hd e1 e2 hN hD hle hL hc he hp;obtain⟨sn,hsn⟩:=gn (a0g N);obtain⟨sd,hsd⟩:=gn (a0g D);rw[hsn,hsd]at HP;obtain⟨HSN,HSD⟩:=zg hsn hsd;clear hsn hsd hb;have e27:∀ args w,(callFunc 345 args).run Tryz.prog w=.ok (.enter 345 args) w:=Cx Tryz.func345 (by kernel_rfl) rfl;have e54:∀ args w,(callFunc 360 args).run Tryz.prog w=.ok (.enter 360 args) w:=Cx Tryz.func360 (by kernel_rfl) rfl;go_enter Tryz.func321,Tryz.ntmps321;go_wp2_with fail;refine (HP _ (HL.out.call (br0.alloc nr _))).out.mono ?_;rintro e w1 ⟨rfl,hb1⟩;obtain⟨x1,y1⟩:=zg ((Blk.new w #[.bool false,.int .i64 0,.int .i64 0] 62).call hb1) (a0a ((J3 w.heap.size w).alloc nr (.cells #[.bool false,.int .i64 0,.int .i64 0] 62)) hb1);clear hb1;go_wp2_with fail;refine (HC _).out.mono ?_;rintro e w2 ⟨rfl,hb2⟩;obtain⟨x2,y2⟩:=zg (x1.out.call hb2) (a0a y1.out hb2);clear hb2;go_wp2_with fail;refine (y0E _ _ _).mono ?_;rintro e w' ⟨rfl,rfl⟩;go_wp2_with fail;obtain⟨g,hg⟩:∃ g,g=w2.heap.size+1+1:=⟨_,rfl⟩;obtain⟨bn,hbn⟩:∃ g,g=w2.heap.size:=⟨_,rfl⟩;obtain⟨bd,hbd⟩:∃ g,g=w2.heap.size+1:=⟨_,rfl⟩
 obtain⟨W0,hW0⟩:∃ W0,(((w2.alloc (Obj.cells #[Value.string sn] 23)).alloc (Obj.cells #[Value.string sd] 23)).alloc
  (Obj.cells #[Value.string b,Value.string { data:=#[48] },Value.string { data:=#[49] },Value.func (Fn.func 357) #[] #[Value.pointer (some { block:=w2.heap.size,off:=0 }),Value.pointer (some { block:=w2.heap.size+1,off:=0 })],Value.bool false,Value.int IntKind.i64 0,Value.int IntKind.i64 0] 330))=W0:=⟨_,rfl⟩
 rw[hW0,<- hg,<- hbd,<- hbn];have t0:Toss W0 g bn bd b N D 0 1 0:=by
  refine⟨?_,?_,?_,by omega,by omega⟩
  .rw[<- hW0,hbn,hbd];have e0:a0g 0=⟨#[48]⟩:=by unfold a0g;rw[c0b]
   have e1:a0g 1=⟨#[49]⟩:=by unfold a0g;rw[f0r]
   rw[e0,e1];exact Blk.made _ _ _ (by simp;omega)
  .rw[<- hW0,HSN.out,hbn];exact ((Blk.new w2 _ _).alloc _).alloc _
  .rw[<- hW0,HSD.out,hbd];exact (Blk.made _ _ _ (by simp)).alloc _
 have b0:Below w2.heap.size w2 W0:=by
  rw[<- hW0];exact ((br0.alloc nr _).alloc (by simp) _).alloc (by simp;omega) _
 have HG:=hid hg;have hLG:s0G g:=by
  have h1:=(HL.out.call y2.out).lt;exact⟨by have:=h1.1;omega,by have:=h1.2;omega⟩
 obtain⟨HLG,T0,B0⟩:=zc hLG t0 b0;clear hW0 hg hbn hbd t0 b0 HP HC hLG;have hq1:=fun (fn:Fn) (bs cs:Array Value) (W:World)=>x0y fn bs cs W
 have hq2:=fun (W:World)=>t0Y W
 go_loopw [10] (fun nx wr=>c1e g bn bd b N D nx wr/\Hid (Below w2.heap.size w2 wr)) (fun nx wr=>e0l b.size g nx wr)
 case atStart=>exact⟨.inl ⟨0,1,0,rfl,T0.out,⟨rfl,by omega⟩,by omega,rfl⟩,B0.out⟩
 case round=>
  obtain⟨hI,hB⟩:=hrel;rcases hI with ⟨K,T,u,rfl,ht,hc,hu,heq⟩ | ⟨K,T,u,rfl,ht,hc,hu,hsb,heq⟩ | ⟨k,t,x,rfl,hbk,hx⟩
  .obtain⟨HT,HCl,HU,HE,HM⟩:=zf ht hc hu heq (d0C ht.blk);clear ht hc hu heq;simp only[k0t];go_wp2_with fail;refine (a1U _ g bn bd b N D K T u HT.out (HCl.out.fits (by have:=HU.out;have:=HB.out;omega) HN.out HD.out) ((HL.out.call y2.out).call hB.out) (by have:=HB.out;omega) HU.out).mono ?_;rintro e w5 ⟨hb5,hcases⟩;have B5:=hid (hB.out.trans (hb5.mono (by have:=HG.out;omega)));clear hb5;rcases hcases with ⟨h1,rfl,h2⟩ | ⟨h1,h3,rfl,h2⟩ | ⟨h1,h3,rfl,h2⟩
   .obtain⟨K1,K2⟩:=zg h1 h2;clear h1 h2;go_wp2_with fail;go_roundw
    case rel=>exact⟨.inr (.inr ⟨_,_,(true,sdV N D K T,u),rfl,K2.out,by rw[HE.out,g0x K1.out]⟩),B5⟩
    case measure=>exact (by show e0l b.size g .nilFunc _<e0l b.size g (k0t g) _;rw[d0O];simp[e0l])
   .obtain⟨K1,K2,K3⟩:=zc h1 h2 h3;clear h1 h2 h3;go_wp2_with fail;go_roundw
    case rel=>exact⟨.inr (.inr ⟨_,_,(false,0,u),rfl,K2.out.blk,by rw[HE.out,K3.out,<- a0z,g0w K1.out]⟩),B5⟩
    case measure=>exact (by show e0l b.size g .nilFunc _<e0l b.size g (k0t g) _;rw[d0O];simp[e0l])
   .obtain⟨K1,K2,K3⟩:=zc h1 h2 h3;clear h1 h2 h3;go_wp2_with fail;go_roundw
    case rel=>exact⟨.inr (.inl ⟨K,T,u,rfl,K2.out,HCl.out,K3.out,K1.out,HE.out⟩),B5⟩
    case measure=>exact (by show e0l b.size g (n0W g) _<e0l b.size g (k0t g) _;rw[d0O,i0h,HM.out,d0C K2.out.blk];omega)
  .obtain⟨HT,HCl,HU,HE,HSB,HM⟩:=kx ht hc hu heq hsb (d0C ht.blk);clear ht hc hu heq hsb;simp only[n0W];go_wp2_with fail;refine (a1T _ g bn bd b N D K T u HT.out (HCl.out.fits (by have:=HU.out;have:=HB.out;omega) HN.out HD.out) ((HL.out.call y2.out).call hB.out) (by have:=HB.out;omega) HU.out HLG.out).mono ?_;rintro e w5 ⟨hb5,rfl,h2⟩;obtain⟨B5,K2⟩:=zg (hB.out.trans (hb5.mono (by have:=HG.out;omega))) h2;clear hb5 h2;go_wp2_with fail;go_roundw
   case rel=>exact⟨.inl ⟨_,_,u+1,rfl,K2.out,HCl.out.next (by split<;>omega),HU.out,by
    rw[HE.out];exact g0v HSB.out (by rw[a0z];exact HU.out)⟩,B5⟩
   case measure=>exact (by show e0l b.size g (k0t g) _<e0l b.size g (n0W g) _;rw[d0O,i0h,HM.out,d0C K2.out.blk];have:=HU.out;omega)
  .obtain⟨HX,x3⟩:=zg hx (x2.out.call hB.out);have d4:wr.cell? ⟨g,4,none⟩=some (.bool x.1):=hbk.cell 4;have d5:wr.cell? ⟨g,5,none⟩=some (.int .i64 (x.2.1:Nat)):=hbk.cell 5;have d6:wr.cell? ⟨g,6,none⟩=some (.int .i64 (x.2.2:Nat)):=hbk.cell 6;have r0:wr.cell? ⟨w.heap.size,0,none⟩=some (.bool false):=x3.out.cell 0;have r1:wr.cell? ⟨w.heap.size,1,none⟩=some (.int .i64 0):=x3.out.cell 1;have r2:wr.cell? ⟨w.heap.size,2,none⟩=some (.int .i64 0):=x3.out.cell 2;have f0:=x3.out.free 0;have f1:=x3.out.free 1;have f2:=x3.out.free 2;clear hbk hx;go_wp2_with fail;have s3:=((x3.out.set 0 (.bool x.1)).set 1 (.int .i64 (x.2.1:Nat))).set 2 (.int .i64 (x.2.2:Nat));have k0:=s3.cell 0;have k1:=s3.cell 1;have k2:=s3.cell 2;simp at k0 k1 k2;refine J6 (v:=.tuple #[.agg #[.bool x.1,.int .i64 (x.2.1:Nat),.int .i64 (x.2.2:Nat)],.int .i64 0]) (by simp[results,Tryz.results321,go_sem,k0,k1,k2]) rfl ⟨by rw[<- HX.out];rfl,?_⟩;exact (((y2.out.trans (hB.out.mono y2.out.size)).setCell nr _).setCell nr _).setCell nr _
def gE (a b:ByteArray):Int:=if gPE a≠0 then gPE a else c0t b
def j0l (w:World)(a b:ByteArray)(ha:a.size<=100000)(hb:b.size<=100000)(hL:Lay w):
 Calls Tryz.prog 205 #[.string a,.string b] w fun e w'=>e=.returned (.int .i64 (gE a b))/\Below w.heap.size w w':=by
 have HR:=hid (d0u w a ha hL);have HC:=fun V=>hid (m0f V b (by omega))
 obtain⟨s1,hs1⟩:=gn ((if gPE a=0 then cW a else ⟨#[]⟩));obtain⟨s2,hs2⟩:=gn ((if gPE a=0 then qD a else ⟨#[]⟩));rw[hs1,hs2]at HR;clear hs1 hs2;by_cases h1:gPE a=0
 .have e1:gE a b=c0t b:=by rw[gE,Q0 (fun h=>h h1)]
  rw[e1];rw[h1]at HR;by_cases h2:n0D b=true
  focus
   have e2:j0E b=0:=U0 h2;rw[e2]at HC;by_cases h3:256<b.size
   focus
    have e3:c0t b=4:=by rw[c0t,U0 h2,U0 h3]
    have q0:decide ((256:Int)<(b.size:Int))=true:=by simp;omega
    rw[e3];clear h1 h2 h3 e1 e2 e3 hL
   rotate_left
   focus
    have e3:c0t b=0:=by rw[c0t,U0 h2,Q0 h3]
    have q0:decide ((256:Int)<(b.size:Int))=false:=by simp;omega
    rw[e3];clear h1 h2 h3 e1 e2 e3 hL
  rotate_left 2
  focus
   have e2:j0E b=3:=Q0 h2;have e3:c0t b=3:=Q0 h2;rw[e2]at HC;rw[e3];clear h1 h2 e1 e2 e3 hL
  all_goals
   go_enter Tryz.func205,Tryz.ntmps205;go_wp2_with fail;refine HR.out.mono ?_;rintro e w1 ⟨rfl,hb1⟩;have y1:=hid hb1;clear hb1;go_wp2_with fail;refine (HC _).out.mono ?_;rintro e w2 ⟨rfl,hb2⟩;have y2:=hid (a0a y1.out hb2);clear hb2;go_wp2_with fail;go_ret
   exact⟨rfl,y2.out⟩
 .have e1:gE a b=gPE a:=by rw[gE,U0 h1]
  rw[e1];obtain⟨x,hx⟩:=gn (gPE a);rw[hx]at HR h1 |-;have q0:(x==0)=false:=by simpa using h1
  have q1:(x != 0)=true:=by simpa using h1
  clear h1 e1 hx hL;go_enter Tryz.func205,Tryz.ntmps205;go_wp2_with fail;refine HR.out.mono ?_;rintro e w1 ⟨rfl,hb1⟩;have y1:=hid hb1;clear hb1;go_wp2_with fail;go_ret
  exact⟨rfl,y1.out⟩
def x0Y (w:World)(a b:ByteArray):
 Calls Tryz.prog 271 #[.string a,.string b] w fun e w'=>e=.returned (.func (.func 320) #[] #[.pointer (some ⟨w.heap.size,0,none⟩),.pointer (some ⟨w.heap.size+1,0,none⟩)])/\w'=(w.alloc (.cells #[.string a] 23)).alloc (.cells #[.string b] 26):=by
 go_enter Tryz.func271,Tryz.ntmps271;go_wp2_with fail;go_ret
 exact⟨rfl,rfl⟩
attribute [local go_sem] Oper.semAt_some
def d0h {b:ByteArray}(h:c0t b=0)(p:Nat):c0t (b.extract p b.size)=0/\(b.extract p b.size).data.toList=b.data.toList.drop p/\(b.extract p b.size).size<=256:=by
 have hl:b.data.toList.length=b.size:=a0z b;have e:(b.extract p b.size).data.toList=b.data.toList.drop p:=by
  rw[a0J,Z6 (by rw[S9];omega)]
 unfold c0t at h
 split at h
 .rename_i hb
  split at h
  .cases h
  .rename_i h2
   have hs:(b.extract p b.size).size<=256:=by
    have:=a0z (b.extract p b.size);rw[e,S9]at this;omega
   refine⟨?_,e,hs⟩;have hb2:n0D (b.extract p b.size)=true:=by
    unfold n0D at hb |-;rw[e];rw[Ar]at hb |-;exact fun x hx=>hb x (Id hx)
   rw[c0t,U0 hb2,Q0 (by omega)]
 .cases h
def l0W {Kp:World->World->Prop}(M n:Nat)(hn:1<=n)(w:World)(ba bb:Nat)(a b:ByteArray)(hKr:∀ W,Kp W W)(hKt:∀ {A B C:World},Kp A B->Kp B C->Kp A C)(ha:a.size<=100000)(hc:c0t b=0)(he:cPE a=0)
 (hread:∀ W1 W2,Below w.heap.size w W1->Kp W1 W2->W2.cell? ⟨ba,0,none⟩=some (.string a)/\W2.cell? ⟨bb,0,none⟩=some (.string b)/\Lay W2) (hKb:∀ W1 W2,Below W1.heap.size W1 W2->Kp W1 W2):
 b1h M n Tryz.prog 320 #[.pointer (some ⟨ba,0,none⟩),.pointer (some ⟨bb,0,none⟩)] (fun x:Nat×Nat=>#[.int .i64 (x.1:Int),.int .i64 (x.2:Int)]) Kp
  (fun pre x=>(a0A (bN (cW a)) (bN (qD a)) b.data.toList (e0d pre)).1=true/\x=(e0d pre+(a0A (bN (cW a)) (bN (qD a)) b.data.toList (e0d pre)).2.2,(a0A (bN (cW a)) (bN (qD a)) b.data.toList (e0d pre)).2.1))
  (fun xs=>(a0A (bN (cW a)) (bN (qD a)) b.data.toList (e0d xs)).1=false) (fun _=>True) w:=by
 intro l J Jx W hW hJ hJx hY hM h0;obtain⟨HR,HY,HW,HJ,HM,HKr⟩:=kx hread hY hW hJ hM hKr;have HKt:Hid (∀ A B C:World,Kp A B->Kp B C->Kp A C):=fun A B C h k=>hKt h k
 obtain⟨HKb,HC,HE,HA⟩:=zd hKb hc he ha;clear hread hY hW hJ hJx hKr hKt hM hKb hc he ha;refine callsIn_of_wp Tryz.func320 rfl trivial ?_ rfl;simp only[Tryz.ntmps320,Ae,J7,Bx,Nat.reduceAdd,Nat.reduceSub,Bi,Ce,Cy,Cs,Dk,Bk]
 gi_wp2
 obtain⟨RR,hRR⟩:∃ RR:Nat->Value->World->Prop,RR=fun k i wr=>∃ pre:List (Nat×Nat),i=.int .i64 (e0d pre:Nat)/\e0d pre<=b.size/\k+pre.length=M/\J pre wr/\Kp W wr:=⟨_,rfl⟩
 have HRR:=hid hRR;clear hRR
 gi_loopw [4,5,6] (fun i x5 x6 wr=>∃ k,RR k i wr) (fun i x5 x6 wr=>leastOf (fun k=>RR k i wr))
 case atStart=>exact⟨M,by rw[HRR.out];exact⟨[],rfl,J5 _,by simp,h0,HKr.out W⟩⟩
 case round=>
  obtain⟨hk,hmin⟩:=leastOf_spec hrel;obtain⟨k,hkk⟩:=gn (leastOf (fun k=>RR k u4 wr));rw[hkk]at hk hmin;rw[HRR.out]at hk;obtain⟨pre,rfl,hp,hlen,hJ,hK⟩:=hk;obtain⟨c0,c1,hLay⟩:=HR.out W wr HW.out hK;obtain⟨p,hpp⟩:=gn (e0d pre);obtain⟨q1,q2,q3⟩:=d0h HC.out p;have q4:=fun V hV=>hid (s0t V a (b.extract p b.size) HA.out q3 q1 HE.out hV)
  rw[q2]at q4;obtain⟨x,hx⟩:=gn (b0t (bN (cW a)) (bN (qD a)) (b.data.toList.drop p) 0 1 0);rw[hx]at q4;have hxc:a0A (bN (cW a)) (bN (qD a)) b.data.toList p=x:=hx;have hle:=a0Y (N:=bN (cW a)) (D:=bN (qD a)) (l:=b.data.toList) (p:=p) (by rw[a0z,<- hpp];exact hp);rw[hxc,a0z]at hle;obtain⟨HX,HLE,HP,HLEN,HJw,HK,HLay,HREL,HKK⟩:=ky hxc hle hpp hlen hJ hK hLay hrel hkk;rw[hpp]at hp |- HREL;have h0:(0:Int)<=(p:Int):=by omega
  have h1:(p:Int)<=(b.size:Int):=by omega
  clear hx hxc hle hpp hlen hJ hK hLay q1 q2 q3 hmin hrel hkk hp;obtain⟨d,v,u⟩:=x;simp only[a1L]at q4
  gi_wp2_with fail
  refine Oa.2 ?_;refine a0k [0,1,2,3] 7 (fun W'=>W'.cell? ⟨ba,0,none⟩=some (.string a)/\W'.cell? ⟨bb,0,none⟩=some (.string b)) (by kernel_rfl) (by kernel_rfl) (by kernel_rfl) (by kernel_rfl) ⟨c0,c1⟩ ?_
  iterate 4
   refine⟨_,rfl,?_⟩;apply Exists.intro
   refine⟨.inl ⟨by rfl,?_⟩,?_⟩
   ·(intro W' hW'
     obtain⟨q1,q2⟩:=hW'
     go_simp
     try (with_reducible rfl))
   go_frame
  refine d0N (i:=4) (j:=8) (by kernel_rfl) (by rfl) (by rfl) (by rfl) (by rfl) ?_ ?_
  focus
   go_wp2_with fail;refine (q4 _ (HLay.out.call br0.drew)).out.mono ?_;rintro e w1 ⟨rfl,hb1⟩;have y1:=hid (show Below wr.heap.size wr w1 from br0.drew.trans hb1);have s0:=(y1.out.cell (a0e c0)).trans c0;have s1:=(y1.out.cell (a0e c1)).trans c1;clear hb1;go_wp2_with fail;refine⟨⟨s0,s1⟩,?_⟩;refine b0d (is:=[5,6,7]) (g:=3) (by kernel_rfl) rfl ⟨s0,s1⟩ (by kernel_rfl) ?_
   iterate 3
    refine⟨_,rfl,?_⟩;apply Exists.intro
    refine⟨.inl ⟨by rfl,?_⟩,?_⟩
    ·(intro W' hW'
      clear hW'
      go_simp
      try (with_reducible rfl))
    go_frame
   refine a0c (i:=8) (by kernel_rfl) rfl rfl ?_;go_wp2_with fail;have s2:=((J3 w1.heap.size w1).alloc nr (.cells #[.bool false,.int .i64 0,.int .i64 0] 62));have s3:=(s2.cell (a0e s0)).trans s0;have s4:=(s2.cell (a0e s1)).trans s1;refine⟨⟨s3,s4⟩,?_⟩;refine a0c (i:=9) (by kernel_rfl) rfl rfl ?_;have bk:=Blk.new w1 #[.bool false,.int .i64 0,.int .i64 0] 62;have r0:(w1.alloc (.cells #[.bool false,.int .i64 0,.int .i64 0] 62)).cell? ⟨w1.heap.size,0,none⟩=some (.bool false):=bk.cell 0;have r1:(w1.alloc (.cells #[.bool false,.int .i64 0,.int .i64 0] 62)).cell? ⟨w1.heap.size,1,none⟩=some (.int .i64 0):=bk.cell 1;have r2:(w1.alloc (.cells #[.bool false,.int .i64 0,.int .i64 0] 62)).cell? ⟨w1.heap.size,2,none⟩=some (.int .i64 0):=bk.cell 2;have f0:=bk.free 0;have f1:=bk.free 1;have f2:=bk.free 2;obtain⟨dB,hdB⟩:=gn (w1.heap.size);obtain⟨HDB,LT0,LT1⟩:=zc hdB (a0e s0) (a0e s1);obtain⟨w2,hw2⟩:=gn (w1.alloc (.cells #[.bool false,.int .i64 0,.int .i64 0] 62));rw[hw2]at s3 s4 bk r0 r1 r2 f0 f1 f2 |-;rw[hw2]at s2;rw[hdB]at bk r0 r1 r2 f0 f1 f2 s2 LT0 LT1 |-;obtain⟨BK,y2⟩:=zg bk (y1.out.trans (s2.mono (by have:=y1.out.size;omega)));clear s0 s1 s2 hdB hw2 bk;go_wp2_with fail;have bk3:Blk (((w2.setCell ⟨dB,0,none⟩ (.bool d)).setCell ⟨dB,1,none⟩ (.int .i64 (v:Nat))).setCell ⟨dB,2,none⟩ (.int .i64 (u:Nat))) dB #[.bool d,.int .i64 (v:Nat),.int .i64 (u:Nat)] 62:=by
    have:=((BK.out.set 0 (.bool d)).set 1 (.int .i64 (v:Nat))).set 2 (.int .i64 (u:Nat));simpa using this
   have y3:Below wr.heap.size wr (((w2.setCell ⟨dB,0,none⟩ (.bool d)).setCell ⟨dB,1,none⟩ (.int .i64 (v:Nat))).setCell ⟨dB,2,none⟩ (.int .i64 (u:Nat))):=
    have hge:wr.heap.size<=dB:=by rw[<- HDB.out];exact y1.out.size
    ((y2.out.setCell hge _).setCell hge _).setCell hge _
  rotate_left
  focus
   go_wp2_with fail;have b0:Blk (wr.alloc (.cells #[.bool false,.int .i64 0,.int .i64 0] 62)).drew wr.heap.size #[.bool false,.int .i64 0,.int .i64 0] 62:=Blk.new wr #[.bool false,.int .i64 0,.int .i64 0] 62;have a0:Below wr.heap.size wr (wr.alloc (.cells #[.bool false,.int .i64 0,.int .i64 0] 62)).drew:=(br0.alloc nr _).drew;obtain⟨dB,hdB⟩:=gn (wr.heap.size);have HDB:=hid hdB;obtain⟨w1,hw1⟩:=gn ((wr.alloc (.cells #[.bool false,.int .i64 0,.int .i64 0] 62)).drew);rw[hw1]at b0 a0 |-;rw[hdB]at b0 |-;obtain⟨A0,BB0⟩:=zg a0 b0;have s0:=(a0.cell (a0e c0)).trans c0;have s1:=(a0.cell (a0e c1)).trans c1;clear hw1 hdB a0 b0;refine⟨⟨s0,s1⟩,?_⟩;refine a0c (i:=4) (by kernel_rfl) rfl rfl ?_;go_wp2_with fail;refine (q4 _ (HLay.out.call A0.out)).out.mono ?_;rintro e w2 ⟨rfl,hb2⟩;obtain⟨y2,BK⟩:=zg (A0.out.trans (hb2.mono A0.out.size)) (BB0.out.call hb2);have s3:=(y2.out.cell (a0e c0)).trans c0;have s4:=(y2.out.cell (a0e c1)).trans c1;clear hb2 s0 s1;go_wp2_with fail;refine⟨⟨s3,s4⟩,?_⟩;refine b0d (is:=[5,6,7]) (g:=2) (by kernel_rfl) rfl ⟨s3,s4⟩ (by kernel_rfl) ?_
   iterate 3
    refine⟨_,rfl,?_⟩;apply Exists.intro
    refine⟨.inl ⟨by rfl,?_⟩,?_⟩
    ·(intro W' hW'
      clear hW'
      go_simp
      try (with_reducible rfl))
    go_frame
   have r0:w2.cell? ⟨dB,0,none⟩=some (.bool false):=BK.out.cell 0;have r1:w2.cell? ⟨dB,1,none⟩=some (.int .i64 0):=BK.out.cell 1;have r2:w2.cell? ⟨dB,2,none⟩=some (.int .i64 0):=BK.out.cell 2;have f0:=BK.out.free 0;have f1:=BK.out.free 1;have f2:=BK.out.free 2;refine a0c (i:=9) (by kernel_rfl) rfl rfl ?_;go_wp2_with fail;have bk3:Blk (((w2.setCell ⟨dB,0,none⟩ (.bool d)).setCell ⟨dB,1,none⟩ (.int .i64 (v:Nat))).setCell ⟨dB,2,none⟩ (.int .i64 (u:Nat))) dB #[.bool d,.int .i64 (v:Nat),.int .i64 (u:Nat)] 62:=by
    have:=((BK.out.set 0 (.bool d)).set 1 (.int .i64 (v:Nat))).set 2 (.int .i64 (u:Nat));simpa using this
   have y3:Below wr.heap.size wr (((w2.setCell ⟨dB,0,none⟩ (.bool d)).setCell ⟨dB,1,none⟩ (.int .i64 (v:Nat))).setCell ⟨dB,2,none⟩ (.int .i64 (u:Nat))):=
    have hge:wr.heap.size<=dB:=by rw[<- HDB.out];exact Z3 _
    ((y2.out.setCell hge _).setCell hge _).setCell hge _
  all_goals
   obtain⟨V,hV⟩:=gn (((w2.setCell ⟨dB,0,none⟩ (.bool d)).setCell ⟨dB,1,none⟩ (.int .i64 (v:Nat))).setCell ⟨dB,2,none⟩ (.int .i64 (u:Nat)));rw[hV]at bk3 y3 |-;have s5:=(y3.cell (a0e c0)).trans c0;have s6:=(y3.cell (a0e c1)).trans c1;obtain⟨BV,YV⟩:=zg bk3 y3;clear hV bk3 y3 r0 r1 r2 f0 f1 f2 s3 s4;refine⟨⟨s5,s6⟩,?_⟩;refine a0c (i:=10) (by kernel_rfl) rfl rfl ?_;go_wp2_with fail;refine⟨⟨s5,s6⟩,?_⟩;refine Z7 (by kernel_rfl) ?_ _;simp only[a0Z];have e0:V.cell? ⟨dB,0,none⟩=some (.bool d):=BV.out.cell 0;have e1:V.cell? ⟨dB,1,none⟩=some (.int .i64 (v:Nat)):=BV.out.cell 1;have e2:V.cell? ⟨dB,2,none⟩=some (.int .i64 (u:Nat)):=BV.out.cell 2;have ew:IntKind.i64.wrap ((p:Int)+(u:Nat))=((p+u:Nat):Int):=by
    have h2:=HLE.out;have h3:=(d0h HC.out 0).2.2;have h4:b.size<=256:=by
     have h5:=(d0h HC.out 0).2.1;have h6:=a0z (b.extract 0 b.size);rw[h5,A9,a0z]at h6;omega
    rw[O0 _ ⟨by omega,by omega⟩];omega
   clear s5 s6;have hJV:J pre V:=HJ.out pre wr V none HJw.out ⟨YV.out.os,YV.out.tape,YV.out.output,YV.out.size,fun k hk _=>YV.out.block k hk⟩ (fun r e=>by cases e);have hKV:Kp W V:=HKt.out _ _ _ HK.out (HKb.out _ _ YV.out);obtain⟨HJV,HKV⟩:=zg hJV hKV;clear hJV hKV;cases d
   .gi_wp2_with fail
    refine⟨fun f hf=>(by cases hf),?_⟩
    gi_wp2_with fail
    refine J6 (Ja rfl _ _ _) rfl ?_;exact⟨⟨_,rfl⟩,.inl ⟨pre,by rw[HP.out,HX.out],HJV.out⟩⟩
   .obtain⟨fn,tmps,assign,body,hy,hR⟩:=HY.out pre (p+u,v) V ⟨by rw[HP.out,HX.out],by rw[HP.out,HX.out]⟩ HJV.out;dsimp only at hy;rw[Int.natCast_add]at hy;have HYR:=hid hR
    gi_wp2_with fail
    refine HYR.out.mono ?_;rintro e W3 (⟨rfl,hJ3,hk3⟩ | ⟨rfl,hJx3⟩)
    .have hM3:=HM.out _ _ hJ3;rw[J4,E8]at hM3
     have RN:=hid (show RR (k-1) (.int .i64 ((p:Int)+(u:Nat))) W3 from by
      rw[HRR.out];refine⟨pre ++ [(p+u,v)],by rw[b0I,Gj],by rw[b0I];exact HLE.out,?_,hJ3,HKt.out _ _ _ HKV.out hk3⟩;rw[J4,E8];have:=HLEN.out;omega)
     have HK1:=hid (show 1<=k from by have:=HLEN.out;omega);clear hJ3 hk3 hM3 hy hR
     gi_wp2_with fail
     go_roundw
     case rel=>exact⟨_,RN.out⟩
     case measure=>
      have h1:=(leastOf_spec (p:=fun k=>RR k (.int .i64 ((p:Int)+(u:Nat))) W3) ⟨_,RN.out⟩).2 _ RN.out;have h2:=HKK.out;rw[HP.out]at h2;have h3:=HK1.out;show leastOf (fun k=>RR k (.int .i64 ((p:Int)+(u:Nat))) W3)<leastOf (fun k=>RR k (.int .i64 (p:Nat)) wr)
      rw[h2];omega
    .clear hy hR
     gi_wp2_with fail
     refine J6 (Ja rfl _ _ _) rfl ?_;exact⟨⟨_,rfl⟩,.inr ⟨_,trivial,hJx3⟩⟩
attribute [local go_sem] Oper.semAt_some
structure KpS (n0 b1 b2:Nat)(W W':World):Prop where
 size:W.heap.size<=W'.heap.size
 rest:n0<=W.heap.size->b1<W.heap.size->b2<W.heap.size->Below n0 W W'/\W'.heap[b1]?=W.heap[b1]? /\ W'.heap[b2]?=W.heap[b2]?
theorem KpS.refl (n0 b1 b2:Nat)(W:World):KpS n0 b1 b2 W W:=⟨Z3 _,fun _ _ _=>⟨J3 _ _,rfl,rfl⟩⟩
theorem KpS.trans {n0 b1 b2:Nat}{A B C:World}(h:KpS n0 b1 b2 A B)(k:KpS n0 b1 b2 B C):KpS n0 b1 b2 A C:=
 ⟨E0 h.size k.size,fun h1 h2 h3=>by
  obtain⟨x,y,z⟩:=h.rest h1 h2 h3;obtain⟨x',y',z'⟩:=k.rest (E0 h1 h.size) (H6 h2 h.size) (H6 h3 h.size);exact⟨x.trans x',y'.trans y,z'.trans z⟩⟩
theorem KpS.of_below {n0 b1 b2:Nat}{W W':World}(h:Below W.heap.size W W'):KpS n0 b1 b2 W W':=⟨h.size,fun h1 h2 h3=>⟨h.mono h1,h.block _ h2,h.block _ h3⟩⟩
theorem KpS.put {n0 b1 b2:Nat}{w:World}(h1:n0<=w.heap.size)(h2:b1<w.heap.size)(h3:b2<w.heap.size)(W:World)(l:Nat)(o o':Obj)(hl:w.heap.size<=l)(h:W.heap[l]?=some o)(hc:o.isCells=false)(hw:o.isWalk=false):KpS n0 b1 b2 W (W.putObj l o'):=by
 have hs:W.heap.size<=(W.putObj l o').heap.size:=by simp[World.putObj]
 refine⟨hs,fun _ _ _=>⟨?_,?_,?_⟩⟩
 .exact⟨rfl,rfl,rfl,hs,fun k hk=>Eo (by omega)⟩
 .exact Eo (by omega)
 .exact Eo (by omega)
def SerI (B many N D:Nat)(l:List UInt8)(pre:List (Nat×Nat))(W:World):Prop:=∃ m vs n v,1<=m/\vs.length+m=many/\sr N D l many 0 [] 0=sr N D l m (e0d pre) vs n/\e0d pre<=l.length /\
 pre.length+(l.length-e0d pre+m)<=l.length+many/\n<=pre.length/\Boxed W (B+1) 22 v/\W.ownsRow B 3 1 v (vs.length+1) (b0q .i64 (vs ++ [n]))
theorem SerI.own {B C many N D:Nat}{l:List UInt8}:OwnFrom C (SerI B many N D l):=by
 rintro s X Y row ⟨m,vs,n,v,h1,h2,h3,h4,h5,h6,hv,hr⟩ hg hrow;refine⟨m,vs,n,v,h1,h2,h3,h4,h5,h6,hv.kept hg (fun e'=>?_),hr.kept hg ?_⟩
 .obtain⟨-,o,ho,hc⟩:=hrow _ e'.symm;rw[show X.heap[B+1]? = _ from hv]at ho;cases ho;cases hc
 .rcases hr.2 with ⟨rfl,_⟩ | ⟨g,cap,cur,rfl,_,hgb,_⟩
  .exact .inl rfl
  .refine .inr fun e'=>?_
   obtain⟨-,o,ho,hc⟩:=hrow g (by simpa[Value.ownBlock]using e'.symm);rw[hgb]at ho;cases ho;cases hc
def SerX (A B many N D:Nat)(l:List UInt8)(W:World):Prop:=∃ vs x v,sr N D l many 0 [] 0=some (vs,x)/\vs.length=many/\Blk W (A+1) #[v] 22/\Blk W (A+1+1) #[.int .i64 (x:Nat)] 3/\Blk W (A+1+1+1) #[.bool true] 4/\W.ownsRow B 3 1 v vs.length (b0q .i64 vs)
theorem SerX.keptX {A B many N D:Nat}{l:List UInt8}{X Y:World}{row:Option Nat}(h:SerX A B many N D l X)(hg:X.grownBy Y row)(hrow:∀ r,row=some r->∃ o:Obj,X.heap[r]?=some o/\o.isCells=false):SerX A B many N D l Y:=by
 obtain⟨vs,x,v,h1,h2,h3,h4,h5,hr⟩:=h;refine⟨vs,x,v,h1,h2,h3.kept hg hrow,h4.kept hg hrow,h5.kept hg hrow,hr.kept hg ?_⟩;rcases hr.2 with ⟨rfl,_⟩ | ⟨g,cap,cur,rfl,_,hgb,_⟩
 .exact .inl rfl
 .refine .inr fun e'=>?_
  obtain⟨o,ho,hc⟩:=hrow g (by simpa[Value.ownBlock]using e'.symm);rw[hgb]at ho;cases ho;cases hc
def n0J (r:Option (List Nat×Nat))(e:Ending)(w':World):Prop:=match r with
 | none=>e=.returned (.tuple #[.slice none 0 0,.int .i64 0,.bool false])
 | some (vs,x)=>∃ v,e=.returned (.tuple #[v,.int .i64 (x:Nat),.bool true])/\Row w' v (b0q .i64 vs)
def Jd:=@Go.ownsRow_succ
def Cr:=@Go.RowKit.ownsRow_setCell_below
def Ib:=@Go.Proofs.Tryz.underlying22
def Fs:=@Nat.le_succ
def j0j (w:World)(a b:ByteArray)(many:Nat)(h1:1<=many)(h2:many<=1000)(ha:a.size<=100000)(hc:c0t b=0)(he:cPE a=0)(hND:bN (cW a)<bN (qD a))(hL:Lay w):
 Calls Tryz.prog 206 #[.string a,.string b,.int .i64 (many:Nat)] w fun e w'=>n0J (sr (bN (cW a)) (bN (qD a)) b.data.toList many 0 [] 0) e w'/\Below w.heap.size w w':=by
 obtain⟨HL,HC,HE,HND,H1,H2,HA⟩:=kq hL hc he hND h1 h2 ha;have hbs:b.size<=256:=by
  have h5:=(d0h hc 0).2.1;have h6:=a0z (b.extract 0 b.size);have h7:=(d0h hc 0).2.2;rw[h5,A9,a0z]at h6;omega
 have HBS:=hid hbs;clear hL hc he hND ha hbs;obtain⟨N,hN⟩:=gn (bN (cW a));obtain⟨D,hD⟩:=gn (bN (qD a));obtain⟨HN,HD⟩:=zg hN hD;rw[hN,hD]at HND |-;clear hN hD;obtain⟨L,hL⟩:=gn (b.data.toList);obtain⟨HLL,HLQ⟩:=zg (show L.length=b.size from by rw[<- hL];exact a0z b) hL;rw[hL];clear hL;refine (Aj (n:=9)).1 ?_;refine Ez Tryz.func206 rfl trivial ?_ rfl;simp only[Tryz.ntmps206,Ae,J7,Bx,Nat.reduceAdd,Nat.reduceSub,Bi,Ce,Cy,Cs,Dk,Bk]
 gi_wp2_with fail
 refine h0J ?_
 gi_wp2_with fail
 refine wpIn_label ?_
 gi_wp2_with (refine⟨trivial,?_⟩;gi_at_call 271;refine (Aj.2 (x0Y _ _ _)).mono ?_;rintro e w' ⟨rfl,rfl⟩)
 obtain⟨i0,hi,hz0,hz1,hz2⟩:=Cl u0r
 obtain⟨W0,hW0⟩:∃ W0,(((((((w.alloc (.cells #[.int .i64 (many:Nat)] 3)).alloc (.cells #[.slice none 0 0] 22)).alloc (.cells #[.int .i64 0] 3)).alloc (.cells #[.bool false] 4)).alloc (.cells #[.int .i64 0] 3)).alloc
  (.cells #[.slice (some ⟨w.heap.size+1+1+1+1,0,none⟩) 1 1] 22)).alloc (.cells #[.string a] 23)).alloc (.cells #[.string b] 26)=W0:=⟨_,rfl⟩
 have y0:Blk W0 w.heap.size #[.int .i64 (many:Nat)] 3:=by rw[<- hW0];exact (((((((Blk.new w _ _).alloc _).alloc _).alloc _).alloc _).alloc _).alloc _).alloc _
 have y1:Blk W0 (w.heap.size+1) #[.slice none 0 0] 22:=by rw[<- hW0];exact ((((((Blk.made _ _ _ (by simp)).alloc _).alloc _).alloc _).alloc _).alloc _).alloc _
 have y2:Blk W0 (w.heap.size+1+1) #[.int .i64 0] 3:=by rw[<- hW0];exact (((((Blk.made _ _ _ (by simp)).alloc _).alloc _).alloc _).alloc _).alloc _
 have y3:Blk W0 (w.heap.size+1+1+1) #[.bool false] 4:=by rw[<- hW0];exact ((((Blk.made _ _ _ (by simp)).alloc _).alloc _).alloc _).alloc _
 have y4:Blk W0 (w.heap.size+1+1+1+1) #[.int .i64 0] 3:=by rw[<- hW0];exact (((Blk.made _ _ _ (by simp)).alloc _).alloc _).alloc _
 have y5:Blk W0 (w.heap.size+1+1+1+1+1) #[.slice (some ⟨w.heap.size+1+1+1+1,0,none⟩) 1 1] 22:=by rw[<- hW0];exact ((Blk.made _ _ _ (by simp)).alloc _).alloc _
 have y6:Blk W0 (w.heap.size+1+1+1+1+1+1) #[.string a] 23:=by rw[<- hW0];exact (Blk.made _ _ _ (by simp)).alloc _
 have y7:Blk W0 (w.heap.size+1+1+1+1+1+1+1) #[.string b] 26:=by rw[<- hW0];exact Blk.made _ _ _ (by simp)
 have b0:Below w.heap.size w W0:=by
  rw[<- hW0];exact (((((((br0.alloc nr _).alloc (by simp) _).alloc (by simp<;>omega) _).alloc (by simp<;>omega) _).alloc (by simp<;>omega) _).alloc (by simp<;>omega) _).alloc (by simp<;>omega) _).alloc (by simp<;>omega) _
 have z0:W0.heap.size=w.heap.size+1+1+1+1+1+1+1+1:=by rw[<- hW0];simp
 rw[hW0];obtain⟨Y0,Y1,Y2,Y3,Y4,Y5,Y6,Y7,HB0,Z0⟩:=kj y0 y1 y2 y3 y4 y5 y6 y7 b0 z0;clear y0 y1 y2 y3 y4 y5 y6 y7 b0 z0 hW0;obtain⟨B,hB⟩:=gn (w.heap.size+1+1+1+1);rw[hB]at Y4 Y5 Y6 Y7 Z0 |-;have HBB:=hid hB;clear hB;have hread:∀ W1 W2,Below W0.heap.size W0 W1->KpS B (B+1+1) (B+1+1+1) W1 W2->W2.cell? ⟨B+1+1,0,none⟩=some (.string a)/\W2.cell? ⟨B+1+1+1,0,none⟩=some (.string b)/\Lay W2:=fun W1 W2 b1 b2=>by
  have hs:=b1.size;have hz:=Z0.out;obtain⟨r1,r2,r3⟩:=b2.rest (by omega) (by omega) (by omega);have g1:Blk W2 (B+1+1) #[.string a] 23:=r2.trans (Y6.out.call b1);have g2:Blk W2 (B+1+1+1) #[.string b] 26:=r3.trans (Y7.out.call b1);refine⟨g1.cell 0,g2.cell 0,HL.out.call ?_⟩;have hb:=HBB.out;exact (HB0.out.trans (b1.mono (by omega))).trans (r1.mono (by omega))
 refine c0N (by omega) (gf:=320) (lb:=#[.pointer (some ⟨B+1+1,0,none⟩),.pointer (some ⟨B+1+1+1,0,none⟩)]) rfl (Cx Tryz.func320 (by kernel_rfl) rfl)
  (l0W (Kp:=KpS B (B+1+1) (B+1+1+1)) (L.length+many) 8 (by omega) W0 _ _ a b (KpS.refl _ _ _) KpS.trans HA.out HC.out HE.out hread (fun _ _=>KpS.of_below)) KpS.trans (KpS.put (by have:=Z0.out;omega) (by have:=Z0.out;omega) (by have:=Z0.out;omega)) br0 (fun _=>rfl)
  (fun pre W=>(SerI B many N D L pre W/\Blk W (B+1+1) #[.string a] 23/\Blk W (B+1+1+1) #[.string b] 26)/\Below B W0 W)
  (fun c pre W=>(c=.ret/\SerX w.heap.size B many N D L W)/\Below w.heap.size w W)
  (Mi (fun s X Y row hs hg hr=>⟨SerI.own s X Y row hs.1 hg hr,hs.2.1.kept hg (fun r e=>(hr r e).2),hs.2.2.kept hg (fun r e=>(hr r e).2)⟩) (Jm (by have:=Z0.out;omega) (by have:=Z0.out;omega)))
  (fun c=>Mi (fun s X Y row hs hg hr=>⟨hs.1,hs.2.keptX hg (fun r e=>(hr r e).2)⟩) (Jm nr (by have:=Z0.out;have:=HBB.out;omega)))
  ⟨⟨⟨many,[],0,_,H1.out,by simp,rfl,J5 _,by simp[q0i],J5 _,Y5.out,t0J Y4.out⟩,Y6.out,Y7.out⟩,J3 _ _⟩
  (fun pre W h=>by obtain⟨m,vs,n,v,_,_,_,_,h5,_⟩:=h.1.1;omega) ?act ?assign ?body ?done ?stop
 case assign=>
  intro l x W K hK
  gi_wp2
  exact hK
 case body=>
  rintro l pre ⟨q,val⟩ W ⟨hd,hx⟩ ⟨⟨⟨m,vs,n,v,i1,i2,i3,i4,i5,i6,hv,hr⟩,ha6,hb7⟩,hB⟩;rw[HN.out,HD.out,HLQ.out]at hd hx;obtain⟨p,hp⟩:=gn (e0d pre);rw[hp]at hd hx i3 i4 i5;have hle:=a0Y (N:=N) (D:=D) i4;simp only[Jq]at hx;obtain⟨hq,hvv⟩:=hx;obtain⟨g,cap,rfl⟩:=Jd hr;obtain⟨k,hk⟩:=gn (vs.length);rw[hk]at hr i2 hv;obtain⟨o1,o2,o3,o4,o5,o6,o7⟩:=g0d hr;have c0:W.cell? ⟨g,k,none⟩=some (.int .i64 (n:Nat)):=o4 k _ (by rw[e0i,M6 (by rw[ints_length];omega),ints_length,hk,Bh];rfl);have c1:W.cell? ⟨B+1,0,none⟩=some (.slice (some ⟨g,0,none⟩) (k+1) cap):=Blk.cell hv 0;have c3:W.cell? ⟨w.heap.size,0,none⟩=some (.int .i64 (many:Nat)):=(Y0.out.below hB (by have:=HBB.out;omega)).cell 0;have r1:=Y1.out.below hB (by have:=HBB.out;omega);have r2:=Y2.out.below hB (by have:=HBB.out;omega);have r3:=Y3.out.below hB (by have:=HBB.out;omega);have c4:=r1.cell 0;have c5:=r2.cell 0;have c6:=r3.cell 0;have c7:=r1.free 0;have c8:=r2.free 0;have c9:=r3.free 0;have d0:=o3 k;simp at c4 c5 c6;have hkm:k<1000:=by have:=H2.out;omega
  have hn:n<3000:=by have h2:=H2.out;have h3:=HBS.out;have h4:=HLL.out;omega
  have w1:IntKind.i64.wrap (((k+1:Nat):Int)-1)=(k:Int):=by rw[O0 _ ⟨by omega,by omega⟩];omega
  have w2:IntKind.i64.wrap ((n:Int)+1)=(n:Int)+1:=by rw[O0 _ ⟨by omega,by omega⟩]
  obtain⟨I1,I2,I3,I4,I5,I6,HV,HR,HBW,HD1,HLE,HQ⟩:=kg i1 i2 i3 i4 i5 i6 hv hr hB hd hle hq;obtain⟨HVV,HKK,A6,A7,N6,N7,N5⟩:=kq hvv hk ha6 hb7 (o7 _ _ _ (by decide) ha6) (o7 _ _ _ (by decide) hb7) (o7 _ _ _ (by decide) hv);clear ha6 hb7;obtain⟨R1,R2,R3,HC0,HC1,HO7⟩:=kx r1 r2 r3 o1 o2 o7;clear i1 i2 i3 i4 i5 i6 hv hr hB hp hd hle hq hvv hk r1 r2 r3 o1 o2 o3 o4 o7;by_cases h1:val=1
  .have q0:((val:Int)==1)=true:=by rw[h1];rfl
   have HV1:=hid h1;clear h1
   gi_wp2_with fail
   have e1:((n:Int)+1)=((n+1:Nat):Int):=rfl;have hu:=b0g HND.out HD1.out (HVV.out.symm.trans HV1.out);have hser:=d0U (vs:=vs) (n:=n) HND.out I1.out I4.out HD1.out (HVV.out.symm.trans HV1.out);have hq:=HQ.out;have h5:=I5.out;have h6:=I6.out;have hle:=HLE.out;refine⟨(Am _ _ _).from _,⟨by simp[World.setCell],fun _ _ _=>⟨br0.setCell HC0.out _,Ac _ _ _ _ (fun e=>N6.out e),Ac _ _ _ _ (fun e=>N7.out e)⟩⟩,⟨⟨m,vs,n+1,_,I1.out,by rw[HKK.out];exact I2.out,?_,?_,?_,?_,Blk.other HV.out (fun e=>N5.out e.symm) _,?_⟩,Blk.other A6.out (fun e=>N6.out e.symm) _,Blk.other A7.out (fun e=>N7.out e.symm) _⟩,HBW.out.setCell HC0.out _⟩
   .rw[b0I,I3.out,hser,hq]
   .rw[b0I];show q<=_;omega
   .rw[b0I,J4,E8];show pre.length+1+(L.length-q+m)<=_;omega
   .rw[J4,E8];omega
   .rw[HKK.out];have h7:=q0n HR.out k (.int .i64 ((n+1:Nat):Int));rw[e0M,List.set_append_right _ _ (Nat.le_of_eq HKK.out),HKK.out,Bh]at h7;exact h7
  .have q0:((val:Int)==1)=false:=by rw[U4];omega
   have hnv:=hid (show ¬ (a0A N D L p).2.1=1 from by rw[<- HVV.out];exact h1);clear h1;by_cases h2:k+1=many
   .have q1:(((k:Int)+1)==(many:Int))=true:=by rw[Ei];omega
    have HM:=hid h2;clear h2
    gi_wp2_with fail
    have hm1:m=1:=by have:=I2.out;have:=HM.out;omega
    have h8:=HBB.out;have h9:=HC0.out;have hstop:=b0G (vs:=vs) (n:=n) HD1.out hnv.out;refine⟨(((Am _ _ _).trans (Am _ _ _)).trans (Am _ _ _)).from _,⟨rfl,vs ++ [n],q,.slice (some ⟨g,0,none⟩) (k+1) cap,?_,?_,?_,?_,?_,?_⟩,?_⟩
    .rw[I3.out,hm1,hstop,HQ.out]
    .rw[J4,HKK.out];exact HM.out
    .exact (((R1.out.set 0 _).other (by simp) _).other (by simp<;>omega) _)
    .exact ((R2.out.other (by simp) _).set 0 _).other (by simp) _
    .exact ((R3.out.other (by simp<;>omega) _).other (by simp) _).set 0 _
    .rw[J4,HKK.out];exact ((Cr (Cr (Cr HR.out (by simp<;>omega) _) (by simp<;>omega) _) (by simp<;>omega) _))
    .exact (((HB0.out.trans (HBW.out.mono (by omega))).setCell (by simp<;>omega) _).setCell (by simp<;>omega) _).setCell (by simp<;>omega) _
   .have q1:(((k:Int)+1)==(many:Int))=false:=by rw[U4];omega
    have HM:=hid h2;clear h2
    gi_wp2_with (gi_at_builtin;refine Mj _ rfl _ _ 22 rfl B 3 i0 (.int .i64 0) 1 8 Ib hi hz0 hz1 hz2 rfl (by decide) _ (k+1) _ rfl (HR.out.alloc _) ⟨W.heap.size,0,none⟩ 1 1 [.int .i64 0] rfl rfl (Eh W (.int .i64 0) 3) (by simp[Value.oneCell']) (by unfold maxLen;omega) (by omega) (by have:=HC0.out;have:=HC1.out;simp;omega) ?_;intro v' w3 hown3 hgrow3 _
                 obtain⟨g2,cap2,rfl⟩:=Jd hown3;obtain⟨e1,e2,e3,e4,e5⟩:=Boxed.appended (B:=B+1) HV.out (by decide) HR.out (by have:=HC0.out;have:=HC1.out;omega) (Fs B) hown3 hgrow3;have k0:=e1.cell;have k1:=e1.frozen;obtain⟨E1,E2,E3,E4,E5,HG3⟩:=kx e1 e2 e3 e4 e5 hgrow3;clear e1 e2 e3 e4 e5 hown3 hgrow3)
    have hm2:2<=m:=by have:=I1.out;have:=I2.out;have:=HM.out;omega
    have hser:=l0c (vs:=vs) (n:=n) HND.out hm2 I4.out HD1.out hnv.out;have hq:=HQ.out;have h5:=I5.out;have h6:=I6.out;have hle:=HLE.out;have hg:(W.alloc (.cells #[.int .i64 0] 3)).grownBy w3 (some g):=HG3.out;have A6':=(((A6.out.alloc (.cells #[.int .i64 0] 3)).grown hg (fun e=>N6.out (by cases e;rfl))).other (a:=⟨B+1,0,none⟩) (by simp) (.slice (some ⟨g2,0,none⟩) (k+1+1) cap2));have A7':=(((A7.out.alloc (.cells #[.int .i64 0] 3)).grown hg (fun e=>N7.out (by cases e;rfl))).other (a:=⟨B+1,0,none⟩) (by simp<;>omega) (.slice (some ⟨g2,0,none⟩) (k+1+1) cap2));refine⟨E4.out.from _,⟨E5.out.size,fun _ _ _=>⟨E5.out,A6'.trans (Eq.symm A6.out),A7'.trans (Eq.symm A7.out)⟩⟩,⟨⟨m-1,vs ++ [n],0,_,by omega,by rw[J4,HKK.out];have:=I2.out;simp<;>omega,?_,?_,?_,J5 _,E2.out,?_⟩,A6',A7'⟩,HBW.out.trans E5.out⟩
    .rw[b0I,I3.out,hser,hq]
    .rw[b0I];show q<=_;omega
    .rw[b0I,J4,E8];show pre.length+1+(L.length-q+(m-1))<=_;omega
    .have h7:=E3.out;rw[J4,E8,HKK.out,e0i];exact h7
 case done=>
  rintro D' xs W hD hS ⟨⟨⟨m,vs,n,v,i1,i2,i3,i4,i5,i6,hv,hr⟩,ha6,hb7⟩,hB⟩ hK;rw[HN.out,HD.out,HLQ.out]at hS;have hsn:=hid (i3.trans (b0u i1 hS));have r1:=Y1.out.below hB (by have:=HBB.out;omega);have r2:=Y2.out.below hB (by have:=HBB.out;omega);have r3:=Y3.out.below hB (by have:=HBB.out;omega);have c4:=r1.cell 0;have c5:=r2.cell 0;have c6:=r3.cell 0;have c7:=r1.free 0;have c8:=r2.free 0;have c9:=r3.free 0;simp at c4 c5 c6;obtain⟨R1,R2,R3,HBW,HK,HDD⟩:=kx r1 r2 r3 hB hK hD;clear i1 i2 i3 i4 i5 i6 hv hr ha6 hb7 hB hK hS r1 r2 r3 hD
  gi_wp2_with fail
  have q1:=((R1.out.set 0 (.slice none 0 0)).other (a:=⟨w.heap.size+1+1,0,none⟩) (by simp) (.int .i64 0)).other (a:=⟨w.heap.size+1+1+1,0,none⟩) (by simp<;>omega) (.bool false);have q2:=((R2.out.other (a:=⟨w.heap.size+1,0,none⟩) (by simp) (.slice none 0 0)).set 0 (.int .i64 0)).other (a:=⟨w.heap.size+1+1+1,0,none⟩) (by simp) (.bool false);have q3:=((R3.out.other (a:=⟨w.heap.size+1,0,none⟩) (by simp<;>omega) (.slice none 0 0)).other (a:=⟨w.heap.size+1+1,0,none⟩) (by simp) (.int .i64 0)).set 0 (.bool false);have hk3:=((((Am W ⟨w.heap.size+1,0,none⟩ (.slice none 0 0)).trans (Am _ ⟨w.heap.size+1+1,0,none⟩ (.int .i64 0))).trans (Am _ ⟨w.heap.size+1+1+1,0,none⟩ (.bool false)))).same D' _ HK.out rfl;have p1:=(q1.put hk3 (.deferred none)).cell 0;have p2:=(q2.put hk3 (.deferred none)).cell 0;have p3:=(q3.put hk3 (.deferred none)).cell 0;simp at p1 p2 p3;have h8:=HBB.out;have h9:=HDD.out;have hz:=Z0.out;refine b0N hk3 (v:=.tuple #[.slice none 0 0,.int .i64 0,.bool false]) (by simp[results,Tryz.results206,go_sem,p1,p2,p3]) ⟨by rw[hsn.out];first | done | rfl,?_⟩;exact ((((HB0.out.trans (HBW.out.mono (by omega))).setCell (by simp<;>omega) _).setCell (by simp<;>omega) _).setCell (by simp<;>omega) _).trans (Lv (w:=w) nr _ D' _ _ (by omega) hk3 rfl rfl)
 case stop=>
  rintro D' c pre W hD-⟨⟨rfl,vs,x,v,h1,h2,h3,h4,h5,hr⟩,hB⟩ hK;have p1:=(h3.put hK (.deferred none)).cell 0;have p2:=(h4.put hK (.deferred none)).cell 0;have p3:=(h5.put hK (.deferred none)).cell 0;have hrow:Row (W.putObj D' (.deferred none)) v (b0q .i64 vs):=Row.put (Row.of_owns hr) hK _;simp at p1 p2 p3;obtain⟨H1',HROW,HB',HK,HDD⟩:=zf h1 hrow hB hK hD;obtain⟨a3,c3,rfl⟩:=b0k hr;clear h1 h3 h4 h5 hr hrow hB hD
  gi_wp2_with fail
  have h8:=HBB.out;have h9:=HDD.out;have hz:=Z0.out;refine b0N hK (v:=.tuple #[.slice a3 vs.length c3,.int .i64 (x:Nat),.bool true]) (by simp[results,Tryz.results206,go_sem,p1,p2,p3]) ⟨?_,?_⟩
  .rw[H1'.out];exact⟨_,rfl,HROW.out⟩
  .exact HB'.out.trans (Lv (w:=w) nr _ D' _ _ (by omega) hK rfl rfl)
def b0S {p:ByteArray}(h:gPE p=0):cPE p=0/\bN (cW p)<bN (qD p):=by
 unfold gPE at h
 split at h
 .rename_i he
  exact absurd h he
 .rename_i he
  have he':qE p=0:=Hz.1 he
  split at h
  .cases h
  .rename_i h2
   split at h
   .cases h
   .rename_i h3
    obtain⟨a,b,c,d,e1,e2⟩:=g0b he' (fun h=>h2 (.inl h)) h3;have h4:¬ 0<=k0N (cW p).data.toList (qD p).data.toList:=fun h=>h2 (.inr h)
    refine⟨?_,?_⟩
    .rw[cPE,Q0 he,Q0 (fun h=>?_),Q0 h3];rcases h with h | h
     .exact h2 (.inl h)
     .exact h4 (by omega)
    .rw[k0N,U0 ⟨e1,e2⟩,b0e]at h4;show dv _<dv _
     split at h4
     .assumption
     .split at h4<;>simp at h4
def d0o {a b:ByteArray}(h:gE a b=0):gPE a=0/\c0t b=0:=by
 unfold gE at h
 split at h
 .rename_i h1;exact absurd h h1
 .rename_i h1;exact⟨Hz.1 h1,h⟩
def Mq:=@Go.Proofs.Tryz.results136
def e0j (w:World)(a b:ByteArray)(many:Nat)(h1:1<=many)(h2:many<=1000)(ha:a.size<=100000)(hb:b.size<=100000)(he:gE a b=0)(hL:Lay w)
 (hr:sr (bN (cW a)) (bN (qD a)) b.data.toList many 0 [] 0=none):
 Calls Tryz.prog 136 #[.string a,.string b,.int .i64 (many:Nat)] w fun e w'=>e=.returned (.tuple #[.agg #[.bool false,.int .i64 0,.int .i64 (b.size:Nat)],.int .i64 0])/\Below w.heap.size w w':=by
 have HC:=fun V hV=>hid (j0l V a b ha hb hV)
 have HS:=fun V hV=>hid (j0j V a b many h1 h2 ha (d0o he).2 (b0S (d0o he).1).1 (b0S (d0o he).1).2 hV)
 rw[he]at HC;rw[hr]at HS;simp only[n0J]at HS;obtain⟨HL,b0,x0⟩:=zc hL ((J3 w.heap.size w).alloc nr (.cells #[.bool false,.int .i64 0,.int .i64 0] 62)) (Blk.new w #[.bool false,.int .i64 0,.int .i64 0] 62);clear h1 h2 ha hb he hL hr;go_enter Tryz.func136,Tryz.ntmps136;go_wp2_with fail;refine (HC _ (HL.out.call b0.out)).out.mono ?_;rintro e w1 ⟨rfl,hb1⟩;obtain⟨b1,x1⟩:=zg (a0a b0.out hb1) (x0.out.call hb1);clear hb1;go_wp2_with fail;refine (HS _ (HL.out.call b1.out)).out.mono ?_;rintro e w2 ⟨rfl,hb2⟩;obtain⟨b2,x2⟩:=zg (a0a b1.out hb2) (x1.out.call hb2);have r0:w2.cell? ⟨w.heap.size,0,none⟩=some (.bool false):=x2.out.cell 0;have r1:w2.cell? ⟨w.heap.size,1,none⟩=some (.int .i64 0):=x2.out.cell 1;have r2:w2.cell? ⟨w.heap.size,2,none⟩=some (.int .i64 0):=x2.out.cell 2;have f0:=x2.out.free 0;have f1:=x2.out.free 1;have f2:=x2.out.free 2;clear hb2;go_wp2_with fail;have s3:=((x2.out.set 0 (.bool false)).set 1 (.int .i64 0)).set 2 (.int .i64 (b.size:Nat));have k0:=s3.cell 0;have k1:=s3.cell 1;have k2:=s3.cell 2;simp at k0 k1 k2;refine J6 (v:=.tuple #[.agg #[.bool false,.int .i64 0,.int .i64 (b.size:Nat)],.int .i64 0]) (by simp[results,Mq,go_sem,k0,k1,k2]) rfl ⟨rfl,?_⟩;exact ((b2.out.setCell nr _).setCell nr _).setCell nr _
def i0f (w:World)(a b:ByteArray)(many:Nat)(ha:a.size<=100000)(hb:b.size<=100000)(he:gE a b≠0)(hL:Lay w):
 Calls Tryz.prog 136 #[.string a,.string b,.int .i64 (many:Nat)] w fun e w'=>e=.returned (.tuple #[.agg #[.bool false,.int .i64 0,.int .i64 0],.int .i64 (gE a b)])/\Below w.heap.size w w':=by
 have HC:=fun V hV=>hid (j0l V a b ha hb hV)
 obtain⟨x,hx⟩:=gn (gE a b);rw[hx]at HC he |-;have q1:(x != 0)=true:=by simpa using he
 obtain⟨HL,b0,x0⟩:=zc hL ((J3 w.heap.size w).alloc nr (.cells #[.bool false,.int .i64 0,.int .i64 0] 62)) (Blk.new w #[.bool false,.int .i64 0,.int .i64 0] 62);clear ha hb he hL hx;go_enter Tryz.func136,Tryz.ntmps136;go_wp2_with fail;refine (HC _ (HL.out.call b0.out)).out.mono ?_;rintro e w2 ⟨rfl,hb2⟩;obtain⟨b2,x2⟩:=zg (a0a b0.out hb2) (x0.out.call hb2);have r0:w2.cell? ⟨w.heap.size,0,none⟩=some (.bool false):=x2.out.cell 0;have r1:w2.cell? ⟨w.heap.size,1,none⟩=some (.int .i64 0):=x2.out.cell 1;have r2:w2.cell? ⟨w.heap.size,2,none⟩=some (.int .i64 0):=x2.out.cell 2;have f0:=x2.out.free 0;have f1:=x2.out.free 1;have f2:=x2.out.free 2;clear hb2;go_wp2_with fail;have s3:=((x2.out.set 0 (.bool false)).set 1 (.int .i64 0)).set 2 (.int .i64 0);have k0:=s3.cell 0;have k1:=s3.cell 1;have k2:=s3.cell 2;simp at k0 k1 k2;refine J6 (v:=.tuple #[.agg #[.bool false,.int .i64 0,.int .i64 0],.int .i64 x]) (by simp[results,Mq,go_sem,k0,k1,k2]) rfl ⟨rfl,?_⟩;exact ((b2.out.setCell nr _).setCell nr _).setCell nr _
def o0G (w:World)(a b:ByteArray)(x p:Nat)(hx:x<=100000)(hp:p<=100000)(ha:a.size<=100000)(hb:b.size<=100000)(he:gE a b=0)(hL:Lay w)
 (hr:sr (bN (cW a)) (bN (qD a)) b.data.toList 1 0 [] 0=some ([x],p)):
 Calls Tryz.prog 136 #[.string a,.string b,.int .i64 1] w fun e w'=>e=.returned (.tuple #[.agg #[.bool true,.int .i64 (x:Nat),.int .i64 (p:Nat)],.int .i64 0])/\Below w.heap.size w w':=by
 have HC:=fun V hV=>hid (j0l V a b ha hb hV)
 have HS:=fun V hV=>hid (j0j V a b 1 (by omega) (by omega) ha (d0o he).2 (b0S (d0o he).1).1 (b0S (d0o he).1).2 hV)
 rw[he]at HC;rw[hr]at HS;simp only[n0J]at HS;obtain⟨HL,b0,x0⟩:=zc hL ((J3 w.heap.size w).alloc nr (.cells #[.bool false,.int .i64 0,.int .i64 0] 62)) (Blk.new w #[.bool false,.int .i64 0,.int .i64 0] 62);clear ha hb he hL hr;go_enter Tryz.func136,Tryz.ntmps136;go_wp2_with fail;refine (HC _ (HL.out.call b0.out)).out.mono ?_;rintro e w1 ⟨rfl,hb1⟩;obtain⟨b1,x1⟩:=zg (a0a b0.out hb1) (x0.out.call hb1);clear hb1;go_wp2_with fail;refine (HS _ (HL.out.call b1.out)).out.mono ?_;rintro e w2 ⟨⟨v,rfl,hv⟩,hb2⟩;obtain⟨b2,x2⟩:=zg (a0a b1.out hb2) (x1.out.call hb2);obtain⟨a3,c3,rfl,h3,h4,h5⟩:=hv.openI;obtain⟨g,o,rfl,-,hc⟩:=h5 0 x rfl;rw[Ao]at hc;have r0:w2.cell? ⟨w.heap.size,0,none⟩=some (.bool false):=x2.out.cell 0;have r1:w2.cell? ⟨w.heap.size,1,none⟩=some (.int .i64 0):=x2.out.cell 1;have r2:w2.cell? ⟨w.heap.size,2,none⟩=some (.int .i64 0):=x2.out.cell 2;have f0:=x2.out.free 0;have f1:=x2.out.free 1;have f2:=x2.out.free 2;clear hb2 hv h5;simp only[E8]at h3 |-;go_wp2_with fail
 all_goals
  go_loop [12,41] (fun v i=>v=.int .i64 (x:Nat)/\i=.int .i64 0) (fun _ _=>0)
  case atStart=>exact⟨rfl,rfl⟩
  case round=>
   obtain⟨rfl,rfl⟩:=hrel;go_wp2_with fail;have s3:=((x2.out.set 0 (.bool true)).set 1 (.int .i64 (x:Nat))).set 2 (.int .i64 (p:Nat));have k0:=s3.cell 0;have k1:=s3.cell 1;have k2:=s3.cell 2;simp at k0 k1 k2;refine J6 (v:=.tuple #[.agg #[.bool true,.int .i64 (x:Nat),.int .i64 (p:Nat)],.int .i64 0]) (by simp[results,Mq,go_sem,k0,k1,k2]) rfl ⟨rfl,?_⟩;exact ((b2.out.setCell nr _).setCell nr _).setCell nr _
def o0F (w:World)(a b:ByteArray)(x y p:Nat)(hx:x<=100000)(hy:y<=100000)(hp:p<=100000)(ha:a.size<=100000)(hb:b.size<=100000)(he:gE a b=0)(hL:Lay w)
 (hr:sr (bN (cW a)) (bN (qD a)) b.data.toList 2 0 [] 0=some ([x,y],p)):
 Calls Tryz.prog 136 #[.string a,.string b,.int .i64 2] w fun e w'=>e=.returned (.tuple #[.agg #[.bool true,.int .i64 ((x:Int)-(y:Int)),.int .i64 (p:Nat)],.int .i64 0])/\Below w.heap.size w w':=by
 have HC:=fun V hV=>hid (j0l V a b ha hb hV)
 have HS:=fun V hV=>hid (j0j V a b 2 (by omega) (by omega) ha (d0o he).2 (b0S (d0o he).1).1 (b0S (d0o he).1).2 hV)
 rw[he]at HC;rw[hr]at HS;simp only[n0J]at HS;obtain⟨HL,b0,x0⟩:=zc hL ((J3 w.heap.size w).alloc nr (.cells #[.bool false,.int .i64 0,.int .i64 0] 62)) (Blk.new w #[.bool false,.int .i64 0,.int .i64 0] 62);clear ha hb he hL hr;go_enter Tryz.func136,Tryz.ntmps136;go_wp2_with fail;refine (HC _ (HL.out.call b0.out)).out.mono ?_;rintro e w1 ⟨rfl,hb1⟩;obtain⟨b1,x1⟩:=zg (a0a b0.out hb1) (x0.out.call hb1);clear hb1;go_wp2_with fail;refine (HS _ (HL.out.call b1.out)).out.mono ?_;rintro e w2 ⟨⟨v,rfl,hv⟩,hb2⟩;obtain⟨b2,x2⟩:=zg (a0a b1.out hb2) (x1.out.call hb2);obtain⟨a3,c3,rfl,h3,h4,h5⟩:=hv.openI;obtain⟨g,o,rfl,-,hc⟩:=h5 0 x rfl;obtain⟨g',o',hgo,-,hd⟩:=h5 1 y rfl;simp at hgo;obtain⟨rfl,rfl⟩:=hgo;rw[Ao]at hc;have r0:w2.cell? ⟨w.heap.size,0,none⟩=some (.bool false):=x2.out.cell 0;have r1:w2.cell? ⟨w.heap.size,1,none⟩=some (.int .i64 0):=x2.out.cell 1;have r2:w2.cell? ⟨w.heap.size,2,none⟩=some (.int .i64 0):=x2.out.cell 2;have f0:=x2.out.free 0;have f1:=x2.out.free 1;have f2:=x2.out.free 2;clear hb2 hv h5;simp only[J7,Bx,U7,Nat.reduceAdd]at h3 |-;have w1:IntKind.i64.wrap ((x:Int)-(y:Int))=(x:Int)-(y:Int):=by rw[O0 _ ⟨by omega,by omega⟩]
 go_wp2_with fail
 all_goals
  go_loop [12,41] (fun v i=>(v=.int .i64 (x:Nat)/\i=.int .i64 0)\/(v=.int .i64 ((x:Int)-(y:Int))/\i=.int .i64 1)) (fun _ i=>1-(intOf i).toNat)
  case atStart=>exact .inl ⟨rfl,rfl⟩
  case round=>
   rcases hrel with ⟨rfl,rfl⟩ | ⟨rfl,rfl⟩
   .go_wp2_with fail;go_round
    case rel=>exact .inr ⟨rfl,rfl⟩
    case measure=>simp[intOf]
   .go_wp2_with fail;have s3:=((x2.out.set 0 (.bool true)).set 1 (.int .i64 ((x:Int)-(y:Int)))).set 2 (.int .i64 (p:Nat));have k0:=s3.cell 0;have k1:=s3.cell 1;have k2:=s3.cell 2;simp at k0 k1 k2;refine J6 (v:=.tuple #[.agg #[.bool true,.int .i64 ((x:Int)-(y:Int)),.int .i64 (p:Nat)],.int .i64 0]) (by simp[results,Mq,go_sem,k0,k1,k2]) rfl ⟨rfl,?_⟩;exact ((b2.out.setCell nr _).setCell nr _).setCell nr _
end
end Go.Proofs.YtfkpfpobmobnbaaGreatDoor
namespace Go.Proofs
open Go.Shelf
def Tryz.lays212_ren:Go.Shelf.Ren:=⟨fun | 212=>202 | 263=>262 | 264=>263 | n=>n,fun | 46=>174 | 51=>224 | 146=>247 | 53=>161 | 148=>249 | n=>n,fun | n=>n⟩
theorem Tryz.lays212:Go.Proofs.Lays.n212 Tryz.prog Tryz.lays212_ren:={
 mixed:=by kernel_rfl
 f212:=Tryz.func202.trans (congrArg some (by kernel_rfl))
 f263:=Tryz.func262.trans (congrArg some (by kernel_rfl))
 f264:=Tryz.func263.trans (congrArg some (by kernel_rfl))
 t46:=Df
 a46:=Fv
 z46:=Fa
 v46:=Dq
 t51:=Du
 a51:=Gt
 z51:=Fz
 v51:=Eg
 t53:=Dg
 a53:=Gq
 z53:=Fy
 v53:=Ef
 t146:=Tryz.underlying247
 a146:=Tryz.isAgg247
 z146:=Tryz.sizeOf247
 v146:=Tryz.zeroValue247
 t148:=Tryz.underlying249
 a148:=Tryz.isAgg249
 z148:=Tryz.sizeOf249
 v148:=Tryz.zeroValue249 }
open Go.RowKit Go.Lib in
theorem Tryz.bits_Mul (x y:Nat)(hx:x<18446744073709551616)(hy:y<18446744073709551616)(w:World):
 Calls Tryz.prog 202 #[.int .u64 x,.int .u64 y] w fun e w'=>e=.returned (.tuple #[.int .u64 ((x*y / 18446744073709551616:Nat):Int),.int .u64 ((x*y%18446744073709551616:Nat):Int)])/\w'=w:=Any.bits_Mul Tryz.lays212 x y hx hy w
end Go.Proofs
namespace Go.Proofs.YtfkpfpobmobnbaaGreatDoor
open Go.RowKit
def b0T (l:List ByteArray):List Value:=l.map Value.string
@[simp] theorem strsR_length (l:List ByteArray):(b0T l).length=l.length:=by simp[b0T]
def j0T {l:List ByteArray}{i:Nat}{s:ByteArray}(h:l[i]?=some s):(b0T l)[i]?=some (.string s):=by simp[b0T,h]
def j0S (l:List ByteArray):∀ u∈b0T l,u.oneCell'=true:=by
 intro u hu;obtain⟨x,_,rfl⟩:=Cc.1 hu
 rfl
def o0s (n:Nat)(h:n<=1000000)(W:World):(Instr.makeSlice 106 (.int .i64 (n:Int)) (.int .i64 (n:Int))).run Tryz.prog W=.ok (.slice (some ⟨W.heap.size,0,none⟩) n n) (W.alloc (.cells (madeCells #[.string ⟨#[]⟩] n) 23)):=
 Lu (P:=Tryz.prog) 106 23 (.string ⟨#[]⟩) 16 Tryz.underlying106 (by kernel_rfl) rfl .i64 .i64 n (by omega) (by omega) W
def o0w (n:Nat):madeCells #[.string ⟨#[]⟩] n=(b0T (List.replicate n ⟨#[]⟩)).toArray:=by
 apply Fk
 intro i;unfold madeCells b0T;by_cases hi:i<n<;>simp[hi,Nn]
def k0U (s:ByteArray)(n k:Nat):List Value:=b0T (List.replicate k s++List.replicate (n-k) ⟨#[]⟩)
def Ng:=@List.map_replicate
def g0G {s:ByteArray}{n k m:Nat}(h:k+m<=n):splice (k0U s n k) k (b0T (List.replicate m s))=k0U s n (k+m):=by
 unfold splice k0U b0T;simp only[Ak,Ng,Ff];rw[List.take_append_of_le_length (by simp),Z6 (by simp),List.drop_append,Be (by simp),Dk,Ff,List.drop_replicate,<- Ai,List.replicate_append_replicate];rw[show n-k-(k+m-k)=n-(k+m) by omega]
def f0X (w:World)(g0 n:Nat)(s:ByteArray)(h1:1<=n)(h2:n<=100000)(hc:w.cell? ⟨g0,0,none⟩=some (.string s)):
 Calls Tryz.prog 124 #[.slice (some ⟨g0,0,none⟩) 1 1,.int .i64 n] w fun e w'=>
  e=.returned (.slice (some ⟨w.heap.size,0,none⟩) n n)/\Blk w' w.heap.size (b0T (List.replicate n s)).toArray 23/\Below w.heap.size w w':=by
 have HM:=fun W=>hid (o0s n (by omega) W)
 have HB:=fun W=>hid (Tryz.bits_Mul 1 n (by omega) (by omega) W)
 have e1:(((1*n / 18446744073709551616:Nat)):Int)=0:=by
  rw[Ds,Do (by omega)];rfl
 have e2:(((1*n%18446744073709551616:Nat)):Int)=(n:Int):=by
  rw[Ds,Bl (by omega)]
 rw[e1,e2]at HB;have hn0:(0:Int)<=(n:Int):=by omega
 have hn1:(n:Int)<=100000:=by omega
 have q0:decide ((n:Int)<0)=false:=by simp
 have hsrc:∀ j v,(b0T [s])[j]?=some v->w.cell? ((⟨g0,0,none⟩:Addr).add j)=some v:=by
  intro j v hj;rcases j with _ | j
  .simp[b0T]at hj;rw[<- hj];exact hc
  .simp[b0T]at hj
 obtain⟨HSRC,H1,H2⟩:=zc hsrc h1 h2;clear e1 e2 hsrc hc h1 h2;go_enter Tryz.func124,Tryz.ntmps124;go_wp2_with fail;refine (HB _).out.mono ?_;rintro e w1 ⟨rfl,rfl⟩;clear HB;have HM1:=(HM w1).out;have hc1:(w1.alloc (.cells (madeCells #[.string ⟨#[]⟩] n) 23)).heap[w1.heap.size]?=some (.cells (k0U s n 0).toArray 23 (0,0)):=by
  have:=Blk.new w1 (madeCells #[.string ⟨#[]⟩] n) 23;rw[o0w]at this |-;simpa[k0U,Blk]using this
 have hc2:(b0T [s]).length=Nat.min 1 n:=(Nat.min_eq_left H1.out).symm;have hc3:∀ j v,(b0T [s])[j]?=some v->(w1.alloc (.cells (madeCells #[.string ⟨#[]⟩] n) 23)).cell? ((⟨g0,0,none⟩:Addr).add j)=some v:=fun j v h=>
  have h2:=HSRC.out j v h
  (((J3 w1.heap.size w1).alloc nr _).cell (a0e h2)).trans h2
 have hc4:0+(b0T [s]).length<=(k0U s n 0).length:=by simp[b0T,k0U];have:=H1.out;omega
 have hc5:=(J3 w1.heap.size w1).alloc nr (.cells (madeCells #[.string ⟨#[]⟩] n) 23);obtain⟨C1,C2,C3,C4,C5⟩:=zf hc1 hc2 hc3 hc4 hc5;have hsp:splice (k0U s n 0) 0 (b0T [s])=k0U s n 1:=by
  have:=g0G (s:=s) (n:=n) (k:=0) (m:=1) (by have:=H1.out;omega);simpa using this
 have HSP:=hid hsp;clear hc1 hc2 hc3 hc4 hc5 HM hsp;go_wp2_with (refine wpList_copy_splice rfl (.tmp 31) (.tmp 32) 106 106 rfl 23 Tryz.underlying106 (by kernel_rfl) (some ⟨w1.heap.size,0,none⟩) (some ⟨g0,0,none⟩) n n 1 1 rfl rfl w1.heap.size 0 (k0U s n 0) 23 C1.out (b0T [s]) C2.out (fun _=>⟨rfl,_,rfl,C3.out⟩) C4.out (j0S _) w1.heap.size w1 C5.out nr ?_;intro w2 hg2 hb2)
 rw[HSP.out]at hg2;obtain⟨G2,B2⟩:=zg (show Blk w2 w1.heap.size (k0U s n 1).toArray 23 from hg2.out) hb2;obtain⟨H,hH⟩:=gn (w1.heap.size);rw[hH]at G2 B2 |-;clear hg2 hb2 HM1 C1 C2 C3 C4 C5 HSP HSRC;have HH:=hid hH;clear hH
 go_loopw [8] (fun i wr=>∃ k:Nat,i=.int .i64 (k:Nat)/\1<=k/\k<=n/\Hid (Blk wr H (k0U s n k).toArray 23)/\Hid (Below H w1 wr)) (fun i wr=>n-(intOf i).toNat)
 case atStart=>exact⟨1,rfl,Z3 _,H1.out,G2.out,B2.out⟩
 case round=>
  obtain⟨k,rfl,hk1,hk2,hG,hB⟩:=hrel;by_cases hlt:k<n
  .have f0:(0:Int)<=(k:Int):=by omega
   have f1:(k:Int)<(n:Int):=by omega
   have f2:(k:Int)<=(n:Int):=by omega
   obtain⟨K1,K2⟩:=zg hk1 hlt;clear hk1 hk2;go_wp2_with fail;refine a0k [0,1,2,3,4,5,6] 3 (fun _=>True) (by kernel_rfl) (by kernel_rfl) (by kernel_rfl) (by kernel_rfl) trivial ?_
   iterate 7
    refine⟨_,rfl,?_⟩;apply Exists.intro
    refine⟨.inl ⟨by rfl,?_⟩,?_⟩
    ·(intro W' hW';clear hW';go_simp;try (with_reducible rfl))
    go_frame
   refine a0c (i:=7) (by kernel_rfl) rfl rfl ?_;obtain⟨m,hm⟩:=gn (Nat.min k (n-k));have hm1:m<=k:=hm ▸ Nat.min_le_left _ _;have hm2:m<=n-k:=hm ▸ Nat.min_le_right _ _;have hm3:1<=m:=by rw[<- hm];exact Nat.le_min.2 ⟨K1.out,by omega⟩
   have hsrc:∀ j v,(b0T (List.replicate m s))[j]?=some v->wr.drew.cell? ((⟨H,0,none⟩:Addr).add j)=some v:=fun j v hj=>by
    rw[Addr.add_lit,U7];have hjm:j<m:=by
     have:=(O4.1 hj).1;simpa using this
    have hv:v=.string s:=by
     rw[j0T (s:=s) (by rw[Ah,U0 hjm])]at hj;cases hj;rfl
    rw[hv];refine (Blk.cell (Blk.drew hG.out) j).trans ?_;rw[K6];exact j0T (by rw[D9 (by simp;omega),Ah,U0 (by omega)])
   rw[Q0 (show ¬ n=k by have:=K2.out;omega)];refine wpList_copy_splice rfl (.tmp 41) (.tmp 44) 106 106 rfl 23 Tryz.underlying106 (by kernel_rfl) (some ⟨H,k,none⟩) (some ⟨H,0,none⟩) (n-k) (n-k) k n rfl rfl H k (k0U s n k) 23 hG.out (b0T (List.replicate m s)) (by simp[hm]) (fun _=>⟨rfl,_,rfl,hsrc⟩) (by simp[k0U,b0T]<;>omega) (j0S _) H w1 (hB.out.drew) nr ?_;intro w4 hg4 hb4;rw[show (b0T (List.replicate m s)).length=m by simp];rw[g0G (by omega)]at hg4;obtain⟨G4,B4,M2,M3⟩:=zd (show Blk w4 H (k0U s n (k+m)).toArray 23 from hg4.out) hb4 hm2 hm3;have f5:(0:Int)<=(m:Int):=by omega
   have f6:(m:Int)<=100000:=by omega
   have ew:IntKind.i64.wrap ((k:Int)+(m:Int))=(k:Int)+(m:Int):=by rw[O0 _ ⟨by omega,by omega⟩]
   clear hm hm1 hm2 hm3 hsrc hg4 hb4;go_wp2_with fail;refine⟨trivial,?_⟩;refine b0d (is:=[8,9]) (g:=0) (by kernel_rfl) rfl trivial (by kernel_rfl) ?_
   iterate 2
    refine⟨_,rfl,?_⟩;apply Exists.intro
    refine⟨.inl ⟨by rfl,?_⟩,?_⟩
    ·(intro W' hW';clear hW';go_simp;try (with_reducible rfl))
    go_frame
   refine Z7 (by kernel_rfl) ?_ _;simp only[a0Z];go_wp2_with fail;go_roundw
   case rel=>exact⟨k+m,by rw[Gj],by have:=M3.out;omega,by have:=M2.out;have:=K2.out;omega,G4,B4⟩
   case measure=>simp[intOf]<;>(have:=M3.out;have:=K2.out;omega)
  .have e1:k=n:=by omega
   subst e1;go_wp2_with fail;go_ret
   have hh:=HH.out;subst hh;refine⟨rfl,?_,hB.out⟩;have:=hG.out;simpa[k0U]using this
end Go.Proofs.YtfkpfpobmobnbaaGreatDoor
