/- Texts that the proof rests on, merged: Base, Limb, LimbOps, Words, Sh, Sh2, Dec, DecW, F, LayL, CdA, Zs, CdZ, Sh8, Sh5, Num, QT, L14, G1, R1a, L1. -/
import Derived.Maps.RangeWalk
import Derived.WalkKit
import Derived.WalkSpells
import Derived.WalkLawsBesides
import Derived.LoopN
import Derived.StillTailTactics
import Derived.Deep.QuietTactic
import Derived.BigQuiet
import Derived.Deep.Draws
import Derived.Maps.AppendAt
import Derived.Deep.OwnRows
import Derived.Shelf.Small.Wraps
import Derived.Shelf.Strings.BuilderK
import Derived.Shelf.Pu.ParseUintPublic10
import Derived.Shelf.Strconv.Itoa3
import Derived.Shelf.Strings.SlTrimAscii
import Derived.Shelf.Strings.Shaped
import Derived.Ground.NamesProg
import Derived.Ground.MpProg
import Derived.Test.YtfkpfpobmobnbaaGreatDoorProg
import Derived.Lib.ItoaNum
import Derived.Lib.Atoi
import Derived.Lib.AppendIntMem
import Derived.Test.YtfkpfpobmobnbaaGreatDoorTie
import Derived.Test.YtfkpfpobmobnbaaGreatDoorCards
import Derived.ProofKit
import Derived.OpenShut
import Derived.ShutString
import Derived.Lib.SmallJoins
import Derived.LaidMore
import Derived.Lay
import Derived.Deep.DeepHandedRow
import Derived.JoinedCond
import Derived.SevenTiedAt
import Derived.Shelf.Vars
import Derived.SliceStrings
import Derived.ChangeSlices
import Derived.DataShut
import Derived.Shelf.SlicesE.Clone
import Derived.Shelf.SlicesE.Reverse
import Derived.Shelf.Strconv.AtoiErr
import Derived.Shelf.SlGeneric
import Derived.Ground.SlgnProg
import Derived.Shelf.Strconv.Atoi
import Derived.Lib.IndexMore
import Derived.Lib.Strings
import Derived.OwnWalk
import Derived.Outline
import Derived.IntWalk
set_option linter.defProp false
set_option linter.unusedVariables false
set_option linter.unusedSimpArgs false
set_option linter.unusedSectionVars false
set_option maxRecDepth 100000
set_option maxHeartbeats 8000000
namespace Go.Proofs.YtfkpfpobmobnbaaGreatDoor
section
open Go.RowKit
theorem hid {p:Prop}(h:p):Hid p:=h
def Blk (w:World)(b:Nat)(cs:Array Value)(t:TypeId):Prop:=w.heap[b]?=some (.cells cs t (0,0))
def Cz:=@Nat.lt_or_ge
def Hk:=@Array.getElem?_eq_none
theorem Blk.lt {w:World}{b:Nat}{cs:Array Value}{t:TypeId}(h:Blk w b cs t):b<w.heap.size:=by
 unfold Blk at h;rcases Cz b w.heap.size with h' | h'
 .exact h'
 .rw[Hk h']at h;cases h
theorem Blk.cell {w:World}{b:Nat}{cs:Array Value}{t:TypeId}(h:Blk w b cs t)(i:Nat):w.cell? ⟨b,i,none⟩=cs[i]? := by
 unfold Blk at h;simp[World.cell?,h]
theorem Blk.free {w:World}{b:Nat}{cs:Array Value}{t:TypeId}(h:Blk w b cs t)(i:Nat):w.frozen? ⟨b,i,none⟩=false:=by
 unfold Blk at h;simp[World.frozen?,h]
theorem zx {P:Program}{F:FuncId}{a:Array Value}{w:World}{K:Ending->World->Prop}{r:Ending}(h:Hid (Calls P F a w fun e w'=>e=r/\w=w'))(k:K r w):Calls P F a w K:=Calls.mono h fun _ _ ⟨e,b⟩=>e▸b▸k
theorem zv {P:Program}{F:FuncId}{a:Array Value}{w:World}{K:Ending->World->Prop}{r:Ending}(h:Calls P F a w fun e w'=>e=r/\w=w')(k:K r w):Calls P F a w K:=zx h k
theorem zg {p0 p1:Prop}(h0:p0)(h1:p1):Hid p0/\Hid p1:=⟨h0,h1⟩
theorem zc {p0 p1 p2:Prop}(h0:p0)(h1:p1)(h2:p2):Hid p0/\Hid p1/\Hid p2:=⟨h0,h1,h2⟩
theorem zd {p0 p1 p2 p3:Prop}(h0:p0)(h1:p1)(h2:p2)(h3:p3):Hid p0/\Hid p1/\Hid p2/\Hid p3:=⟨h0,h1,h2,h3⟩
theorem zf {p0 p1 p2 p3 p4:Prop}(h0:p0)(h1:p1)(h2:p2)(h3:p3)(h4:p4):Hid p0/\Hid p1/\Hid p2/\Hid p3/\Hid p4:=⟨h0,h1,h2,h3,h4⟩
theorem kx {p0 p1 p2 p3 p4 p5:Prop}(h0:p0)(h1:p1)(h2:p2)(h3:p3)(h4:p4)(h5:p5):Hid p0/\Hid p1/\Hid p2/\Hid p3/\Hid p4/\Hid p5:=⟨h0,h1,h2,h3,h4,h5⟩
theorem kq {p0 p1 p2 p3 p4 p5 p6:Prop}(h0:p0)(h1:p1)(h2:p2)(h3:p3)(h4:p4)(h5:p5)(h6:p6):Hid p0/\Hid p1/\Hid p2/\Hid p3/\Hid p4/\Hid p5/\Hid p6:=⟨h0,h1,h2,h3,h4,h5,h6⟩
theorem kw {p0 p1 p2 p3 p4 p5 p6 p7:Prop}(h0:p0)(h1:p1)(h2:p2)(h3:p3)(h4:p4)(h5:p5)(h6:p6)(h7:p7):Hid p0/\Hid p1/\Hid p2/\Hid p3/\Hid p4/\Hid p5/\Hid p6/\Hid p7:=⟨h0,h1,h2,h3,h4,h5,h6,h7⟩
theorem ky {p0 p1 p2 p3 p4 p5 p6 p7 p8:Prop}(h0:p0)(h1:p1)(h2:p2)(h3:p3)(h4:p4)(h5:p5)(h6:p6)(h7:p7)(h8:p8):Hid p0/\Hid p1/\Hid p2/\Hid p3/\Hid p4/\Hid p5/\Hid p6/\Hid p7/\Hid p8:=⟨h0,h1,h2,h3,h4,h5,h6,h7,h8⟩
theorem kj {p0 p1 p2 p3 p4 p5 p6 p7 p8 p9:Prop}(h0:p0)(h1:p1)(h2:p2)(h3:p3)(h4:p4)(h5:p5)(h6:p6)(h7:p7)(h8:p8)(h9:p9):Hid p0/\Hid p1/\Hid p2/\Hid p3/\Hid p4/\Hid p5/\Hid p6/\Hid p7/\Hid p8/\Hid p9:=⟨h0,h1,h2,h3,h4,h5,h6,h7,h8,h9⟩
theorem ku {p0 p1 p2 p3 p4 p5 p6 p7 p8 p9 p10:Prop}(h0:p0)(h1:p1)(h2:p2)(h3:p3)(h4:p4)(h5:p5)(h6:p6)(h7:p7)(h8:p8)(h9:p9)(h10:p10):Hid p0/\Hid p1/\Hid p2/\Hid p3/\Hid p4/\Hid p5/\Hid p6/\Hid p7/\Hid p8/\Hid p9/\Hid p10:=⟨h0,h1,h2,h3,h4,h5,h6,h7,h8,h9,h10⟩
theorem kg {p0 p1 p2 p3 p4 p5 p6 p7 p8 p9 p10 p11:Prop}(h0:p0)(h1:p1)(h2:p2)(h3:p3)(h4:p4)(h5:p5)(h6:p6)(h7:p7)(h8:p8)(h9:p9)(h10:p10)(h11:p11):Hid p0/\Hid p1/\Hid p2/\Hid p3/\Hid p4/\Hid p5/\Hid p6/\Hid p7/\Hid p8/\Hid p9/\Hid p10/\Hid p11:=⟨h0,h1,h2,h3,h4,h5,h6,h7,h8,h9,h10,h11⟩
theorem Blk.new (w:World)(cs:Array Value)(t:TypeId):Blk (w.alloc (.cells cs t)) w.heap.size cs t:=by
 show (w.heap.push _)[w.heap.size]? = _
 simp
theorem Blk.made (w:World)(cs:Array Value)(t:TypeId){n:Nat}(h:n=w.heap.size):Blk (w.alloc (.cells cs t)) n cs t:=h ▸ Blk.new w cs t
theorem Blk.below {w w':World}{b B:Nat}{cs:Array Value}{t:TypeId}(h:Blk w b cs t)(hb:Below B w w')(hB:b<B):Blk w' b cs t:=by
 unfold Blk at *;rw[hb.block b hB];exact h
theorem Blk.call {w w':World}{b:Nat}{cs:Array Value}{t:TypeId}(h:Blk w b cs t)(hb:Below w.heap.size w w'):Blk w' b cs t:=h.below hb h.lt
def Z3:=@Nat.le_refl
theorem nr{n:Nat}:n<=n:=Z3 n
def J3:=@Go.RowKit.Below.refl
def br0{n:Nat}{w:World}:Below n w w:=J3 n w
theorem zu (w:World)(cs:Array Value)(t:TypeId):∃ B,w.alloc (.cells cs t)=B/\Hid (Below w.heap.size w B)/\Hid (Blk B w.heap.size cs t):=⟨_,rfl,br0.alloc nr _,Blk.new _ _ _⟩
theorem Blk.alloc {w:World}{b:Nat}{cs:Array Value}{t:TypeId}(h:Blk w b cs t)(o:Obj):Blk (w.alloc o) b cs t:=h.call (br0.alloc nr o)
theorem Blk.drew {w:World}{b:Nat}{cs:Array Value}{t:TypeId}(h:Blk w b cs t):Blk w.drew b cs t:=h
theorem Blk.drewN {w:World}{b:Nat}{cs:Array Value}{t:TypeId}(h:Blk w b cs t)(n:Nat):Blk (w.drewN n) b cs t:=h
def Cp:=@Array.getElem?_modify
theorem Blk.set {w:World}{b:Nat}{cs:Array Value}{t:TypeId}(h:Blk w b cs t)(i:Nat)(v:Value):Blk (w.setCell ⟨b,i,none⟩ v) b (cs.setIfInBounds i v) t:=by
 unfold Blk at *;simp[World.setCell,Cp,h]
theorem Blk.other {w:World}{b:Nat}{cs:Array Value}{t:TypeId}(h:Blk w b cs t){a:Addr}(ha:a.block≠b)(v:Value):Blk (w.setCell a v) b cs t:=by
 unfold Blk at *;simp[World.setCell,Cp,ha,h]
theorem Blk.grown {w w':World}{b:Nat}{cs:Array Value}{t:TypeId}{row:Option Nat}(h:Blk w b cs t)(hg:w.grownBy w' row)(hne:row≠some b):Blk w' b cs t:=by
 have hl:=h.lt;unfold Blk at *;rw[hg.block b hl (fun e=>hne e.symm)];exact h
def g0H {P:Program}{id:Nat}{Q:Exit->Act->World->Prop}{a:Act}{w:World}{l:List Oper}(n:Nat)(hm:P.follows .mixedOrders=true)(hB:Region.lexTailB .any l.toArray n=true)
 (h:wpStill P l.toArray w.drew (fun a'=>wpList P l.toArray Q (l.drop n) a' w.drew) (l.take n) a):(Code.region id l.toArray true).wp P Q a w:=wp_region_still_tail n hm hB h
structure Keep2 (w w':World)(b:Nat)(r:Option Nat):Prop where
 os:w'.os=w.os
 tape:w'.tape=w.tape
 output:w'.output=w.output
 size:w.heap.size<=w'.heap.size
 block:∀ k,k<w.heap.size->k≠b->some k≠r->w'.heap[k]?=w.heap[k]?
theorem Keep2.refl (w:World)(b:Nat)(r:Option Nat):Keep2 w w b r:=⟨rfl,rfl,rfl,Z3 _,fun _ _ _ _=>rfl⟩
def E0:=@Nat.le_trans
def H6:=@Nat.lt_of_lt_of_le
theorem Keep2.trans {w w1 w2:World}{b:Nat}{r r':Option Nat}(h:Keep2 w w1 b r)(k:Keep2 w1 w2 b r')(hr:∀ x,r'=some x->r=some x\/w.heap.size<=x):Keep2 w w2 b r:=
 ⟨k.os.trans h.os,k.tape.trans h.tape,k.output.trans h.output,E0 h.size k.size,fun i hi hb hne=>by
  rw[k.block i (H6 hi h.size) hb (fun e=>?_)]
  .exact h.block i hi hb hne
  .rcases hr i e.symm with e' | e'
   .exact hne e'.symm
   .omega⟩
def Ac:=@Go.RowKit.Below.heap_setCell
theorem Keep2.set {w w1:World}{b:Nat}{r:Option Nat}(h:Keep2 w w1 b r){a:Addr}(ha:a.block=b\/some a.block=r\/w.heap.size<=a.block)(v:Value):Keep2 w (w1.setCell a v) b r:=
 ⟨h.os,h.tape,h.output,by simpa[World.setCell]using h.size,fun i hi hb hne=>by
  have:i≠a.block:=fun e=>by
   rcases ha with e' | e' | e'
   .exact hb (e.trans e')
   .exact hne (by rw[e];exact e')
   .omega
  rw[Ac _ _ _ _ this];exact h.block i hi hb hne⟩
theorem Keep2.blk {w w1:World}{b:Nat}{r:Option Nat}(h:Keep2 w w1 b r){k:Nat}{cs:Array Value}{t:TypeId}(hk:Blk w k cs t)(hb:k≠b)(hr:some k≠r):Blk w1 k cs t:=by
 have hl:=hk.lt;unfold Blk at *;rw[h.block k hl hb hr];exact hk
theorem Keep2.below {w w1:World}{b:Nat}{r:Option Nat}(h:Keep2 w w1 b r){B:Nat}(hB:B<=w.heap.size)(hb:B<=b)(hr:∀ x,r=some x->B<=x):Below B w w1:=
 ⟨h.os,h.tape,h.output,h.size,fun k hk=>h.block k (by omega) (by omega) (fun e=>by have:=hr k e.symm;omega)⟩
def o0k {w w1:World}{base:Nat}{e:TypeId}{size:Nat}{v:Value}{n:Nat}{xs:List Value}(hv:w.ownsRow base e size v n xs){B:Nat}(h:Below B w w1)(hB:∀ k,v.ownBlock=some k->k<B):w1.ownsRow base e size v n xs:=by
 refine⟨hv.1,?_⟩;rcases hv.2 with hn | ⟨g,cap,cur,rfl,hbs,hgg,rest⟩
 .exact .inl hn
 .refine .inr ⟨g,cap,cur,rfl,hbs,?_,rest⟩;rw[h.block g (hB g (by simp[Value.ownBlock]))];exact hgg
def x0i {w:World}{base:Nat}{e:TypeId}{size:Nat}{v:Value}{n:Nat}{xs:List Value}(hv:w.ownsRow base e size v n xs):∀ k,v.ownBlock=some k->k<w.heap.size:=fun k hk=>(hv.lt k hk).2
def a0T {w w1:World}{base:Nat}{e:TypeId}{size:Nat}{v:Value}{n:Nat}{xs:List Value}(hv:w.ownsRow base e size v n xs)(h:Below w.heap.size w w1):w1.ownsRow base e size v n xs:=o0k hv h (x0i hv)
theorem Keep2.grown {w w1 w2:World}{b:Nat}{r row:Option Nat}(h:Keep2 w w1 b r)(hg:w1.grownBy w2 row)(hr:∀ k,row=some k->k=b\/some k=r\/w.heap.size<=k):Keep2 w w2 b r:=
 ⟨hg.os.trans h.os,hg.tape.trans h.tape,hg.output.trans h.output,E0 h.size hg.size,fun i hi hb hne=>by
  rw[hg.block i (H6 hi h.size) (fun e=>by
   rcases hr i e.symm with e' | e' | e'
   .exact hb e'
   .exact hne e'
   .omega)]
  exact h.block i hi hb hne⟩
end
section
def val:List Nat->Nat
 | []=>0
 | x::l=>x+1000000000*val l
def Sm (l:List Nat):Prop:=∀ x∈l,x<1000000000
theorem Sm.nil:Sm []:=fun _ h=>by cases h
def Az:=@List.mem_cons
theorem Sm.cons {x:Nat}{l:List Nat}(hx:x<1000000000)(h:Sm l):Sm (x::l):=fun y hy=>by
 rcases Az.1 hy with rfl | hy
 .exact hx
 .exact h y hy
def Dt:=@List.mem_cons_self
theorem Sm.head {x:Nat}{l:List Nat}(h:Sm (x::l)):x<1000000000:=h x (Dt ..)
def Cd:=@List.mem_cons_of_mem
theorem Sm.tail {x:Nat}{l:List Nat}(h:Sm (x::l)):Sm l:=fun y hy=>h y (Cd _ hy)
def Cu:=@List.mem_append
theorem Sm.append {l k:List Nat}(h:Sm l)(h':Sm k):Sm (l++k):=fun y hy=>(Cu.1 hy).elim (h y) (h' y)
def Gz:=@List.mem_of_mem_take
theorem Sm.take {l:List Nat}(h:Sm l)(i:Nat):Sm (l.take i):=fun y hy=>h y (Gz hy)
def Id:=@List.mem_of_mem_drop
theorem Sm.drop {l:List Nat}(h:Sm l)(i:Nat):Sm (l.drop i):=fun y hy=>h y (Id hy)
def E7:=@List.mem_of_getElem?
theorem Sm.get {l:List Nat}(h:Sm l){i x:Nat}(hx:l[i]?=some x):x<1000000000:=h x (E7 hx)
def J2:=@List.getD_eq_getElem?_getD
theorem Sm.getD {l:List Nat}(h:Sm l)(i:Nat):l.getD i 0<1000000000:=by
 rw[J2];cases hx:l[i]? with
 | none=>simp
 | some x=>exact h.get hx
theorem Sm.set {l:List Nat}(h:Sm l)(i:Nat){x:Nat}(hx:x<1000000000):Sm (l.set i x):=fun y hy=>by
 rcases List.mem_or_eq_of_mem_set hy with hy | rfl
 .exact h y hy
 .exact hx
theorem Sm.zeros (n:Nat):Sm (List.replicate n 0):=fun y hy=>by rw[List.eq_of_mem_replicate hy];omega
@[simp] theorem val_nil:val []=0:=rfl
def a0O (x:Nat)(l:List Nat):val (x::l)=x+1000000000*val l:=rfl
def Bk:=@List.cons_append
def J7:=@List.length_cons
def M7:=@Nat.pow_succ
def Ad:=@Nat.mul_add
def De:=@Nat.add_assoc
def E9:=@Nat.mul_comm
def G8:=@Nat.mul_assoc
def b0z (l k:List Nat):val (l++k)=val l+1000000000 ^ l.length*val k:=by
 induction l with
 | nil=>simp
 | cons x l ih=>
  rw[Bk,a0O,ih,a0O,J7,M7,Ad,De,E9 (1000000000 ^ l.length) 1000000000,G8]
def d0p {l:List Nat}(h:Sm l):val l<1000000000 ^ l.length:=by
 induction l with
 | nil=>simp
 | cons x l ih=>
  have h1:=ih h.tail;have h2:=h.head;rw[a0O,J7,M7];omega
def Gg:=@List.replicate_succ
def c0c (n:Nat):val (List.replicate n 0)=0:=by
 induction n with
 | zero=>rfl
 | succ n ih=>rw[Gg,a0O,ih]
def O4:=@List.getElem?_eq_some_iff
def Di:=@List.take_succ_eq_append_getElem
def K5:=@List.length_take_of_le
def c0l {l:List Nat}{i x:Nat}(h:l[i]?=some x):val (l.take (i+1))=val (l.take i)+1000000000 ^ i*x:=by
 have hi:i<l.length:=(O4.1 h).1;have hx:l[i]=x:=(O4.1 h).2;rw[Di hi,b0z,K5 (by omega),hx];simp[a0O]
def Gn:=@List.take_append_drop
def c0d (l:List Nat)(i:Nat)(h:i<=l.length):val l=val (l.take i)+1000000000 ^ i*val (l.drop i):=by
 have:=b0z (l.take i) (l.drop i);rw[Gn,K5 h]at this;exact this
def J9:=@List.drop_eq_getElem_cons
def c0m {l:List Nat}{i x:Nat}(h:l[i]?=some x):val (l.drop i)=x+1000000000*val (l.drop (i+1)):=by
 have hi:i<l.length:=(O4.1 h).1;have hx:l[i]=x:=(O4.1 h).2;rw[J9 hi,a0O,hx]
def Je:=@List.set_cons_succ
def k0Z {l:List Nat}{i x:Nat}(h:l[i]?=some x)(y:Nat):val (l.set i y)+1000000000 ^ i*x=val l+1000000000 ^ i*y:=by
 induction l generalizing i with
 | nil=>simp at h
 | cons z l ih=>
  cases i with
  | zero=>
   simp at h;subst h;simp[a0O];omega
  | succ i=>
   have:=ih (i:=i) (by simpa using h);rw[Je,a0O,a0O,M7,E9 (1000000000 ^ i) 1000000000,G8,G8];omega
def limbs (n:Nat):List Nat:=if h:n=0 then [] else n%1000000000::limbs (n / 1000000000)
termination_by n
decreasing_by omega
@[simp] theorem limbs_zero:limbs 0 = []:=by rw[limbs];simp
def b0w {n:Nat}(h:0<n):limbs n=n%1000000000::limbs (n / 1000000000):=by rw[limbs,dif_neg (by omega)]
def H7:=@Nat.eq_zero_or_pos
def a0y (n:Nat):val (limbs n)=n:=by
 induction n using Nat.strongRecOn with
 | _ n ih=>
  rcases H7 n with rfl | h
  .simp
  .rw[b0w h,a0O,ih _ (by omega)];omega
theorem a0p (n:Nat):Sm (limbs n):=by
 induction n using Nat.strongRecOn with
 | _ n ih=>
  rcases H7 n with rfl | h
  .rw[limbs_zero];exact Sm.nil
  .rw[b0w h];exact Sm.cons (by omega) (ih _ (by omega))
def b0O {n:Nat}:limbs n = []↔n=0:=by
 constructor
 .intro h;have:=a0y n;rw[h]at this;exact this.symm
 .rintro rfl;exact limbs_zero
def Jf:=@List.getLast?_cons_cons
def i0V {l:List Nat}(h:Sm l)(hl:∀ x,l.getLast? = some x->x≠0):limbs (val l)=l:=by
 induction l with
 | nil=>simp
 | cons x l ih=>
  have ht:limbs (val l)=l:=by
   refine ih h.tail fun y hy=>hl y ?_
   cases l with
   | nil=>cases hy
   | cons z l=>rw[Jf];exact hy
  have hx:=h.head;have hp:0<val (x::l):=by
   rw[a0O];cases l with
   | nil=>have:=hl x rfl;omega
   | cons z l=>
    have:val (z::l)≠0:=fun e=>by rw[e]at ht;simp at ht
    omega
  rw[b0w hp,a0O];rw[show (x+1000000000*val l)%1000000000=x by omega,show (x+1000000000*val l) / 1000000000=val l by omega,ht]
def d0K (n:Nat):∀ x,(limbs n).getLast? = some x->x≠0:=by
 induction n using Nat.strongRecOn with
 | _ n ih=>
  intro x hx;rcases H7 n with rfl | h
  .simp at hx
  .rw[b0w h]at hx;rcases H7 (n / 1000000000) with h0 | h0
   .rw[h0,limbs_zero]at hx;simp at hx;omega
   .rw[b0w h0,Jf,<- b0w h0]at hx;exact ih _ (by omega) x hx
def Hn:=@List.eq_replicate_iff
def Da:=@List.getElem?_of_mem
def Cm:=@List.getElem?_drop
def If:=@List.getLast?_eq_getElem?
def Bu:=@List.getElem?_take
def h0Z {l:List Nat}(h:Sm l){m:Nat}(hm:m<=l.length)(hz:∀ j x,m<=j->l[j]?=some x->x=0)(hl:∀ x,0<m->l[m-1]?=some x->x≠0):l.take m=limbs (val l):=by
 have hd:l.drop m=List.replicate (l.length-m) 0:=by
  rw[Hn];refine⟨by simp,fun x hx=>?_⟩;obtain⟨j,hj⟩:=Da hx;rw[Cm]at hj;exact hz _ x (by omega) hj
 have hv:val l=val (l.take m):=by
  have:=c0d l m hm;rw[hd,c0c]at this;omega
 rw[hv];refine (i0V (h.take m) fun x hx=>?_).symm;rw[If,K5 hm,Bu]at hx
 split at hx
 .exact hl x (by omega) hx
 .cases hx
def Ej:=@Nat.pow_pos
def Ec:=@Nat.div_lt_iff_lt_mul
def a0f {n k:Nat}:(limbs n).length<=k↔n<1000000000 ^ k:=by
 induction k generalizing n with
 | zero=>simp[b0O]
 | succ k ih=>
  rcases H7 n with rfl | h
  .simp[Ej]
  .rw[b0w h,J7,Nat.add_le_add_iff_right,ih,M7];rw[Ec (by omega)]
def b0c {n k:Nat}:k<(limbs n).length↔1000000000 ^ k<=n:=by
 have:=a0f (n:=n) (k:=k);omega
def Cn:=@Nat.lt_of_le_of_lt
def a0h {a b:Nat}(h:a<=b):(limbs a).length<=(limbs b).length:=
 a0f.2 (Cn h (a0f.1 nr))
def Le:=@Nat.lt_of_not_le
def c0E {a b:Nat}(h:(limbs a).length<(limbs b).length):a<b:=
 Le fun k=>by have:=a0h k;omega
def Af:=@Nat.mul_le_mul_left
def p0p {l k:List Nat}(hl:Sm l)(hlen:l.length=k.length){i x y:Nat}(hx:l[i]?=some x)(hy:k[i]?=some y)(hd:l.drop (i+1)=k.drop (i+1))(hxy:x<y):val l<val k:=by
 have hi:i<l.length:=(O4.1 hx).1;rw[c0d l i (by omega),c0d k i (by omega),c0m hx,c0m hy,hd];have h1:=d0p (hl.take i);rw[K5 (by omega)]at h1;have h2:x+1000000000*val (k.drop (i+1))+1<=y+1000000000*val (k.drop (i+1)):=by omega
 have h3:=Af (1000000000 ^ i) h2;rw[Ad]at h3;omega
def c0R:limbs 1 = [1]:=by rw[b0w (by omega)];simp
def Bl:=@Nat.mod_eq_of_lt
def Do:=@Nat.div_eq_of_lt
def d0d {n:Nat}(h0:0<n)(h:n<1000000000):limbs n = [n]:=by
 rw[b0w h0,Bl h,Do h,limbs_zero]
def e0J {a b:Nat}(h:limbs a=limbs b):a=b:=by rw[<- a0y a,h,a0y]
def Ig:=@List.getElem?_eq_none_iff
def Z6:=@List.take_of_length_le
def a0s (l:List Nat)(i:Nat):val (l.take (i+1))=val (l.take i)+1000000000 ^ i*l.getD i 0:=by
 rw[J2];cases h:l[i]? with
 | some x=>rw[c0l h];rfl
 | none=>
  have:l.length<=i:=Ig.1 h;rw[Z6 (by omega),Z6 this];simp
def j0V (p s:Nat):p*(s%1000000000)+p*1000000000*(s / 1000000000)=p*s:=by
 rw[G8,<- Ad,Nat.mod_add_div]
def d0B (s:List Nat)(z:Nat):val (s ++ [z])=val s+1000000000 ^ s.length*z:=by
 rw[b0z];simp[a0O]
def n0I {s a b:List Nat}{i c:Nat}(hl:s.length=i)(h:val s+1000000000 ^ i*c=val (a.take i)+val (b.take i)):
 val (s ++ [(a.getD i 0+c+b.getD i 0)%1000000000])+1000000000 ^ (i+1)*((a.getD i 0+c+b.getD i 0) / 1000000000)=val (a.take (i+1))+val (b.take (i+1)):=by
 rw[d0B,hl,a0s,a0s,M7];have:=j0V (1000000000 ^ i) (a.getD i 0+c+b.getD i 0);generalize 1000000000 ^ i=p at *
 rw[Ad,Ad]at this;omega
def a0H {l:List Nat}{i:Nat}(h:l.length<=i):val (l.take i)=val l:=by rw[Z6 h]
def s0U {s a b:List Nat}{i c z c':Nat}(hl:s.length=i)(h:val (a.take i)+1000000000 ^ i*c=val s+val (b.take i))
 (hz:a.getD i 0+1000000000*c'=z+c+b.getD i 0):val (a.take (i+1))+1000000000 ^ (i+1)*c'=val (s ++ [z])+val (b.take (i+1)):=by
 rw[d0B,hl,a0s,a0s,M7];generalize 1000000000 ^ i=p at *
 have:=congrArg (p * ·) hz;simp only[Ad]at this;rw[G8];omega
def w0q {s a b:List Nat}{c:Nat}(hs:Sm s)(hl:s.length=a.length)(hb:b.length<=a.length)(h:val (a.take a.length)+1000000000 ^ a.length*c=val s+val (b.take a.length))(hle:val b<=val a):val s=val a-val b:=by
 rw[Z6 nr,Z6 hb]at h;have h1:=d0p hs;rw[hl]at h1;rcases c with _ | c
 .omega
 .rw[Ad]at h;generalize 1000000000 ^ a.length*c=q at *
  omega
def m0Z {o:List Nat}{m old x y c:Nat}(h:o[m]?=some old):
 val (o.set m ((old+x*y+c)%1000000000))+1000000000 ^ (m+1)*((old+x*y+c) / 1000000000)=val o+1000000000 ^ m*c+1000000000 ^ m*(x*y):=by
 have h1:=k0Z h ((old+x*y+c)%1000000000);have h2:=j0V (1000000000 ^ m) (old+x*y+c);rw[M7];generalize 1000000000 ^ m=p at *
 rw[Ad,Ad]at h2;omega
def Aw:=@Nat.mul_le_mul
def d0q {old x y c:Nat}(h1:old<1000000000)(h2:x<1000000000)(h3:y<1000000000)(h4:c<1000000000):old+x*y+c<1000000000*1000000000/\x*y<=999999999*999999999:=by
 have:x*y<=999999999*999999999:=Aw (by omega) (by omega);omega
def Dd:=@Nat.pow_add
def Gb:=@Nat.mul_left_comm
def q0U {b:List Nat}{V o o' c c' i k x y:Nat}(hy:b.getD k 0=y)(h:o+1000000000 ^ (i+k)*c=V+1000000000 ^ i*x*val (b.take k))
 (hs:o'+1000000000 ^ (i+k+1)*c'=o+1000000000 ^ (i+k)*c+1000000000 ^ (i+k)*(x*y)):
 o'+1000000000 ^ (i+(k+1))*c'=V+1000000000 ^ i*x*val (b.take (k+1)):=by
 rw[a0s,hy,Ad];have e:1000000000 ^ i*x*(1000000000 ^ k*y)=1000000000 ^ (i+k)*(x*y):=by
  rw[Dd,G8,G8,Gb x]
 rw[e,<- De];omega
def Ho:=@Nat.div_add_mod
def n0R {Q A x d r:Nat}(h:A=d*Q+r):
 x+1000000000*A=d*((r*1000000000+x) / d+1000000000*Q)+(r*1000000000+x)%d:=by
 subst h;have:=Ho (r*1000000000+x) d;rw[Ad,Ad,Gb d 1000000000 Q];omega
def He:=@Nat.succ_mul
def H8:=@Nat.mul_le_mul_right
def s0Z {x d r:Nat}(hd:0<d)(hr:r<d)(hx:x<1000000000):(r*1000000000+x) / d<1000000000:=by
 rw[Ec hd];have:r*1000000000+1000000000<=d*1000000000:=by
  rw[<- He];exact H8 _ hr
 rw[E9 1000000000 d];omega
def Mc:=@Nat.mul_add_div
def p0D {A d Q r:Nat}(h:A=d*Q+r)(hr:r<d):Q=A / d/\r=A%d:=by
 have hd:0<d:=by omega
 constructor
 .rw[h,Mc hd,Do hr];rfl
 .rw[h,Nat.mul_add_mod,Bl hr]
def Fu:=@List.dropLast_concat_getLast
def Ll:=@List.mem_append_left
def l0A {s:List Nat}(h:Sm s)(hge:s ≠ []->1000000000 ^ (s.length-1)<=val s):limbs (val s)=s:=by
 refine i0V h fun x hx e=>?_
 subst e;have hne:s ≠ []:=fun e=>by subst e;cases hx
 obtain⟨t,b,rfl⟩:∃ t b,s=t ++ [b]:=⟨s.dropLast,s.getLast hne,(Fu hne).symm⟩;rw[List.getLast?_append]at hx;simp at hx;subst hx;have h1:=hge hne;have h2:=d0p (fun y hy=>h y (Ll _ hy):Sm t);rw[d0B]at h1;simp at h1;omega
def Ea:=@List.length_pos_iff
def n0c {n:Nat}(h:limbs n ≠ []):1000000000 ^ ((limbs n).length-1)<=n:=by
 have:0<(limbs n).length:=Ea.2 h;exact b0c.1 (by omega)
structure PlusI (a b:Nat)(s:List Nat)(c:Nat):Prop where
 sm:Sm s
 c1:c<=1
 eq:val s+1000000000 ^ s.length*c=val ((limbs a).take s.length)+val ((limbs b).take s.length)
 last:s.length<=(limbs a).length\/s.length<=(limbs b).length\/1000000000 ^ (s.length-1)<=val s
def J5:=@Nat.zero_le
theorem PlusI.start (a b:Nat):PlusI a b [] 0:=⟨Sm.nil,by omega,by simp,.inl (J5 _)⟩
def J4:=@List.length_append
def E8:=@List.length_singleton
def U6:=@List.getElem?_eq_none
theorem PlusI.next {a b c:Nat}{s:List Nat}(h:PlusI a b s c)(hc:s.length<(limbs a).length\/s.length<(limbs b).length\/0<c):
 PlusI a b (s ++ [((limbs a).getD s.length 0+c+(limbs b).getD s.length 0)%1000000000]) (((limbs a).getD s.length 0+c+(limbs b).getD s.length 0) / 1000000000):=by
 have h1:=(a0p a).getD s.length;have h2:=(a0p b).getD s.length;have h3:=h.c1;refine⟨h.sm.append (Sm.cons (by omega) Sm.nil),by omega,?_,?_⟩
 .have:=n0I (i:=s.length) rfl h.eq;rw[J4,E8];exact this
 .rw[J4,E8];rcases hc with hc | hc | hc
  .exact .inl (by omega)
  .exact .inr (.inl (by omega))
  .by_cases h4:s.length+1<=(limbs a).length
   .exact .inl h4
   .by_cases h5:s.length+1<=(limbs b).length
    .exact .inr (.inl h5)
    .have e1:(limbs a).getD s.length 0=0:=by rw[J2,U6 (by omega)];rfl
     have e2:(limbs b).getD s.length 0=0:=by rw[J2,U6 (by omega)];rfl
     rw[e1,e2,d0B,show (0+c+0)%1000000000=1 by omega];simp
def Eu:=@Nat.mul_zero
def Ao:=@Nat.add_zero
def Ag:=@List.eq_nil_of_length_eq_zero
theorem PlusI.done {a b c:Nat}{s:List Nat}(h:PlusI a b s c)(ha:¬ s.length<(limbs a).length)(hb:¬ s.length<(limbs b).length)(hc:c=0):s=limbs (a+b):=by
 subst hc;have he:=h.eq;rw[a0H (by omega),a0H (by omega),a0y,a0y,Eu,Ao]at he;have:=l0A h.sm fun hne=>by
  rcases h.last with h1 | h1 | h1
  .have e:s.length=(limbs a).length:=by omega
   have:=n0c (n:=a) (fun e'=>hne (Ag (by rw[e,e'];rfl)));rw[e];omega
  .have e:s.length=(limbs b).length:=by omega
   have:=n0c (n:=b) (fun e'=>hne (Ag (by rw[e,e'];rfl)));rw[e];omega
  .exact h1
 rw[<- he,this]
def b0e (a b:Nat):Int:=if a<b then -1 else if b<a then 1 else 0
def U0:=@if_pos
def b0H {a b:Nat}(h:a<b):b0e a b = -1:=by rw[b0e,U0 h]
def Q0:=@if_neg
def c0j {a b:Nat}(h:b<a):b0e a b=1:=by rw[b0e,Q0 (by omega),U0 h]
def c0K {a:Nat}:b0e a a=0:=by rw[b0e,Q0 (by omega),Q0 (by omega)]
def e0F {a b i x y:Nat}(hl:(limbs a).length=(limbs b).length)(hx:(limbs a)[i]?=some x)(hy:(limbs b)[i]?=some y)(hd:(limbs a).drop (i+1)=(limbs b).drop (i+1))(h:x<y):a<b:=by
 have:=p0p (a0p a) hl hx hy hd h;rwa[a0y,a0y]at this
def f0D {l k:List Nat}{i x:Nat}(hx:l[i]?=some x)(hy:k[i]?=some x)(hd:l.drop (i+1)=k.drop (i+1)):l.drop i=k.drop i:=by
 obtain⟨h1,h2⟩:=O4.1 hx;obtain⟨h3,h4⟩:=O4.1 hy;rw[J9 h1,J9 h3,h2,h4,hd]
structure MinusI (a b:Nat)(s:List Nat)(c:Nat):Prop where
 sm:Sm s
 c1:c<=1
 eq:val ((limbs a).take s.length)+1000000000 ^ s.length*c=val s+val ((limbs b).take s.length)
theorem MinusI.start (a b:Nat):MinusI a b [] 0:=⟨Sm.nil,by omega,by simp⟩
theorem MinusI.next {a b c z c':Nat}{s:List Nat}(h:MinusI a b s c)(hz:(limbs a).getD s.length 0+1000000000*c'=z+c+(limbs b).getD s.length 0)(h1:z<1000000000)(h2:c'<=1):MinusI a b (s ++ [z]) c':=by
 refine⟨h.sm.append (Sm.cons h1 Sm.nil),h2,?_⟩;have:=s0U (i:=s.length) rfl h.eq hz;rw[J4,E8];exact this
theorem MinusI.done {a b c:Nat}{s:List Nat}(h:MinusI a b s c)(hl:s.length=(limbs a).length)(hle:b<=a):val s=a-b:=by
 have he:=h.eq;rw[hl]at he;have:=w0q h.sm hl (a0h hle) he (by rw[a0y,a0y];exact hle);rwa[a0y,a0y]at this
structure MulI (a b:Nat)(i:Nat)(o:List Nat):Prop where
 sm:Sm o
 len:o.length=(limbs a).length+(limbs b).length
 eq:val o=val ((limbs a).take i)*b
 hi:∀ j,i+(limbs b).length<=j->o.getD j 0=0
structure MulJ (a b i x k c:Nat)(o:List Nat):Prop where
 sm:Sm o
 len:o.length=(limbs a).length+(limbs b).length
 c1:c<1000000000
 eq:val o+1000000000 ^ (i+k)*c=val ((limbs a).take i)*b+1000000000 ^ i*x*val ((limbs b).take k)
 hi:∀ j,i+(limbs b).length<=j->o.getD j 0=0
def Ah:=@List.getElem?_replicate
theorem MulI.start (a b:Nat):MulI a b 0 (List.replicate ((limbs a).length+(limbs b).length) 0):=
 ⟨Sm.zeros _,by simp,by rw[c0c];simp,fun j _=>by
  rw[J2,Ah];split<;>rfl⟩
theorem MulI.enter {a b i x:Nat}{o:List Nat}(h:MulI a b i o):MulJ a b i x 0 0 o:=⟨h.sm,h.len,by omega,by rw[h.eq];simp,h.hi⟩
def Ch:=@List.length_set
def Lm:=@List.getElem?_set_ne
theorem MulJ.next {a b i x k c old y:Nat}{o:List Nat}(h:MulJ a b i x k c o)(hx:(limbs a)[i]?=some x)(hy:(limbs b)[k]?=some y)(ho:o[i+k]?=some old):
 MulJ a b i x (k+1) ((old+x*y+c) / 1000000000) (o.set (i+k) ((old+x*y+c)%1000000000)):=by
 have hb:=d0q (h.sm.get ho) ((a0p a).get hx) ((a0p b).get hy) h.c1;refine⟨h.sm.set _ (by omega),by rw[Ch,h.len],?_,?_,fun j hj=>?_⟩
 .rw[Ec (by omega)];exact hb.1
 .have hk:k<(limbs b).length:=(O4.1 hy).1;exact q0U (b:=limbs b) (by rw[J2,hy];rfl) h.eq (m0Z ho)
 .have hk:k<(limbs b).length:=(O4.1 hy).1;have:=h.hi j hj;rw[J2]at this |-;rw[Lm (by omega)];exact this
def J0:=@List.getElem?_eq_getElem
def As:=@Nat.add_mul
theorem MulJ.leave {a b i x c:Nat}{o:List Nat}(h:MulJ a b i x (limbs b).length c o)(hx:(limbs a)[i]?=some x):MulI a b (i+1) (o.set (i+(limbs b).length) c):=by
 have hi:i<(limbs a).length:=(O4.1 hx).1;have ho:o[i+(limbs b).length]?=some 0:=by
  have h1:=h.hi (i+(limbs b).length) nr;have h2:i+(limbs b).length<o.length:=by rw[h.len];omega
  rw[J2,J0 h2]at h1;rw[J0 h2];simpa using h1
 refine⟨h.sm.set _ h.c1,by rw[Ch,h.len],?_,fun j hj=>?_⟩
 .have h1:=k0Z ho c;have h2:=h.eq;rw[a0H nr,a0y]at h2;rw[c0l hx,As];omega
 .have:=h.hi j (by omega);rw[J2]at this |-;rw[Lm (by omega)];exact this
theorem MulI.done {a b:Nat}{o:List Nat}(h:MulI a b (limbs a).length o):val o=a*b:=by
 rw[h.eq,a0H nr,a0y]
structure SmallI (a d j r:Nat)(o:List Nat):Prop where
 sm:Sm o
 len:o.length=(limbs a).length
 rd:r<d
 eq:val ((limbs a).drop j)=d*val (o.drop j)+r
def Be:=@List.drop_of_length_le
theorem SmallI.start {a d:Nat}(hd:0<d):SmallI a d (limbs a).length 0 (List.replicate (limbs a).length 0):=
 ⟨Sm.zeros _,by simp,hd,by rw[Be nr,Be (by simp)];simp⟩
def Hh:=@Nat.mod_lt
def Iq:=@List.drop_set_of_lt
theorem SmallI.next {a d j r x:Nat}{o:List Nat}(h:SmallI a d (j+1) r o)(hx:(limbs a)[j]?=some x):
 SmallI a d j ((r*1000000000+x)%d) (o.set j ((r*1000000000+x) / d)):=by
 have hd:0<d:=by have:=h.rd;omega
 have hj:j<o.length:=by rw[h.len];exact (O4.1 hx).1
 refine⟨h.sm.set _ (s0Z hd h.rd ((a0p a).get hx)),by rw[Ch,h.len],Hh _ hd,?_⟩;have h1:(o.set j ((r*1000000000+x) / d))[j]?=some ((r*1000000000+x) / d):=List.getElem?_set_self hj;rw[c0m hx,c0m h1,Iq (by omega)];exact n0R h.eq
def A9:=@List.drop_zero
theorem SmallI.done {a d r:Nat}{o:List Nat}(h:SmallI a d 0 r o):val o=a / d/\r=a%d:=by
 have he:=h.eq;rw[A9,A9,a0y]at he;exact p0D he h.rd
structure ScaleI (a d i c:Nat)(o:List Nat):Prop where
 sm:Sm o
 len:o.length=(limbs a).length+1
 c1:c<1000000000
 eq:val o+1000000000 ^ i*c=val ((limbs a).take i)*d
 hi:∀ j,i<=j->o.getD j 0=0
theorem ScaleI.start (a d:Nat):ScaleI a d 0 0 (List.replicate ((limbs a).length+1) 0):=
 ⟨Sm.zeros _,by simp,by omega,by rw[c0c];simp,fun j _=>by
  rw[J2,Ah];split<;>rfl⟩
def j0i {o:List Nat}{i j z:Nat}(h:∀ j,i<=j->o.getD j 0=0)(hj:i+1<=j):(o.set i z).getD j 0=0:=by
 have:=h j (by omega);rw[J2]at this |-;rw[Lm (by omega)];exact this
def n0h {o:List Nat}{i:Nat}(h:∀ j,i<=j->o.getD j 0=0)(hi:i<o.length):o[i]?=some 0:=by
 have h1:=h i nr;rw[J2,J0 hi]at h1;rw[J0 hi];simpa using h1
def U7:=@Nat.zero_add
theorem ScaleI.next {a d i c x:Nat}{o:List Nat}(h:ScaleI a d i c o)(hd:d<1000000000)(hx:(limbs a)[i]?=some x):
 ScaleI a d (i+1) ((x*d+c) / 1000000000) (o.set i ((x*d+c)%1000000000)):=by
 have hi:i<(limbs a).length:=(O4.1 hx).1;have ho:=n0h h.hi (by rw[h.len];omega);have hb:=d0q (old:=0) (by omega) ((a0p a).get hx) hd h.c1;refine⟨h.sm.set _ (by omega),by rw[Ch,h.len],?_,?_,fun j hj=>j0i h.hi hj⟩
 .rw[Ec (by omega)];omega
 .have h1:=m0Z (x:=x) (y:=d) (c:=c) ho;rw[U7]at h1;have h2:=h.eq;rw[c0l hx,As,G8];omega
theorem ScaleI.done {a d c:Nat}{o:List Nat}(h:ScaleI a d (limbs a).length c o):val (o.set (limbs a).length c)=a*d/\Sm (o.set (limbs a).length c)/\(o.set (limbs a).length c).length=(limbs a).length+1:=by
 have ho:=n0h h.hi (by rw[h.len];omega);have h1:=k0Z ho c;have h2:=h.eq;rw[a0H nr,a0y]at h2;exact⟨by omega,h.sm.set _ h.c1,by rw[Ch,h.len]⟩
open Go.RowKit
def a0Q {k:IntKind}{a b:Int}(h:a=b):Ending.returned (.int k a)=.returned (.int k b):=by rw[h]
def w0L {v:Value}{k:IntKind}{a b:Int}(h:a=b):Ending.returned (.tuple #[v,.int k a])=.returned (.tuple #[v,.int k b]):=by rw[h]
def m0A {a b:Bool}(h:a=b):Ending.returned (.bool a)=.returned (.bool b):=by rw[h]
def a0m {B:Nat}{a w:World}(h:Below B a w)(n:Nat):Below B a (w.drewN n):=⟨h.os,h.tape,h.output,h.size,h.block⟩
def a0a {w w1 w2:World}(h:Below w.heap.size w w1)(k:Below w1.heap.size w1 w2):Below w.heap.size w w2:=h.trans (k.mono h.size)
theorem Addr.add_lit (g o j:Nat):(⟨g,o,none⟩:Addr).add j=⟨g,o+j,none⟩:=by
 unfold Addr.add
 split
 .rename_i e;subst e;rfl
 .rfl
def Ek:=@Go.World.block_lt_of_cell?
def a0e {w:World}{a:Addr}{v:Value}(h:w.cell? a=some v):a.block<w.heap.size:=Ek w a h
structure Row (w:World)(v:Value)(xs:List Value):Prop where
 ex:∃ a c,v=.slice a xs.length c/\xs.length<=c/\c<=maxLen/\∀ i x,xs[i]?=some x->∃ g o,a=some ⟨g,o,none⟩/\g<w.heap.size/\w.cell? ⟨g,o+i,none⟩=some x
theorem Row.nil (w:World):Row w (.slice none 0 0) []:=⟨none,0,rfl,Z3 _,J5 _,fun i x h=>by simp at h⟩
theorem Row.call {w w':World}{v:Value}{xs:List Value}(h:Row w v xs)(hb:Below w.heap.size w w'):Row w' v xs:=by
 obtain⟨a,c,rfl,h1,h2,h3⟩:=h.ex;refine⟨a,c,rfl,h1,h2,fun i x hx=>?_⟩;obtain⟨g,o,e,hg,hc⟩:=h3 i x hx;exact⟨g,o,e,H6 hg hb.size,(hb.cell (p:=⟨g,o+i,none⟩) hg).trans hc⟩
theorem Row.drewN {w:World}{v:Value}{xs:List Value}(h:Row w v xs)(k:Nat):Row (w.drewN k) v xs:=⟨h.ex⟩
theorem Row.drew {w:World}{v:Value}{xs:List Value}(h:Row w v xs):Row w.drew v xs:=⟨h.ex⟩
def S4:=@Array.getElem?_eq_some_iff
theorem Row.of_owns {w:World}{base n:Nat}{e:TypeId}{v:Value}{xs:List Value}(h:w.ownsRow base e 1 v n xs):Row w v xs:=by
 have hn:n=xs.length:=by have:=h.1;omega
 subst hn;refine⟨?_⟩;have hh:=h;rcases h.2 with ⟨rfl,h0⟩ | ⟨g,cap,cur,rfl,hb,hg,h1,h2,h3,h4⟩
 .exact⟨none,0,by rw[h0],by omega,by unfold maxLen;omega,fun i x hx=>by have:=(O4.1 hx).1;omega⟩
 .refine⟨some ⟨g,0,none⟩,cap,rfl,h1,h2,fun i x hx=>⟨g,0,rfl,(S4.1 hg).1,?_⟩⟩;have:=hh.cells rfl i x hx;rwa[Addr.add_lit]at this
theorem Row.of_blk {w:World}{b n:Nat}{cs:Array Value}{t:TypeId}{xs:List Value}(h:Blk w b cs t)(hn:xs.length=n)(hm:n<=maxLen)(hx:∀ (i:Nat) (x:Value),xs[i]?=some x->cs[i]?=some x){c:Nat}(hc:n<=c)(hcm:c<=maxLen):Row w (.slice (some ⟨b,0,none⟩) n c) xs:=by
 subst hn;exact⟨_,c,rfl,hc,hcm,fun i x hi=>⟨b,0,rfl,h.lt,by rw[U7,h.cell];exact hx i x hi⟩⟩
theorem Row.cut {w:World}{a:Option Addr}{n c m:Nat}{xs:List Value}(h:Row w (.slice a n c) xs)(hm:m<=n):Row w (.slice a m c) (xs.take m):=by
 obtain⟨a',c',e,h1,h2,h3⟩:=h.ex;simp at e;obtain⟨rfl,rfl,rfl⟩:=e;refine⟨a,c,by rw[K5 hm],by rw[K5 hm];omega,h2,fun i x hx=>?_⟩;rw[Bu]at hx
 split at hx
 .exact h3 i x hx
 .cases hx
theorem Row.len {w:World}{a:Option Addr}{n c:Nat}{xs:List Value}(h:Row w (.slice a n c) xs):n=xs.length/\n<=c/\c<=maxLen:=by
 obtain⟨a',c',e,h1,h2,h3⟩:=h.ex;simp at e;obtain⟨rfl,rfl,rfl⟩:=e;exact⟨rfl,h1,h2⟩
theorem Row.at {w:World}{a:Option Addr}{n c:Nat}{xs:List Value}(h:Row w (.slice a n c) xs){i:Nat}{x:Value}(hx:xs[i]?=some x):∃ g o,a=some ⟨g,o,none⟩/\g<w.heap.size/\w.cell? ⟨g,o+i,none⟩=some x:=by
 obtain⟨a',c',e,h1,h2,h3⟩:=h.ex;simp at e;obtain⟨rfl,rfl,rfl⟩:=e;exact h3 i x hx
def b0q (k:IntKind)(l:List Nat):List Value:=l.map fun (x:Nat)=>Value.int k (x:Int)
@[simp] theorem ints_length (k:IntKind) (l:List Nat):(b0q k l).length=l.length:=by simp[b0q]
def d0M {k:IntKind}{l:List Nat}{i x:Nat}(h:l[i]?=some x):(b0q k l)[i]?=some (.int k (x:Int)):=by simp[b0q,h]
def d0t (k:IntKind)(l:List Nat)(m:Nat):(b0q k l).take m=b0q k (l.take m):=by simp[b0q,List.map_take]
def e0i (k:IntKind)(l m:List Nat):b0q k (l++m)=b0q k l++b0q k m:=by simp[b0q]
def e0M (k:IntKind)(l:List Nat)(i x:Nat):(b0q k l).set i (.int k (x:Int))=b0q k (l.set i x):=by simp[b0q,List.map_set]
theorem Row.openI {k:IntKind}{w:World}{v:Value}{l:List Nat}(h:Row w v (b0q k l)):∃ a c,v=.slice a l.length c/\l.length<=c/\c<=9223372036854775807/\∀ (i x:Nat),l[i]?=some x->∃ g o,a=some ⟨g,o,none⟩/\g<w.heap.size/\w.cell? ⟨g,o+i,none⟩=some (.int k (x:Int)):=by
 obtain⟨a,c,rfl,h1,h2,h3⟩:=h.ex;rw[ints_length]at *;exact⟨a,c,rfl,h1,by unfold maxLen at h2;omega,fun i x hx=>h3 i _ (d0M hx)⟩
def IsN (k:IntKind)(w:World)(v:Value)(n:Nat):Prop:=Row w v (b0q k (limbs n))
theorem IsN.call {k:IntKind}{w w':World}{v:Value}{n:Nat}(h:IsN k w v n)(hb:Below w.heap.size w w'):IsN k w' v n:=Row.call h hb
theorem IsN.openI {k:IntKind}{w:World}{v:Value}{n:Nat}(h:IsN k w v n):∃ a c,v=.slice a (limbs n).length c/\(limbs n).length<=c/\c<=9223372036854775807/\∀ (i x:Nat),(limbs n)[i]?=some x->∃ g o,a=some ⟨g,o,none⟩/\g<w.heap.size/\w.cell? ⟨g,o+i,none⟩=some (.int k (x:Int)):=Row.openI h
theorem IsN.zero (k:IntKind)(w:World):IsN k w (.slice none 0 0) 0:=by
 unfold IsN;rw[limbs_zero];exact Row.nil w
def e0D {k:IntKind}{w wr w3:World}{t:TypeId}{v v3:Value}{s:List Nat}{z:Nat}{o:Obj}(hO:wr.ownsRow w.heap.size t 1 v s.length (b0q k s))(hB:Below w.heap.size w wr)
 (h3:w3.ownsRow w.heap.size t 1 v3 (s.length+1) (b0q k s ++ [.int k (z:Int)])) (hg:(wr.alloc o).grownBy w3 v.ownBlock):
 w3.ownsRow w.heap.size t 1 v3 (s ++ [z]).length (b0q k (s ++ [z]))/\Below w.heap.size w w3:=by
 refine⟨by rw[e0i,J4];exact h3,?_⟩;have h1:Below w.heap.size w (wr.alloc o):=hB.alloc hB.size o;refine h1.trans ⟨hg.os,hg.tape,hg.output,hg.size,fun i hi=>hg.block i (by have:=h1.size;omega) (fun e=>?_)⟩;have:=(hO.lt i e.symm).1;omega
def e0C {k:IntKind}{w wr w3:World}{t:TypeId}{v v3:Value}{s:List Nat}{z:Nat}{zi:Int}{o:Obj}(hO:wr.ownsRow w.heap.size t 1 v s.length (b0q k s))(hB:Below w.heap.size w wr)
 (h3:w3.ownsRow w.heap.size t 1 v3 (s.length+1) (b0q k s ++ [.int k zi])) (hg:(wr.alloc o).grownBy w3 v.ownBlock) (hz:zi=(z:Int)):
 w3.ownsRow w.heap.size t 1 v3 (s ++ [z]).length (b0q k (s ++ [z]))/\Below w.heap.size w w3:=by
 subst hz;exact e0D hO hB h3 hg
def g0c {k:IntKind}{w:World}{base:Nat}{t:TypeId}{v:Value}{s:List Nat}{n:Nat}(h:w.ownsRow base t 1 v s.length (b0q k s))(hs:s=limbs n):IsN k w v n:=by
 subst hs;exact Row.of_owns h
def a0K {l:List Nat}{i x:Nat}(h:l[i]?=some x):l.getD i 0=x:=by rw[J2,h];rfl
def b0f {l:List Nat}{i:Nat}(h:l.length<=i):l.getD i 0=0:=by rw[J2,U6 h];rfl
def b0k {w:World}{base:Nat}{e:TypeId}{size:Nat}{v:Value}{n:Nat}{xs:List Value}(h:w.ownsRow base e size v n xs):∃ a c,v=.slice a n c:=by
 rcases h.2 with ⟨rfl,rfl⟩ | ⟨g,cap,cur,rfl,_⟩
 .exact⟨_,_,rfl⟩
 .exact⟨_,_,rfl⟩
def Arr (k:IntKind)(t:TypeId)(w:World)(g:Nat)(l:List Nat):Prop:=Blk w g (b0q k l).toArray t
def K6:=@List.getElem?_toArray
theorem Arr.cell {k:IntKind}{t:TypeId}{w:World}{g:Nat}{l:List Nat}(h:Arr k t w g l){i x:Nat}(hx:l[i]?=some x):w.cell? ⟨g,i,none⟩=some (.int k (x:Int)):=by
 rw[Blk.cell h,K6];exact d0M hx
theorem Arr.free {k:IntKind}{t:TypeId}{w:World}{g:Nat}{l:List Nat}(h:Arr k t w g l)(i:Nat):w.frozen? ⟨g,i,none⟩=false:=Blk.free h i
theorem Arr.lt {k:IntKind}{t:TypeId}{w:World}{g:Nat}{l:List Nat}(h:Arr k t w g l):g<w.heap.size:=Blk.lt h
theorem Arr.set {k:IntKind}{t:TypeId}{w:World}{g:Nat}{l:List Nat}(h:Arr k t w g l)(i x:Nat):Arr k t (w.setCell ⟨g,i,none⟩ (.int k (x:Int))) g (l.set i x):=by
 have:=Blk.set h i (.int k (x:Int));unfold Arr;rw[<- e0M];simpa using this
theorem Arr.call {k:IntKind}{t:TypeId}{w w':World}{g:Nat}{l:List Nat}(h:Arr k t w g l)(hb:Below w.heap.size w w'):Arr k t w' g l:=Blk.call h hb
theorem Arr.drewN {k:IntKind}{t:TypeId}{w:World}{g:Nat}{l:List Nat}(h:Arr k t w g l)(n:Nat):Arr k t (w.drewN n) g l:=h
theorem Arr.row {k:IntKind}{t:TypeId}{w:World}{g:Nat}{l:List Nat}(h:Arr k t w g l){n c:Nat}(hn:n<=l.length)(hc:n<=c)(hm:c<=maxLen):Row w (.slice (some ⟨g,0,none⟩) n c) (b0q k (l.take n)):=by
 refine Row.of_blk h (by rw[ints_length,K5 hn]) (by omega) (fun i x hx=>?_) hc hm;rw[<- d0t,Bu]at hx
 split at hx
 .rw[K6];exact hx
 .cases hx
def Fk:=@Array.ext_getElem?
def Nn:=@Nat.mod_one
def o0v (k:IntKind)(n:Nat):madeCells #[.int k 0] n=(b0q k (List.replicate n 0)).toArray:=by
 apply Fk
 intro i;unfold madeCells b0q;by_cases hi:i<n<;>simp[hi,Nn]
theorem Arr.made (w:World)(k:IntKind)(t:TypeId)(n:Nat):Arr k t (w.alloc (.cells (madeCells #[.int k 0] n) t)) w.heap.size (List.replicate n 0):=by
 rw[o0v];exact Blk.new w _ t
def a0W {B:Nat}{a w:World}(h:Below B a w){g i:Nat}(hg:B<=g)(v:Value):Below B a (w.setCell ⟨g,i,none⟩ v):=h.setCell hg v
def ArrN (k:IntKind)(t:TypeId)(w:World)(g:Nat)(l:List Nat)(m:Nat)(x:Int):Prop:=Blk w g ((b0q k l).toArray.setIfInBounds m (.int k x)) t
theorem Arr.setN {k:IntKind}{t:TypeId}{w:World}{g:Nat}{l:List Nat}(h:Arr k t w g l)(m:Nat)(x:Int):ArrN k t (w.setCell ⟨g,m,none⟩ (.int k x)) g l m x:=Blk.set h m _
theorem ArrN.drewN {k:IntKind}{t:TypeId}{w:World}{g m:Nat}{x:Int}{l:List Nat}(h:ArrN k t w g l m x)(n:Nat):ArrN k t (w.drewN n) g l m x:=h
theorem ArrN.free {k:IntKind}{t:TypeId}{w:World}{g m:Nat}{x:Int}{l:List Nat}(h:ArrN k t w g l m x)(i:Nat):w.frozen? ⟨g,i,none⟩=false:=Blk.free h i
theorem ArrN.cell {k:IntKind}{t:TypeId}{w:World}{g m:Nat}{x:Int}{l:List Nat}(h:ArrN k t w g l m x){i y:Nat}(hi:i≠m)(hy:l[i]?=some y):w.cell? ⟨g,i,none⟩=some (.int k (y:Int)):=by
 rw[Blk.cell h,Array.getElem?_setIfInBounds_ne (fun e=>hi e.symm),K6];exact d0M hy
theorem ArrN.self {k:IntKind}{t:TypeId}{w:World}{g m:Nat}{x:Int}{l:List Nat}(h:ArrN k t w g l m x)(hm:m<l.length):w.cell? ⟨g,m,none⟩=some (.int k x):=by
 rw[Blk.cell h,Array.getElem?_setIfInBounds_self_of_lt (by simpa using hm)]
theorem ArrN.set {k:IntKind}{t:TypeId}{w:World}{g m:Nat}{x:Int}{l:List Nat}(h:ArrN k t w g l m x){i:Nat}(hi:i≠m)(z:Nat):ArrN k t (w.setCell ⟨g,i,none⟩ (.int k (z:Int))) g (l.set i z) m x:=by
 have:=Blk.set h i (.int k (z:Int));unfold ArrN;rw[<- e0M,show ((b0q k l).set i (.int k (z:Int))).toArray=(b0q k l).toArray.setIfInBounds i (.int k (z:Int)) by simp,Array.setIfInBounds_comm _ _ hi];exact this
theorem ArrN.back {k:IntKind}{t:TypeId}{w:World}{g m:Nat}{x:Int}{l:List Nat}(h:ArrN k t w g l m x)(z:Nat):Arr k t (w.setCell ⟨g,m,none⟩ (.int k (z:Int))) g (l.set m z):=by
 have:=Blk.set h m (.int k (z:Int));unfold Arr;rw[<- e0M];simpa using this
def e0O {a w:World}{r:Option Nat}(h:a.grownBy w r)(n:Nat):a.grownBy (w.drewN n) r:=⟨h.os,h.tape,h.output,h.size,h.block⟩
def d0m {a w:World}{g:Nat}(h:a.grownBy w (some g))(i:Nat)(v:Value):a.grownBy (w.setCell ⟨g,i,none⟩ v) (some g):=
 ⟨h.os,h.tape,h.output,by simpa[World.setCell]using h.size,fun j hj hne=>(Ac w _ v j (fun e=>hne (by rw[e]))).trans (h.block j hj hne)⟩
def Ln:=@Go.World.cell?_of_block
def d0f {a w:World}{g:Nat}(h:a.grownBy w (some g)){p:Addr}{x:Value}(hc:a.cell? p=some x)(hne:p.block≠g):w.cell? p=some x:=
 (Ln (h.block p.block (a0e hc) (fun e=>hne (by injection e)))).trans hc
theorem Row.gb {w w':World}{gv o n c g:Nat}{xs:List Value}(h:Row w (.slice (some ⟨gv,o,none⟩) n c) xs)(hg:w.grownBy w' (some g))(hne:gv≠g):Row w' (.slice (some ⟨gv,o,none⟩) n c) xs:=by
 have hl:=h.len;obtain⟨rfl,h1,h2⟩:=hl;refine⟨_,c,rfl,h1,h2,fun i x hx=>?_⟩;obtain⟨g',o',e,hg',hc⟩:=h.at hx;simp at e;obtain⟨rfl,rfl⟩:=e;exact⟨gv,o,rfl,H6 hg' hg.size,d0f hg hc hne⟩
theorem Arr.gb {k:IntKind}{t:TypeId}{w w':World}{g g':Nat}{l:List Nat}(h:Arr k t w g l)(hg:w.grownBy w' (some g'))(hne:g≠g'):Arr k t w' g l:=Blk.grown h hg (fun e=>hne (by injection e with e;exact e.symm))
def u0Y {B:Nat}{a w w':World}{g:Nat}(h:Below B a w)(hB:B<=w.heap.size)(hg:w.grownBy w' (some g))(hge:B<=g):Below B a w':=
 h.trans ⟨hg.os,hg.tape,hg.output,hg.size,fun i hi=>hg.block i (by omega) (fun e=>by injection e;omega)⟩
theorem IsN.inj {k:IntKind}{w:World}{v:Value}{m n:Nat}(h:IsN k w v m)(h':IsN k w v n):m=n:=by
 obtain⟨a,c,rfl,h1,h2,h3⟩:=h.openI;obtain⟨a',c',e,k1,k2,k3⟩:=h'.openI;simp at e;obtain⟨rfl,hl,rfl⟩:=e;refine e0J (List.ext_getElem hl fun i hi hi'=>?_);obtain⟨g,o,rfl,hg,hc⟩:=h3 i _ (J0 hi);obtain⟨g',o',e,hg',hc'⟩:=k3 i _ (J0 hi');simp at e;obtain⟨rfl,rfl⟩:=e;rw[hc]at hc';simp at hc';omega
noncomputable def t0Q (k:IntKind)(w:World)(v:Value):Nat:=open Classical in if h:∃ n,IsN k w v n then Classical.choose h else 0
def g0e {k:IntKind}{w:World}{v:Value}{n:Nat}(h:IsN k w v n):t0Q k w v=n:=by
 have hx:∃ n,IsN k w v n:=⟨n,h⟩;unfold t0Q;rw[dif_pos hx];exact (Classical.choose_spec hx).inj h
end
end Go.Proofs.YtfkpfpobmobnbaaGreatDoor
namespace Go.Proofs
open Go.Shelf
def Tryz.lays160_ren:Go.Shelf.Ren:=⟨fun | 160=>204 | 232=>265 | 231=>264 | 227=>266 | 234=>268 | 233=>267 | 236=>270 | 235=>269 | 228=>316 | 271=>319 | 151=>318 | 197=>317 | 120=>341 | 152=>340 | 260=>339 | 137=>355 | 119=>356 | 224=>352 | 225=>351 | 217=>350 | 266=>361 | n=>n,fun | 9=>9 | 4=>4 | 3=>3 | 5=>5 | 117=>254 | 116=>253 | 0=>0 | 124=>257 | 21=>21 | 105=>308 | 46=>174 | 119=>339 | 139=>342 | 138=>341 | n=>n,fun | 3=>4 | 4=>5 | n=>n⟩
def Dz:=@Go.Proofs.Tryz.underlying0
def Hf:=@Go.Proofs.Tryz.isAgg0
def Gp:=@Go.Proofs.Tryz.sizeOf0
def El:=@Go.Proofs.Tryz.zeroValue0
def U8:=@Go.Proofs.Tryz.underlying3
def Ex:=@Go.Proofs.Tryz.isAgg3
def Ed:=@Go.Proofs.Tryz.sizeOf3
def Ci:=@Go.Proofs.Tryz.zeroValue3
def Bm:=@Go.Proofs.Tryz.underlying4
def Fo:=@Go.Proofs.Tryz.isAgg4
def Ev:=@Go.Proofs.Tryz.sizeOf4
def Cv:=@Go.Proofs.Tryz.zeroValue4
def Bn:=@Go.Proofs.Tryz.underlying5
def Gh:=@Go.Proofs.Tryz.isAgg5
def Fe:=@Go.Proofs.Tryz.sizeOf5
def Dj:=@Go.Proofs.Tryz.zeroValue5
def Aq:=@Go.Proofs.Tryz.underlying9
def Ey:=@Go.Proofs.Tryz.isAgg9
def Ee:=@Go.Proofs.Tryz.sizeOf9
def Cj:=@Go.Proofs.Tryz.zeroValue9
def Kb:=@Go.Proofs.Tryz.underlying21
def Lf:=@Go.Proofs.Tryz.zeroValue21
def Df:=@Go.Proofs.Tryz.underlying174
def Fv:=@Go.Proofs.Tryz.isAgg174
def Fa:=@Go.Proofs.Tryz.sizeOf174
def Dq:=@Go.Proofs.Tryz.zeroValue174
theorem Tryz.lays160:Go.Proofs.Lays.n160 Tryz.prog Tryz.lays160_ren:={
 mixed:=by kernel_rfl
 f119:=Tryz.func356.trans (congrArg some (by kernel_rfl))
 f120:=Tryz.func341.trans (congrArg some (by kernel_rfl))
 f137:=Tryz.func355.trans (congrArg some (by kernel_rfl))
 f151:=Tryz.func318.trans (congrArg some (by kernel_rfl))
 f152:=Tryz.func340.trans (congrArg some (by kernel_rfl))
 f160:=Tryz.func204.trans (congrArg some (by kernel_rfl))
 f197:=Tryz.func317.trans (congrArg some (by kernel_rfl))
 f217:=Tryz.func350.trans (congrArg some (by kernel_rfl))
 f224:=Tryz.func352.trans (congrArg some (by kernel_rfl))
 f225:=Tryz.func351.trans (congrArg some (by kernel_rfl))
 f227:=Tryz.func266.trans (congrArg some (by kernel_rfl))
 f228:=Tryz.func316.trans (congrArg some (by kernel_rfl))
 f231:=Tryz.func264.trans (congrArg some (by kernel_rfl))
 f232:=Tryz.func265.trans (congrArg some (by kernel_rfl))
 f233:=Tryz.func267.trans (congrArg some (by kernel_rfl))
 f234:=Tryz.func268.trans (congrArg some (by kernel_rfl))
 f235:=Tryz.func269.trans (congrArg some (by kernel_rfl))
 f236:=Tryz.func270.trans (congrArg some (by kernel_rfl))
 f260:=Tryz.func339.trans (congrArg some (by kernel_rfl))
 f266:=Tryz.func361.trans (congrArg some (by kernel_rfl))
 f271:=Tryz.func319.trans (congrArg some (by kernel_rfl))
 t0:=Dz
 a0:=Hf
 z0:=Gp
 v0:=El
 t3:=U8
 a3:=Ex
 z3:=Ed
 v3:=Ci
 t4:=Bm
 a4:=Fo
 z4:=Ev
 v4:=Cv
 t5:=Bn
 a5:=Gh
 z5:=Fe
 v5:=Dj
 t9:=Aq
 a9:=Ey
 z9:=Ee
 v9:=Cj
 t21:=Kb
 a21:=Tryz.isAgg21
 z21:=Tryz.sizeOf21
 v21:=Lf
 t46:=Df
 a46:=Fv
 z46:=Fa
 v46:=Dq
 t105:=Tryz.underlying308
 a105:=Tryz.isAgg308
 z105:=Tryz.sizeOf308
 v105:=Tryz.zeroValue308
 t116:=Tryz.underlying253
 a116:=Tryz.isAgg253
 z116:=Tryz.sizeOf253
 t117:=Tryz.underlying254
 a117:=Tryz.isAgg254
 z117:=Tryz.sizeOf254
 v117:=Tryz.zeroValue254
 t119:=Tryz.underlying339
 a119:=Tryz.isAgg339
 z119:=Tryz.sizeOf339
 t124:=Tryz.underlying257
 a124:=Tryz.isAgg257
 z124:=Tryz.sizeOf257
 v124:=Tryz.zeroValue257
 t138:=Tryz.underlying341
 a138:=Tryz.isAgg341
 z138:=Tryz.sizeOf341
 v138:=Tryz.zeroValue341
 t139:=Tryz.underlying342
 a139:=Tryz.isAgg342
 z139:=Tryz.sizeOf342
 v139:=Tryz.zeroValue342
 g3:=by kernel_rfl
 g4:=by kernel_rfl }
open Go.RowKit in
theorem Tryz.strings_Trim (s cutset:ByteArray)(w:World)(hs:s.size<=9223372036854775807)(hcs:cutset.size<4294967281)(hascii:∀ (j:Nat) b,cutset.data.toList[j]?=some b->b.toNat<128):
 Calls Tryz.prog 204 #[.string s,.string cutset] w fun e w'=>e=.returned (.string ⟨(Lib.trimS s.data.toList cutset.data.toList).toArray⟩)/\Below w.heap.size w w':=Any.strings_Trim_laid Tryz.lays160 (by kernel_rfl) s cutset w hs hcs hascii
def Tryz.laysPu14_ren:Go.Shelf.Ren:=⟨fun | 14=>309 | 16=>328 | 17=>228 | 19=>346 | 20=>347 | 21=>291 | 22=>292 | 23=>293 | 24=>294 | 25=>329 | 27=>64 | 26=>330 | 28=>166 | 29=>230 | 30=>295 | 31=>296 | 32=>297 | 33=>298 | 35=>240 | 34=>331 | 36=>332 | 37=>333 | 38=>334 | 39=>348 | 40=>349 | n=>n,fun | 9=>9 | 3=>3 | 22=>161 | 24=>169 | 25=>299 | 4=>4 | 34=>278 | 5=>5 | 36=>174 | 37=>210 | 0=>0 | 39=>281 | 21=>21 | 44=>315 | 47=>306 | 50=>336 | 48=>334 | 2=>2 | 52=>284 | 55=>286 | 59=>319 | 60=>224 | 20=>20 | 61=>320 | 65=>344 | 66=>345 | 67=>192 | n=>n,fun | 0=>0 | 1=>1 | 2=>2 | 3=>6 | 4=>7 | n=>n⟩
def Mr:=@Go.Proofs.Tryz.func295
def Ms:=@Go.Proofs.Tryz.func296
def Mt:=@Go.Proofs.Tryz.func297
def Mu:=@Go.Proofs.Tryz.func331
def Iy:=@Go.Proofs.Tryz.func240
def Mv:=@Go.Proofs.Tryz.func332
def Lg:=@Go.Proofs.Tryz.underlying2
def Md:=@Go.Proofs.Tryz.zeroValue2
def Hu:=@Go.Proofs.Tryz.underlying20
def Mw:=@Go.Proofs.Tryz.isAgg20
def Lp:=@Go.Proofs.Tryz.sizeOf20
def Im:=@Go.Proofs.Tryz.zeroValue20
def Dg:=@Go.Proofs.Tryz.underlying161
def Gq:=@Go.Proofs.Tryz.isAgg161
def Fy:=@Go.Proofs.Tryz.sizeOf161
def Ef:=@Go.Proofs.Tryz.zeroValue161
def Hl:=@Go.Proofs.Tryz.underlying169
def Kc:=@Go.Proofs.Tryz.zeroValue169
def Dh:=@Go.Proofs.Tryz.underlying210
def Hv:=@Go.Proofs.Tryz.isAgg210
def Hi:=@Go.Proofs.Tryz.sizeOf210
def Gc:=@Go.Proofs.Tryz.zeroValue210
def Jg:=@Go.Proofs.Tryz.underlying306
def Kd:=@Go.Proofs.Tryz.zeroValue306
def Gr:=@Go.Proofs.Tryz.underlying284
def Ke:=@Go.Proofs.Tryz.zeroValue284
def Jh:=@Go.Proofs.Tryz.underlying286
def Kf:=@Go.Proofs.Tryz.zeroValue286
def Gs:=@Go.Proofs.Tryz.underlying319
def Lq:=@Go.Proofs.Tryz.isAgg319
def Kq:=@Go.Proofs.Tryz.sizeOf319
def Hw:=@Go.Proofs.Tryz.zeroValue319
def Du:=@Go.Proofs.Tryz.underlying224
def Gt:=@Go.Proofs.Tryz.isAgg224
def Fz:=@Go.Proofs.Tryz.sizeOf224
def Eg:=@Go.Proofs.Tryz.zeroValue224
def Ji:=@Go.Proofs.Tryz.underlying320
def Jj:=@Go.Proofs.Tryz.underlying344
def Kg:=@Go.Proofs.Tryz.zeroValue344
def Jk:=@Go.Proofs.Tryz.underlying345
def Kh:=@Go.Proofs.Tryz.zeroValue345
theorem Tryz.laysPu14:Go.Proofs.LaysPu.n14 Tryz.prog Tryz.laysPu14_ren:={
 mixed:=by kernel_rfl
 f14:=Tryz.func309.trans (congrArg some (by kernel_rfl))
 f16:=Tryz.func328.trans (congrArg some (by kernel_rfl))
 f17:=Tryz.func228.trans (congrArg some (by kernel_rfl))
 f19:=Tryz.func346.trans (congrArg some (by kernel_rfl))
 f20:=Tryz.func347.trans (congrArg some (by kernel_rfl))
 f21:=Tryz.func291.trans (congrArg some (by kernel_rfl))
 f22:=Tryz.func292.trans (congrArg some (by kernel_rfl))
 f23:=Tryz.func293.trans (congrArg some (by kernel_rfl))
 f24:=Tryz.func294.trans (congrArg some (by kernel_rfl))
 f25:=Tryz.func329.trans (congrArg some (by kernel_rfl))
 f26:=Tryz.func330.trans (congrArg some (by kernel_rfl))
 f27:=Tryz.func64.trans (congrArg some (by kernel_rfl))
 f28:=Tryz.func166.trans (congrArg some (by kernel_rfl))
 f29:=Tryz.func230.trans (congrArg some (by kernel_rfl))
 f30:=Mr.trans (congrArg some (by kernel_rfl))
 f31:=Ms.trans (congrArg some (by kernel_rfl))
 f32:=Mt.trans (congrArg some (by kernel_rfl))
 f33:=Tryz.func298.trans (congrArg some (by kernel_rfl))
 f34:=Mu.trans (congrArg some (by kernel_rfl))
 f35:=Iy.trans (congrArg some (by kernel_rfl))
 f36:=Mv.trans (congrArg some (by kernel_rfl))
 f37:=Tryz.func333.trans (congrArg some (by kernel_rfl))
 f38:=Tryz.func334.trans (congrArg some (by kernel_rfl))
 f39:=Tryz.func348.trans (congrArg some (by kernel_rfl))
 f40:=Tryz.func349.trans (congrArg some (by kernel_rfl))
 t0:=Dz
 a0:=Hf
 z0:=Gp
 v0:=El
 i0:=by kernel_rfl
 t2:=Lg
 a2:=Tryz.isAgg2
 z2:=Tryz.sizeOf2
 v2:=Md
 i2:=by kernel_rfl
 t3:=U8
 a3:=Ex
 z3:=Ed
 v3:=Ci
 i3:=by kernel_rfl
 t4:=Bm
 a4:=Fo
 z4:=Ev
 v4:=Cv
 i4:=by kernel_rfl
 t5:=Bn
 a5:=Gh
 z5:=Fe
 v5:=Dj
 i5:=by kernel_rfl
 t9:=Aq
 a9:=Ey
 z9:=Ee
 v9:=Cj
 i9:=by kernel_rfl
 t20:=Hu
 a20:=Mw
 z20:=Lp
 v20:=Im
 i20:=by kernel_rfl
 t21:=Kb
 a21:=Tryz.isAgg21
 z21:=Tryz.sizeOf21
 v21:=Lf
 i21:=by kernel_rfl
 t22:=Dg
 a22:=Gq
 z22:=Fy
 v22:=Ef
 i22:=by kernel_rfl
 t24:=Hl
 a24:=Tryz.isAgg169
 z24:=Tryz.sizeOf169
 v24:=Kc
 i24:=by kernel_rfl
 t25:=Tryz.underlying299
 a25:=Tryz.isAgg299
 z25:=Tryz.sizeOf299
 v25:=Tryz.zeroValue299
 i25:=by kernel_rfl
 t34:=Tryz.underlying278
 a34:=Tryz.isAgg278
 z34:=Tryz.sizeOf278
 v34:=Tryz.zeroValue278
 i34:=by kernel_rfl
 c34:=by kernel_rfl
 t36:=Df
 a36:=Fv
 z36:=Fa
 v36:=Dq
 i36:=by kernel_rfl
 t37:=Dh
 a37:=Hv
 z37:=Hi
 v37:=Gc
 i37:=by kernel_rfl
 t39:=Tryz.underlying281
 a39:=Tryz.isAgg281
 z39:=Tryz.sizeOf281
 v39:=Tryz.zeroValue281
 i39:=by kernel_rfl
 t44:=Tryz.underlying315
 a44:=Tryz.isAgg315
 z44:=Tryz.sizeOf315
 v44:=Tryz.zeroValue315
 i44:=by kernel_rfl
 t47:=Jg
 a47:=Tryz.isAgg306
 z47:=Tryz.sizeOf306
 v47:=Kd
 i47:=by kernel_rfl
 t48:=Tryz.underlying334
 a48:=Tryz.isAgg334
 z48:=Tryz.sizeOf334
 v48:=Tryz.zeroValue334
 i48:=by kernel_rfl
 t50:=Tryz.underlying336
 a50:=Tryz.isAgg336
 z50:=Tryz.sizeOf336
 v50:=Tryz.zeroValue336
 i50:=by kernel_rfl
 t52:=Gr
 a52:=Tryz.isAgg284
 z52:=Tryz.sizeOf284
 v52:=Ke
 i52:=by kernel_rfl
 t55:=Jh
 a55:=Tryz.isAgg286
 z55:=Tryz.sizeOf286
 v55:=Kf
 i55:=by kernel_rfl
 t59:=Gs
 a59:=Lq
 z59:=Kq
 v59:=Hw
 i59:=by kernel_rfl
 t60:=Du
 a60:=Gt
 z60:=Fz
 v60:=Eg
 i60:=by kernel_rfl
 t61:=Ji
 a61:=Tryz.isAgg320
 z61:=Tryz.sizeOf320
 t65:=Jj
 a65:=Tryz.isAgg344
 z65:=Tryz.sizeOf344
 v65:=Kg
 i65:=by kernel_rfl
 t66:=Jk
 a66:=Tryz.isAgg345
 z66:=Tryz.sizeOf345
 v66:=Kh
 i66:=by kernel_rfl
 t67:=Tryz.underlying192
 a67:=Tryz.isAgg192
 z67:=Tryz.sizeOf192
 v67:=Tryz.zeroValue192
 i67:=by kernel_rfl
 g0:=by kernel_rfl
 m0:=by kernel_rfl
 g1:=by kernel_rfl
 m1:=by kernel_rfl
 g2:=by kernel_rfl
 m2:=by kernel_rfl
 g3:=by kernel_rfl
 m3:=by kernel_rfl
 g4:=by kernel_rfl
 m4:=by kernel_rfl }
theorem Tryz.strconv_ParseUint (s:ByteArray)(hmax:s.size<=9223372036854775806)(u:Nat)(h:Lib.parseUintB 64 s.data.toList=.ok u)(w:World):
 Calls Tryz.prog 309 #[.string s,.int .i64 10,.int .i64 64] w fun e w'=>e=.returned (.tuple #[.int .u64 u,.nilIface])/\(w'=w\/w'=Lib.bytesWorld w 5 s):=Any.strconv_ParseUint_10_at64_ok Tryz.laysPu14 s hmax u h w
def Tryz.lays169_ren:Go.Shelf.Ren:=⟨fun | 169=>261 | n=>n,fun | 70=>244 | 9=>9 | 0=>0 | 72=>246 | 37=>210 | 127=>306 | 3=>3 | 5=>5 | n=>n,fun | n=>n⟩
theorem Tryz.lays169:Go.Proofs.Lays.n169 Tryz.prog Tryz.lays169_ren:={
 mixed:=by kernel_rfl
 f169:=Tryz.func261.trans (congrArg some (by kernel_rfl))
 t0:=Dz
 a0:=Hf
 z0:=Gp
 v0:=El
 t3:=U8
 a3:=Ex
 z3:=Ed
 v3:=Ci
 t9:=Aq
 a9:=Ey
 z9:=Ee
 v9:=Cj
 t37:=Dh
 a37:=Hv
 z37:=Hi
 v37:=Gc
 t70:=Tryz.underlying244
 a70:=Tryz.isAgg244
 z70:=Tryz.sizeOf244
 v70:=Tryz.zeroValue244
 t72:=Tryz.underlying246
 a72:=Tryz.isAgg246
 z72:=Tryz.sizeOf246
 v72:=Tryz.zeroValue246
 t127:=Jg
 a127:=Tryz.isAgg306
 z127:=Tryz.sizeOf306
 v127:=Kd }
theorem Tryz.builder_extra9:Builder.Extra Tryz.prog Tryz.lays169_ren:={
 sizeBuilder:=by kernel_rfl
 liesBuilder:=by kernel_rfl
 t5:=Bn
 a5:=Gh
 z5:=Fe
 v5:=Dj
 infoByte:=by kernel_rfl
 cellsByte:=by kernel_rfl
 sizeByte:=by kernel_rfl
 neB5:=by decide }
open Go.RowKit in
theorem Tryz.builder_String (B b:Nat)(l:List UInt8)(w:World)(h:Lib.IsBuilderF 246 5 B b (Lib.byteCells l) w)(hBw:B<=w.heap.size):
 Calls Tryz.prog 261 #[.pointer (some ⟨b,0,none⟩)] w fun e w'=>e=.returned (.string ⟨l.toArray⟩)/\(Lib.IsBuilderF 246 5 B b (Lib.byteCells l) w'/\Below B w w'/\Lib.OthersKept 5 (some b) w w'):=Any.Builder_String_any_k Tryz.lays169 Tryz.builder_extra9 B b l w h hBw
def Tryz.lays103_ren:Go.Shelf.Ren:=⟨fun | 103=>308 | 210=>337 | 206=>354 | n=>n,fun | 9=>9 | 4=>4 | 24=>297 | 3=>3 | n=>n,fun | n=>n⟩
theorem Tryz.lays103:Go.Proofs.Lays.n103 Tryz.prog Tryz.lays103_ren:={
 mixed:=by kernel_rfl
 f103:=Tryz.func308.trans (congrArg some (by kernel_rfl))
 f206:=Tryz.func354.trans (congrArg some (by kernel_rfl))
 f210:=Tryz.func337.trans (congrArg some (by kernel_rfl))
 t3:=U8
 a3:=Ex
 z3:=Ed
 v3:=Ci
 t4:=Bm
 a4:=Fo
 z4:=Ev
 v4:=Cv
 t9:=Aq
 a9:=Ey
 z9:=Ee
 v9:=Cj
 t24:=Tryz.underlying297
 a24:=Tryz.isAgg297
 z24:=Tryz.sizeOf297
 v24:=Tryz.zeroValue297 }
theorem Tryz.strings_CutPrefix (s p:ByteArray)(w:World):
 Calls Tryz.prog 308 #[.string s,.string p] w fun e w'=>e=.returned (.tuple #[.string ⟨(Lib.trimPrefix s.data.toList p.data.toList).toArray⟩,.bool (Lib.hasPrefix s.data.toList p.data.toList)])/\w'=w:=Any.strings_CutPrefix Tryz.lays103 s p w
def Tryz.laysM171_ren:Go.Shelf.Ren:=⟨fun | 171=>64 | 243=>166 | 246=>230 | 283=>295 | 284=>296 | 285=>297 | 286=>298 | 129=>240 | 317=>331 | 318=>332 | 319=>333 | 320=>334 | 337=>348 | 338=>349 | n=>n,fun | 3=>3 | 9=>9 | 2=>2 | 4=>4 | 171=>284 | 0=>0 | 53=>161 | 37=>210 | 5=>5 | 173=>286 | 212=>319 | 51=>224 | 20=>20 | 213=>320 | 46=>174 | 232=>344 | 233=>345 | n=>n,fun | 17=>2 | 18=>6 | 19=>7 | n=>n⟩
theorem Tryz.laysM171:Go.Proofs.LaysM.n171 Tryz.prog Tryz.laysM171_ren:={
 mixed:=by kernel_rfl
 f129:=Iy.trans (congrArg some (by kernel_rfl))
 f171:=Tryz.func64.trans (congrArg some (by kernel_rfl))
 f243:=Tryz.func166.trans (congrArg some (by kernel_rfl))
 f246:=Tryz.func230.trans (congrArg some (by kernel_rfl))
 f283:=Mr.trans (congrArg some (by kernel_rfl))
 f284:=Ms.trans (congrArg some (by kernel_rfl))
 f285:=Mt.trans (congrArg some (by kernel_rfl))
 f286:=Tryz.func298.trans (congrArg some (by kernel_rfl))
 f317:=Mu.trans (congrArg some (by kernel_rfl))
 f318:=Mv.trans (congrArg some (by kernel_rfl))
 f319:=Tryz.func333.trans (congrArg some (by kernel_rfl))
 f320:=Tryz.func334.trans (congrArg some (by kernel_rfl))
 f337:=Tryz.func348.trans (congrArg some (by kernel_rfl))
 f338:=Tryz.func349.trans (congrArg some (by kernel_rfl))
 t0:=Dz
 a0:=Hf
 z0:=Gp
 v0:=El
 t2:=Lg
 a2:=Tryz.isAgg2
 z2:=Tryz.sizeOf2
 v2:=Md
 t3:=U8
 a3:=Ex
 z3:=Ed
 v3:=Ci
 t4:=Bm
 a4:=Fo
 z4:=Ev
 v4:=Cv
 t5:=Bn
 a5:=Gh
 z5:=Fe
 v5:=Dj
 t9:=Aq
 a9:=Ey
 z9:=Ee
 v9:=Cj
 t20:=Hu
 a20:=Mw
 z20:=Lp
 v20:=Im
 t37:=Dh
 a37:=Hv
 z37:=Hi
 v37:=Gc
 t46:=Df
 a46:=Fv
 z46:=Fa
 v46:=Dq
 t51:=Du
 a51:=Gt
 z51:=Fz
 v51:=Eg
 t53:=Dg
 a53:=Gq
 z53:=Fy
 v53:=Ef
 t171:=Gr
 a171:=Tryz.isAgg284
 z171:=Tryz.sizeOf284
 v171:=Ke
 t173:=Jh
 a173:=Tryz.isAgg286
 z173:=Tryz.sizeOf286
 v173:=Kf
 t212:=Gs
 a212:=Lq
 z212:=Kq
 v212:=Hw
 t213:=Ji
 a213:=Tryz.isAgg320
 z213:=Tryz.sizeOf320
 t232:=Jj
 a232:=Tryz.isAgg344
 z232:=Tryz.sizeOf344
 v232:=Kg
 t233:=Jk
 a233:=Tryz.isAgg345
 z233:=Tryz.sizeOf345
 v233:=Kh
 g17:=by kernel_rfl
 g18:=by kernel_rfl
 g19:=by kernel_rfl
 i0:=by kernel_rfl
 i2:=by kernel_rfl
 i3:=by kernel_rfl
 i4:=by kernel_rfl
 i5:=by kernel_rfl
 i9:=by kernel_rfl
 i20:=by kernel_rfl
 i37:=by kernel_rfl
 i46:=by kernel_rfl
 i51:=by kernel_rfl
 i53:=by kernel_rfl
 i171:=by kernel_rfl
 i173:=by kernel_rfl
 i212:=by kernel_rfl
 i232:=by kernel_rfl
 i233:=by kernel_rfl
 m17:=by kernel_rfl
 m18:=by kernel_rfl
 m19:=by kernel_rfl }
open Go.RowKit Go.Sort in
theorem Tryz.strconv_Itoa (n : Int) (h0 : -9223372036854775808 ≤ n) (h1 : n ≤ 9223372036854775807) (w : World) (htab : Lib.TabIs Tryz.prog w "internal/strconv.uint64pow10" .u64 Lib.pow10Tab) :
 Calls Tryz.prog 64 #[.int .i64 n] w fun e w'=>e=.returned (.string ⟨(Lib.itoa n).toArray⟩)/\∃ k os,w'=grow (w.drewN k) os:=Any.strconv_Itoa Tryz.laysM171 n h0 h1 w htab
def Tryz.lays283_ren:Go.Shelf.Ren:=⟨fun | 283=>295 | n=>n,fun | 3=>3 | 9=>9 | 4=>4 | n=>n,fun | n=>n⟩
theorem Tryz.lays283:Go.Proofs.Lays.n283 Tryz.prog Tryz.lays283_ren:={
 mixed:=by kernel_rfl
 f283:=Mr.trans (congrArg some (by kernel_rfl))
 t3:=U8
 a3:=Ex
 z3:=Ed
 v3:=Ci
 t4:=Bm
 a4:=Fo
 z4:=Ev
 v4:=Cv
 t9:=Aq
 a9:=Ey
 z9:=Ee
 v9:=Cj }
theorem Tryz.strconv_small (i:Nat)(h:i<100)(w:World):
 Calls Tryz.prog 295 #[.int .i64 i] w fun e w'=>e=.returned (.string ⟨(Lib.decDigits i).toArray⟩)/\w'=w:=Any.internal_strconv_small Tryz.lays283 i h w
def Tryz.laysM284_ren:Go.Shelf.Ren:=⟨fun | 284=>296 | 129=>240 | 317=>331 | 318=>332 | n=>n,fun | 53=>161 | 3=>3 | 212=>319 | 0=>0 | 4=>4 | 46=>174 | 5=>5 | 9=>9 | n=>n,fun | 17=>2 | n=>n⟩
theorem Tryz.laysM284:Go.Proofs.LaysM.n284 Tryz.prog Tryz.laysM284_ren:={
 mixed:=by kernel_rfl
 f129:=Iy.trans (congrArg some (by kernel_rfl))
 f284:=Ms.trans (congrArg some (by kernel_rfl))
 f317:=Mu.trans (congrArg some (by kernel_rfl))
 f318:=Mv.trans (congrArg some (by kernel_rfl))
 t0:=Dz
 a0:=Hf
 z0:=Gp
 v0:=El
 t3:=U8
 a3:=Ex
 z3:=Ed
 v3:=Ci
 t4:=Bm
 a4:=Fo
 z4:=Ev
 v4:=Cv
 t5:=Bn
 a5:=Gh
 z5:=Fe
 v5:=Dj
 t9:=Aq
 a9:=Ey
 z9:=Ee
 v9:=Cj
 t46:=Df
 a46:=Fv
 z46:=Fa
 v46:=Dq
 t53:=Dg
 a53:=Gq
 z53:=Fy
 v53:=Ef
 t212:=Gs
 a212:=Lq
 z212:=Kq
 v212:=Hw
 g17:=by kernel_rfl
 i0:=by kernel_rfl
 i3:=by kernel_rfl
 i4:=by kernel_rfl
 i5:=by kernel_rfl
 i9:=by kernel_rfl
 i46:=by kernel_rfl
 i53:=by kernel_rfl
 i212:=by kernel_rfl
 m17:=by kernel_rfl }
theorem Tryz.strconv_numDigits (u : Nat) (h1 : 1 ≤ u) (h2 : u < 18446744073709551616) (w : World) (htab : Lib.TabIs Tryz.prog w "internal/strconv.uint64pow10" .u64 Lib.pow10Tab) :
 Calls Tryz.prog 296 #[.int .u64 u] w fun e w'=>e=.returned (.int .i64 (Lib.nDigits u))/\w'=w:=Any.internal_strconv_numDigits Tryz.laysM284 u h1 h2 w htab
def Tryz.lays285_ren:Go.Shelf.Ren:=⟨fun | 285=>297 | n=>n,fun | 37=>210 | 53=>161 | 3=>3 | 4=>4 | 51=>224 | 9=>9 | 5=>5 | 0=>0 | n=>n,fun | n=>n⟩
theorem Tryz.lays285:Go.Proofs.Lays.n285 Tryz.prog Tryz.lays285_ren:={
 mixed:=by kernel_rfl
 f285:=Mt.trans (congrArg some (by kernel_rfl))
 t0:=Dz
 a0:=Hf
 z0:=Gp
 v0:=El
 t3:=U8
 a3:=Ex
 z3:=Ed
 v3:=Ci
 t4:=Bm
 a4:=Fo
 z4:=Ev
 v4:=Cv
 t5:=Bn
 a5:=Gh
 z5:=Fe
 v5:=Dj
 t9:=Aq
 a9:=Ey
 z9:=Ee
 v9:=Cj
 t37:=Dh
 a37:=Hv
 z37:=Hi
 v37:=Gc
 t51:=Du
 a51:=Gt
 z51:=Fz
 v51:=Eg
 t53:=Dg
 a53:=Gq
 z53:=Fy
 v53:=Ef }
open Go.RowKit Go.Sort in
theorem Tryz.strconv_formatBase10 (blk off cap:Nat)(u:Nat)(d:Array UInt8)(w:World)(hH:Holds (fun (b:UInt8)=>Value.int .u8 (b.toNat:Int)) w blk off d)(hu:u<10 ^ d.size)(hu64:u<18446744073709551616)(hsz:d.size<4611686018427387904):
 Calls Tryz.prog 297 #[.slice (some ⟨blk,off,none⟩) d.size cap,.int .u64 u] w fun e w'=>
  e=.returned (.tuple #[])/\∃ (n v':Nat) (dk:Array UInt8),w'=(putRow (fun (b:UInt8)=>Value.int .u8 (b.toNat:Int)) w blk off dk).drewN n/\Lib.FmtInv d.size u 0 v' dk:=Any.internal_strconv_formatBase10 Tryz.lays285 blk off cap u d w hH hu hu64 hsz
def Tryz.lays166_ren:Go.Shelf.Ren:=⟨fun | 166=>260 | 240=>315 | 276=>338 | n=>n,fun | 0=>0 | 3=>3 | 4=>4 | 5=>5 | 9=>9 | 20=>20 | 37=>210 | 70=>244 | 72=>246 | 75=>169 | 80=>192 | 164=>323 | n=>n,fun | n=>n⟩
theorem Tryz.lays166:Go.Proofs.Lays.n166 Tryz.prog Tryz.lays166_ren:={
 mixed:=by kernel_rfl
 f166:=Tryz.func260.trans (congrArg some (by kernel_rfl))
 f240:=Tryz.func315.trans (congrArg some (by kernel_rfl))
 f276:=Tryz.func338.trans (congrArg some (by kernel_rfl))
 t0:=Dz
 a0:=Hf
 z0:=Gp
 v0:=El
 t3:=U8
 a3:=Ex
 z3:=Ed
 v3:=Ci
 t4:=Bm
 a4:=Fo
 z4:=Ev
 v4:=Cv
 t9:=Aq
 a9:=Ey
 z9:=Ee
 v9:=Cj
 t20:=Hu
 a20:=Mw
 z20:=Lp
 v20:=Im
 t37:=Dh
 a37:=Hv
 z37:=Hi
 v37:=Gc
 t70:=Tryz.underlying244
 a70:=Tryz.isAgg244
 z70:=Tryz.sizeOf244
 v70:=Tryz.zeroValue244
 t72:=Tryz.underlying246
 a72:=Tryz.isAgg246
 z72:=Tryz.sizeOf246
 v72:=Tryz.zeroValue246
 t75:=Hl
 a75:=Tryz.isAgg169
 z75:=Tryz.sizeOf169
 v75:=Kc
 t164:=Tryz.underlying323
 a164:=Tryz.isAgg323
 z164:=Tryz.sizeOf323
 v164:=Tryz.zeroValue323 }
theorem Tryz.builder_extra:Builder.Extra Tryz.prog Tryz.lays166_ren:={
 sizeBuilder:=by kernel_rfl
 liesBuilder:=by kernel_rfl
 t5:=Bn
 a5:=Gh
 z5:=Fe
 v5:=Dj
 infoByte:=by kernel_rfl
 cellsByte:=by kernel_rfl
 sizeByte:=by kernel_rfl
 neB5:=by decide }
open Go.RowKit in
theorem Tryz.builder_WriteString (B b:Nat)(bs:List Value)(s:ByteArray)(w:World)(h:Lib.IsBuilderF 246 5 B b bs w)(hlen:bs.length+s.size<=140737488355328)(hBw:B<=w.heap.size):
 Calls Tryz.prog 260 #[.pointer (some ⟨b,0,none⟩),.string s] w fun e w'=>e=.returned (.tuple #[.int .i64 s.size,.nilIface])/\(Lib.BuilderAtF 246 5 B b (.pointer (some ⟨b,0,none⟩)) (bs++Lib.strCells s) w'/\Below B w w'/\Lib.OthersKept 5 (some b) w w'):=Any.Builder_WriteString_k Tryz.lays166 Tryz.builder_extra B b bs s w h hlen hBw
#print axioms Tryz.builder_WriteString
end Go.Proofs
namespace Go.Proofs.YtfkpfpobmobnbaaGreatDoor
section
open Go.Lib (decDigits nDigits decDigits_length nDigits_small nDigits_big digitVal decFrom decNat)
def h0D (b:UInt8):Bool:=decide (48<=b.toNat/\b.toNat<=57)
def a0U {b:UInt8}:h0D b=true↔48<=b.toNat/\b.toNat<=57:=by simp[h0D]
def dv (l:List UInt8):Nat:=l.foldl (fun a b=>10*a+(b.toNat-48)) 0
def Me:=@List.foldl_cons
def u0x (l:List UInt8)(a:Nat):l.foldl (fun a b=>10*a+(b.toNat-48)) a=10 ^ l.length*a+dv l:=by
 induction l generalizing a with
 | nil=>simp[dv]
 | cons b l ih=>
  unfold dv;rw[Me,Me,ih,ih (10*0+(b.toNat-48)),J7,M7,Ad,G8,Eu,U7];omega
@[simp] theorem dv_nil:dv []=0:=rfl
def c0w (l k:List UInt8):dv (l++k)=10 ^ k.length*dv l+dv k:=by
 unfold dv;rw[List.foldl_append,u0x]
 rfl
def j0r (l:List UInt8)(b:UInt8):dv (l ++ [b])=10*dv l+(b.toNat-48):=by
 rw[c0w];simp[dv]
def allDig (l:List UInt8):Prop:=∀ b∈l,h0D b=true
theorem allDig.append {l k:List UInt8}(h:allDig l)(h':allDig k):allDig (l++k):=fun b hb=>(Cu.1 hb).elim (h b) (h' b)
theorem allDig.left {l k:List UInt8}(h:allDig (l++k)):allDig l:=fun b hb=>h b (Ll _ hb)
theorem allDig.take {l:List UInt8}(h:allDig l)(i:Nat):allDig (l.take i):=fun b hb=>h b (Gz hb)
theorem allDig.drop {l:List UInt8}(h:allDig l)(i:Nat):allDig (l.drop i):=fun b hb=>h b (Id hb)
def b0x {d:Nat}(h:d<10):(UInt8.ofNat (48+d)).toNat=48+d:=by
 rw[UInt8.toNat_ofNat'];omega
def g0X {b:UInt8}(h:h0D b=true):UInt8.ofNat (48+(b.toNat-48))=b:=by
 have:=a0U.1 h;rw[show 48+(b.toNat-48)=b.toNat by omega,UInt8.ofNat_toNat]
def a0u {u:Nat}(h:u<10):decDigits u = [UInt8.ofNat (48+u)]:=by rw[decDigits,dif_pos h]
def a0X {u:Nat}(h:¬ u<10):decDigits u=decDigits (u / 10) ++ [UInt8.ofNat (48+u%10)]:=by rw[decDigits,dif_neg h]
def Co:=@List.mem_singleton
def b0l (n:Nat):allDig (decDigits n):=by
 induction n using Nat.strongRecOn with
 | _ n ih=>
  by_cases h:n<10
  .rw[a0u h];intro b hb;rw[Co.1 hb,a0U,b0x h];omega
  .rw[a0X h];refine (ih _ (by omega)).append fun b hb=>?_
   rw[Co.1 hb,a0U,b0x (by omega)];omega
def f0C (n:Nat):dv (decDigits n)=n:=by
 induction n using Nat.strongRecOn with
 | _ n ih=>
  by_cases h:n<10
  .rw[a0u h];simp only[dv,Me,List.foldl_nil,b0x h];omega
  .rw[a0X h,j0r,ih _ (by omega),b0x (by omega)];omega
def c0U (n:Nat):decDigits n ≠ []:=by
 by_cases h:n<10
 .rw[a0u h];simp
 .rw[a0X h];simp
def h0F (n:Nat):0<(decDigits n).length:=by
 have:=c0U n;cases h:decDigits n with
 | nil=>exact absurd h this
 | cons x l=>simp
def c0b:decDigits 0 = [48]:=by rw[a0u (by omega)];rfl
def f0r:decDigits 1 = [49]:=by rw[a0u (by omega)];rfl
def u0O {n:Nat}(h:0<n):∀ b,(decDigits n).head? = some b->b≠48:=by
 induction n using Nat.strongRecOn with
 | _ n ih=>
  intro b hb;by_cases hn:n<10
  .rw[a0u hn,List.head?_cons]at hb;injection hb with hb
   rw[<- hb];intro e;have:=congrArg UInt8.toNat e;rw[b0x hn]at this;simp at this;omega
  .rw[a0X hn]at hb;refine ih (n / 10) (by omega) (by omega) b ?_;cases hd:decDigits (n / 10) with
   | nil=>exact absurd hd (c0U _)
   | cons x l=>rw[hd]at hb;simpa using hb
def c0S (l:List UInt8):Prop:=l ≠ []/\(l = [48]\/l.head? ≠ some 48)/\allDig l
def i0e (n:Nat):c0S (decDigits n):=by
 refine⟨c0U n,?_,b0l n⟩;rcases H7 n with rfl | h
 .exact .inl c0b
 .exact .inr fun e=>u0O h 48 e rfl
def Bv:=@Nat.pos_of_ne_zero
def e0m {l:List UInt8}(h:c0S l):l=decDigits (dv l):=by
 suffices H:∀ (k:Nat) (l:List UInt8),l.length=k->c0S l->l=decDigits (dv l) from H _ l rfl h
 intro k
 induction k with
 | zero=>intro l hl h;exact absurd (Ag hl) h.1
 | succ k ih=>
  intro l hl h;obtain⟨t,b,rfl⟩:∃ t b,l=t ++ [b]:=⟨l.dropLast,l.getLast h.1,(Fu h.1).symm⟩;have hb:h0D b=true:=h.2.2 b (by simp);have hb2:=a0U.1 hb;rw[j0r];cases t with
  | nil=>
   rw[a0u (by simp;omega)];simp[g0X hb]
  | cons x t=>
   have hx:x≠48:=fun e=>by
    subst e;rcases h.2.1 with h2 | h2
    .simp at h2
    .exact h2 rfl
   have hf:c0S (x::t):=⟨by simp,.inr (by simpa using hx),h.2.2.left⟩;have ht:=ih (x::t) (by simp at hl;simp;omega) hf;have hp:0<dv (x::t):=Bv fun e=>by
    rw[e,c0b]at ht;injection ht with h1 _
    exact hx h1
   generalize hm:dv (x::t)=m at *
   rw[a0X (by omega),show (10*m+(b.toNat-48)) / 10=m by omega,show (10*m+(b.toNat-48))%10=b.toNat-48 by omega,g0X hb,<- ht]
def i0d {l:List UInt8}:c0S l ↔ ∃ n,l=decDigits n:=⟨fun h=>⟨_,e0m h⟩,fun ⟨n,e⟩=>e ▸ i0e n⟩
def u0K {s:List UInt8}{e:Nat}(he:e<=s.length)(h9:9<=e):dv (s.take e)=1000000000*dv (s.take (e-9))+dv ((s.drop (e-9)).take 9):=by
 have h1:s.take e=s.take (e-9)++(s.drop (e-9)).take 9:=by
  conv=>lhs;rw[show e=(e-9)+9 by omega,List.take_add]
 rw[h1,c0w,K5 (by simp;omega)]
def u0J {l:List UInt8}(h:allDig l):dv l<10 ^ l.length:=by
 suffices H:∀ (k:Nat) (l:List UInt8),l.length=k->allDig l->dv l<10 ^ k from H _ l rfl h
 intro k
 induction k with
 | zero=>intro l hl _;rw[Ag hl];simp
 | succ k ih=>
  intro l hl h;have hne:l ≠ []:=fun e=>by subst e;simp at hl
  obtain⟨t,b,rfl⟩:∃ t b,l=t ++ [b]:=⟨l.dropLast,l.getLast hne,(Fu hne).symm⟩;have hb:=a0U.1 (h b (by simp));have:=ih t (by simp at hl;omega) h.left;rw[j0r,M7];omega
def pad (k n:Nat):List UInt8:=List.replicate (k-nDigits n) 48++decDigits n
def Gx:=@Go.Lib.nDigits_small
theorem a0j {n k:Nat}(hk:0<k)(h:n<10 ^ k):nDigits n<=k:=by
 induction k generalizing n with
 | zero=>omega
 | succ k ih=>
  by_cases hn:n<10
  .rw[Gx hn];omega
  .rw[nDigits_big hn];have:n / 10<10 ^ k:=by rw[M7]at h;omega
   have hk':0<k:=Bv fun e=>by subst e;simp at this;omega
   have:=ih hk' this;omega
def Ai:=@List.append_assoc
def t0I {k n:Nat}(hk:0<k):pad (k+1) n=pad k (n / 10) ++ [UInt8.ofNat (48+n%10)]:=by
 unfold pad;by_cases hn:n<10
 .rw[Gx hn,a0u hn,Do hn,Bl hn,Gx (by omega),c0b];have:(48:UInt8)=48:=rfl;rw[show k+1-1=(k-1)+1 by omega,List.replicate_succ']
 .rw[nDigits_big hn,a0X hn,Nat.add_sub_add_right,Ai]
def Eb:=@Nat.mul_pos
def y0l (k:Nat):∀ {q r:Nat},0<q->r<10 ^ (k+1)->decDigits (10 ^ (k+1)*q+r)=decDigits q++pad (k+1) r:=by
 induction k with
 | zero=>
  intro q r hq hr;have hr':r<10:=by simpa using hr
  rw[show 10 ^ (0+1)*q+r=10*q+r by simp,a0X (by omega),show (10*q+r) / 10=q by omega,show (10*q+r)%10=r by omega];unfold pad;rw[Gx hr',a0u hr']
  rfl
 | succ k ih=>
  intro q r hq hr;have e:10 ^ (k+1+1)*q=10*(10 ^ (k+1)*q):=by rw[M7 10 (k+1),E9 _ 10,G8]
  have hr':r / 10<10 ^ (k+1):=by rw[M7]at hr;omega
  have hp:0<10 ^ (k+1)*q:=Eb (Ej (by omega)) hq;rw[e,a0X (by omega),show (10*(10 ^ (k+1)*q)+r) / 10=10 ^ (k+1)*q+r / 10 by omega,show (10*(10 ^ (k+1)*q)+r)%10=r%10 by omega,ih hq hr',Ai,<- t0I (by omega)]
def Ku:=@Nat.add_comm
def n0r {q r:Nat}(hq:0<q)(hr:r<1000000000):decDigits (r+1000000000*q)=decDigits q++pad 9 r:=by
 rw[Ku];exact y0l 8 hq hr
def Ff:=@List.length_replicate
def C9:=@Go.Lib.decDigits_length
def o0j {r:Nat}(hr:r<1000000000):(pad 9 r).length=9:=by
 have:=a0j (k:=9) (by omega) hr;rw[pad,J4,Ff,C9];omega
def k0s {q r:Nat}(hq:0<q)(hr:r<1000000000):nDigits (r+1000000000*q)=nDigits q+9:=by
 rw[<- C9,n0r hq hr,J4,C9,o0j hr]
def r0Y {l:List Nat}(h:Sm l){i x:Nat}(hx:l[i]?=some x)(hp:0<val (l.drop (i+1))):decDigits (val (l.drop i))=decDigits (val (l.drop (i+1)))++pad 9 x:=by
 rw[c0m hx,n0r hp (h.get hx)]
def i0R {l:List Nat}(h:Sm l)(hne:l ≠ [])(hl:∀ x,l.getLast? = some x->x≠0):nDigits (val l)=9*(l.length-1)+nDigits (l.getLast hne):=by
 induction l with
 | nil=>exact absurd rfl hne
 | cons x l ih=>
  cases l with
  | nil=>simp[a0O]
  | cons y l=>
   have hl':∀ x,(y::l).getLast? = some x->x≠0:=fun z hz=>hl z (by rw[Jf];exact hz)
   have hv:0<val (y::l):=Bv fun e=>by
    have:=i0V h.tail hl';rw[e]at this;simp at this
   have e:(x::y::l).getLast hne=(y::l).getLast (by simp):=List.getLast_cons (by simp);rw[a0O,k0s hv h.head,ih h.tail (by simp) hl',e];simp only[J7];omega
def Dp:=@Go.Lib.lt_pow_nDigits
def a0r {a b:Nat}(h:a<=b):nDigits a<=nDigits b:=by
 refine a0j (Go.Lib.nDigits_pos b) (Cn h (Dp b))
def At:=@Option.some.injEq
def i0i {l:List UInt8}(h:allDig l)(a:Nat):decFrom a l=some (10 ^ l.length*a+dv l):=by
 induction l generalizing a with
 | nil=>simp[decFrom]
 | cons b l ih=>
  have hb:=a0U.1 (h b (by simp));have hd:digitVal b=some (b.toNat-48):=by rw[digitVal,U0 hb]
  have hrest:allDig l:=fun x hx=>h x (Cd _ hx)
  simp only[decFrom,hd];rw[ih hrest,J7,M7];have:dv (b::l)=10 ^ l.length*(b.toNat-48)+dv l:=by
   have:=c0w [b] l;rw[show dv [b]=b.toNat-48 by simp[dv]]at this;exact this
  rw[this,Ad,G8,E9 a 10];simp only[At];omega
def r0U {s:List UInt8}{e:Nat}(he:e<=s.length):dv (s.take e)=1000000000*dv (s.take (e-9))+dv ((s.drop (e-9)).take (e-(e-9))):=by
 by_cases h9:9<=e
 .rw[u0K he h9,show e-(e-9)=9 by omega]
 .rw[show e-9=0 by omega];simp
structure ReadI (l:List UInt8)(e:Nat)(s:List Nat):Prop where
 le:e<=l.length
 sm:Sm s
 eq:val s+1000000000 ^ s.length*dv (l.take e)=dv l
theorem ReadI.start (l:List UInt8):ReadI l l.length []:=⟨Z3 _,Sm.nil,by simp⟩
def Z4:=@Nat.pow_le_pow_right
theorem ReadI.next {l:List UInt8}{e:Nat}{s:List Nat}(h:ReadI l e s)(hd:allDig l):ReadI l (e-9) (s ++ [dv ((l.drop (e-9)).take (e-(e-9)))]):=by
 have hlt:dv ((l.drop (e-9)).take (e-(e-9)))<1000000000:=by
  have h1:=u0J ((hd.drop (e-9)).take (e-(e-9)));have h2:10 ^ ((l.drop (e-9)).take (e-(e-9))).length<=10 ^ 9:=Z4 (by omega) (by simp;omega);omega
 refine⟨by have:=h.le;omega,h.sm.append (Sm.cons hlt Sm.nil),?_⟩;have he:=h.eq;have hc:=r0U h.le;rw[d0B,J4,E8,M7];rw[hc,Ad]at he;rw[G8];omega
theorem ReadI.done {l:List UInt8}{s:List Nat}(h:ReadI l 0 s):val s=dv l:=by
 have:=h.eq;simpa using this
def k0K {l:List UInt8}{i:Nat}{b:UInt8}(h:l[i]?=some b):dv (l.take (i+1))=10*dv (l.take i)+(b.toNat-48):=by
 have hi:i<l.length:=(O4.1 h).1;have hx:l[i]=b:=(O4.1 h).2;rw[Di hi,j0r,hx]
def Cq:=@Array.getElem?_toList
def C7:=@Array.getElem?_eq_getElem
def c0G {s:ByteArray}{i:Nat}(h:i<s.size):s.data.toList[i]?=some s[i]:=by
 have h':i<s.data.size:=h;rw[Cq,C7 h'];rfl
def n0u {L:List UInt8}(h:allDig L){a k:Nat}(hk:k<=9):dv ((L.drop a).take k)<1000000000:=by
 have h1:=u0J ((h.drop a).take k);have h2:10 ^ ((L.drop a).take k).length<=10 ^ 9:=Z4 (by omega) (by simp;omega);omega
def o0W {L:List UInt8}{a i:Nat}{b:UInt8}(h:L[i]?=some b)(ha:a<=i):dv ((L.drop a).take (i+1-a))=10*dv ((L.drop a).take (i-a))+(b.toNat-48):=by
 rw[show i+1-a=(i-a)+1 by omega];exact k0K (by rw[Cm,show a+(i-a)=i by omega];exact h)
end
section
open Go.RowKit
open Go.Lib (decDigits nDigits)
def d0X (l:List UInt8):List Value:=l.map fun b=>Value.int .u8 (b.toNat:Int)
@[simp] theorem bytesL_length (l:List UInt8):(d0X l).length=l.length:=by simp[d0X]
def p0b {l:List UInt8}{i:Nat}{b:UInt8}(h:l[i]?=some b):(d0X l)[i]?=some (.int .u8 (b.toNat:Int)):=by simp[d0X,h]
def BArr (t:TypeId)(w:World)(g:Nat)(l:List UInt8):Prop:=Blk w g (d0X l).toArray t
theorem BArr.cell {t:TypeId}{w:World}{g:Nat}{l:List UInt8}(h:BArr t w g l){i:Nat}{b:UInt8}(hb:l[i]?=some b):w.cell? ⟨g,i,none⟩=some (.int .u8 (b.toNat:Int)):=by
 rw[Blk.cell h,K6];exact p0b hb
theorem BArr.free {t:TypeId}{w:World}{g:Nat}{l:List UInt8}(h:BArr t w g l)(i:Nat):w.frozen? ⟨g,i,none⟩=false:=Blk.free h i
theorem BArr.set {t:TypeId}{w:World}{g:Nat}{l:List UInt8}(h:BArr t w g l)(i:Nat)(b:UInt8):BArr t (w.setCell ⟨g,i,none⟩ (.int .u8 (b.toNat:Int))) g (l.set i b):=by
 have:=Blk.set h i (.int .u8 (b.toNat:Int));unfold BArr;rw[show d0X (l.set i b)=(d0X l).set i (.int .u8 (b.toNat:Int)) by simp[d0X,List.map_set]];simpa using this
theorem BArr.made (w:World)(t:TypeId)(n:Nat):BArr t (w.alloc (.cells (madeCells #[.int .u8 0] n) t)) w.heap.size (List.replicate n 0):=by
 rw[show madeCells #[.int .u8 0] n=(d0X (List.replicate n 0)).toArray from ?_]
 .exact Blk.new w _ t
 .apply Fk
  intro i;unfold madeCells d0X;by_cases hi:i<n<;>simp[hi,Nn]
structure WrI (n i:Nat)(bs:List UInt8):Prop where
 len:bs.length=9*(limbs n).length
 dig:allDig (bs.take (9*i))
 eq:dv (bs.take (9*i))=val ((limbs n).drop ((limbs n).length-i))
structure WrJ (n i x k y:Nat)(bs:List UInt8):Prop where
 len:bs.length=9*(limbs n).length
 dig:allDig (bs.take (9*i))
 eq:dv (bs.take (9*i))=val ((limbs n).drop ((limbs n).length-i))
 dig2:allDig ((bs.drop (9*i+k)).take (9-k))
 eq2:dv ((bs.drop (9*i+k)).take (9-k))=x%10 ^ (9-k)
 y:y=x / 10 ^ (9-k)
theorem WrI.start (n:Nat):WrI n 0 (List.replicate (9*(limbs n).length) 0):=
 ⟨by simp,fun b hb=>by simp at hb,by simp⟩
theorem WrI.enter {n i x:Nat}{bs:List UInt8}(h:WrI n i bs):WrJ n i x 9 x bs:=
 ⟨h.len,h.dig,h.eq,fun b hb=>by simp at hb,by simp[Nn],by simp⟩
def Gi:=@List.take_succ_cons
def Cg:=@List.length_take
def S9:=@List.length_drop
def Ir:=@List.take_set_of_le
theorem WrJ.next {n i x k y:Nat}{bs:List UInt8}(h:WrJ n i x (k+1) y bs)(hk:k<9)(hi:i<(limbs n).length):WrJ n i x k (y / 10) (bs.set (9*i+k) (UInt8.ofNat (48+y%10))):=by
 have hlt:9*i+k<bs.length:=by rw[h.len];omega
 have e:((bs.set (9*i+k) (UInt8.ofNat (48+y%10))).drop (9*i+k)).take (9-k)=UInt8.ofNat (48+y%10)::(bs.drop (9*i+(k+1))).take (9-(k+1)):=by
  rw[J9 (by simpa using hlt),Iq (by omega),show 9-k=(9-(k+1))+1 by omega,Gi];simp[De]
 have el:((bs.drop (9*i+(k+1))).take (9-(k+1))).length=8-k:=by
  rw[Cg,S9,h.len];omega
 have hp:10 ^ (9-k)=10 ^ (9-(k+1))*10:=by rw[show 9-k=(9-(k+1))+1 by omega,M7]
 refine⟨by rw[Ch,h.len],by rw[Ir (by omega)];exact h.dig,by rw[Ir (by omega)];exact h.eq,?_,?_,?_⟩
 .rw[e];intro b hb;rcases Az.1 hb with rfl | hb
  .rw[a0U,b0x (by omega)];omega
  .exact h.dig2 b hb
 .rw[e,show ∀ (c:UInt8) (t:List UInt8),c::t = [c]++t from fun _ _=>rfl,c0w,el,h.eq2,hp,Nat.mod_mul,<- h.y];simp only[dv,Me,List.foldl_nil,b0x (show y%10<10 by omega)];rw[show 8-k=9-(k+1) by omega,show 10*0+(48+y%10-48)=y%10 by omega,Ku]
 .rw[h.y,hp,Nat.div_div_eq_div_mul]
theorem WrJ.leave {n i x y:Nat}{bs:List UInt8}(h:WrJ n i x 0 y bs)(hx:(limbs n)[(limbs n).length-1-i]?=some x)(hi:i<(limbs n).length):WrI n (i+1) bs:=by
 have e:bs.take (9*(i+1))=bs.take (9*i)++(bs.drop (9*i)).take 9:=by rw[show 9*(i+1)=9*i+9 by omega,List.take_add]
 have h2:=h.eq2;have h3:=h.dig2;rw[Ao]at h2 h3;have hxl:=(a0p n).get hx;refine⟨h.len,by rw[e];exact h.dig.append h3,?_⟩;have hl:((bs.drop (9*i)).take 9).length=9:=by rw[Cg,S9,h.len];omega
 rw[e,c0w,hl,h.eq,h2,show (limbs n).length-(i+1)=(limbs n).length-1-i by omega,c0m hx,show (limbs n).length-1-i+1=(limbs n).length-i by omega];rw[Bl (by omega)];omega
def Bh:=@Nat.sub_self
theorem WrI.done {n:Nat}{bs:List UInt8}(h:WrI n (limbs n).length bs):allDig bs/\dv bs=n:=by
 have h1:=h.dig;have h2:=h.eq;rw[Z6 (by rw[h.len];exact Z3 _)]at h1 h2;rw[Bh,A9,a0y]at h2;exact⟨h1,h2⟩
def k0J {l:List UInt8}{r:Nat}(h:l[r]?=some 48):dv (l.drop (r+1))=dv (l.drop r):=by
 obtain⟨h1,h2⟩:=O4.1 h;rw[J9 h1,h2,show ∀ (c:UInt8) (t:List UInt8),c::t = [c]++t from fun _ _=>rfl,c0w];simp[dv]
def n0P {l:List UInt8}{r n:Nat}(hd:allDig l)(hv:dv (l.drop r)=n)(hr:r<l.length)(h:r+1=l.length\/l[r]? ≠ some 48):l.drop r=decDigits n:=by
 rw[<- hv];refine e0m ⟨fun e=>?_,?_,hd.drop r⟩
 .have:=congrArg List.length e;simp at this;omega
 .rcases h with h | h
  .have hl:(l.drop r).length=1:=by simp;omega
   match hm:l.drop r,hl with
   | [c],_=>
    by_cases hc:c=48
    .left;rw[hc]
    .right;simpa using hc
  .right
   rw[List.head?_drop];exact h
def c0T (l:List UInt8):Bool:=!l.isEmpty && (l == [48] || l.head? != some 48) && l.all h0D
def I9:=@Bool.and_eq_true
def a0V {l:List UInt8}:c0T l=true↔c0S l:=by
 unfold c0T c0S allDig;simp[I9,and_assoc]
def k0C (n:Nat):c0T (decDigits n)=true:=a0V.2 (i0e n)
def c0h (l:List UInt8):Int:=if c0T l=true then (if 4000<l.length then 5 else 0) else 3
def e0Q {l:List UInt8}(h:¬ c0S l):c0h l=3:=by rw[c0h,Q0 (fun e=>h (a0V.1 e))]
def k0E {l:List UInt8}(h:c0S l)(hl:4000<l.length):c0h l=5:=by rw[c0h,U0 (a0V.2 h),U0 hl]
def f0o {l:List UInt8}(h:c0S l)(hl:¬ 4000<l.length):c0h l=0:=by rw[c0h,U0 (a0V.2 h),Q0 hl]
def h0n {l:List UInt8}:c0h l=0 ↔ ∃ n,l=decDigits n/\nDigits n<=4000:=by
 unfold c0h
 constructor
 .intro h
  split at h
  .rename_i hf
   obtain⟨n,rfl⟩:=i0d.1 (a0V.1 hf)
   split at h
   .omega
   .exact⟨n,rfl,by rw[<- C9];omega⟩
  .omega
 .rintro⟨n,rfl,hn⟩;rw[U0 (k0C n),C9,Q0 (by omega)]
def u0G {n:Nat}(h:nDigits n<=4000):c0h (decDigits n)=0:=h0n.2 ⟨n,rfl,h⟩
end
section
open Go.RowKit Go.Shelf Go.Sort Go.Lib
structure Lay (w:World):Prop where
 tab : Lib.TabIs Tryz.prog w "internal/strconv.uint64pow10" .u64 Lib.pow10Tab
 max:∃ m,w.cell? ⟨3,0,none⟩=some (.int .i64 m)
def Lh:=@Option.bind_some
theorem Lay.call {w w':World}(h:Lay w)(hb:Below w.heap.size w w'):Lay w':=by
 refine⟨?_,?_⟩
 ·have h:=h.tab;unfold Lib.TabIs World.var? at h ⊢;cases hg : Tryz.prog.globalNamed "internal/strconv.uint64pow10" with
  | none=>simp[hg]at h
  | some g=>
   rw[hg]at h;simp only[Lh]at h |-;have hlt:g<w.heap.size:=by
    rcases Cz g w.heap.size with h' | h'
    .exact h'
    .rw[Hk h']at h;simp at h
   rw[hb.block g hlt];exact h
 .obtain⟨m,hm⟩:=h.max;exact⟨m,(hb.cell (Ek w _ hm)).trans hm⟩
def d0Q (w:World)(k:Nat)(os:Array Obj):Below w.heap.size w (grow (w.drewN k) os):=by
 refine⟨rfl,rfl,rfl,?_,fun i hi=>?_⟩
 .simp[grow,World.drewN]
 .simp only[grow,World.drewN];exact Array.getElem?_append_left hi
def Lr:=@Go.Sort.alloc_eq_grow
def u0A (w:World)(o:Obj)(dk:Array UInt8)(k:Nat):∃ os,(putRow (fun (b:UInt8)=>Value.int .u8 (b.toNat:Int)) (w.alloc o) w.heap.size 0 dk).drewN k=grow (w.drewN k) os:=by
 rw[Lr];obtain⟨os',_,e⟩:=putRow_grow_new (fun (b:UInt8)=>Value.int .u8 (b.toNat:Int)) w #[o] w.heap.size 0 dk nr;exact⟨os',by rw[e];rfl⟩
def O0:=@Go.IntWalk.i64_in
def Ha:=@Array.size_replicate
def a1m (w:World)(u:Nat)(hu64:u<18446744073709551616)(htab:Lay w):
 Calls Tryz.prog 314 #[.int .u64 u,.int .i64 10] w fun e w'=>e=.returned (.string ⟨(Lib.decDigits u).toArray⟩)/\Below w.heap.size w w':=by
 by_cases hs:u<100
 .go_enter Tryz.func314,Tryz.ntmps314;have hw:IntKind.i64.wrap (u:Int)=(u:Int):=O0 _ ⟨by omega,by omega⟩
  go_wp2_with (first
   | (go_at_call 295;refine (Tryz.strconv_small u hs _).mono ?_;rintro e w' ⟨rfl,rfl⟩)
   | fail)
  go_ret
  exact⟨rfl,J3 _ _⟩
 .have hu1:1<=u:=by omega
  have hnd20:Lib.nDigits u<=20:=by have:=Lib.numDigits_eq u hu1 hu64;split at this<;>omega
  have hal:Tryz.prog.arrayLen 284=24:=by simp[Program.arrayLen,Gr]
  have hsl1:∀ W,(Instr.sliceAt 284 (.pointer (some ⟨w.heap.size,0,none⟩)) none (some (.int .i64 (Lib.nDigits u:Int))) none).run Tryz.prog W=.ok (.slice (some ⟨w.heap.size,0,none⟩) (Lib.nDigits u) 24) W:=fun W=>by
   rw[run_sliceAt_array_h W 284 ⟨w.heap.size,0,none⟩ (by simp[Program.arrayLen,Program.elem,Gr]) .i64 (Lib.nDigits u:Int) (by omega) (by rw[hal];omega)]
   go_simp
  have hH0:=Lib.holds_zero0 w 284 (Lib.nDigits u) (by omega);have hfmt:=Tryz.strconv_formatBase10 w.heap.size 0 24 u (Array.replicate (Lib.nDigits u) 0) (w.alloc (.cells Lib.zeros24 284)) hH0 (by rw[Ha];exact Dp u) hu64 (by rw[Ha];omega);rw[Ha]at hfmt;have HH0:=Lib.hid hH0;have HT:Hid (Lay w):=htab;clear hH0 hal htab;go_enter Tryz.func314,Tryz.ntmps314
  go_wp2_with (first
   | (go_at_call 296;refine (Tryz.strconv_numDigits u hu1 hu64 _ (Lib.tabIs_alloc HT.out.tab _)).mono ?_;rintro e w' ⟨rfl,rfl⟩)
   | (go_at_call 297;refine hfmt.mono ?_;rintro e w' ⟨rfl,k,v',dk,rfl,hF⟩
      have hcv:(convert 210 9 (.slice (some ⟨w.heap.size,0,none⟩) (Lib.nDigits u) 24)).run Tryz.prog ((putRow (fun (b:UInt8)=>Value.int .u8 (b.toNat:Int)) (w.alloc (.cells Lib.zeros24 284)) w.heap.size 0 dk).drewN k)=.ok (.string ⟨(Lib.decDigits u).toArray⟩) ((putRow (fun (b:UInt8)=>Value.int .u8 (b.toNat:Int)) (w.alloc (.cells Lib.zeros24 284)) w.heap.size 0 dk).drewN k):=by
       have h:=run_convert_bytes_back (P:=Tryz.prog) ((putRow (fun (b:UInt8)=>Value.int .u8 (b.toNat:Int)) (w.alloc (.cells Lib.zeros24 284)) w.heap.size 0 dk).drewN k) 210 9 5 ⟨w.heap.size,0,none⟩ 24 (Lib.decDigits u) Dh Bn Aq (fun j hj=>by
        rw[Lib.row_is_numeral hF j hj,Lib.add_plain,World.cell?_drewN];exact cell?_putRow (fun (b:UInt8)=>Value.int .u8 (b.toNat:Int)) _ w.heap.size 0 _ dk HH0.out (by rw[hF.size,Ha]) j (by rw[hF.size];rw[C9]at hj;exact hj))
       rw[C9]at h;exact h)
   | fail)
  go_ret
  obtain⟨os,eo⟩:=u0A w (.cells Lib.zeros24 284) dk k;refine⟨rfl,?_⟩;rw[eo];exact d0Q w k os
def u0j (w:World)(u:Nat)(hu64:u<18446744073709551616)(htab:Lay w):
 Calls Tryz.prog 259 #[.int .u64 u,.int .i64 10] w fun e w'=>e=.returned (.string ⟨(Lib.decDigits u).toArray⟩)/\Below w.heap.size w w':=by
 go_enter Tryz.func259,Tryz.ntmps259
 go_wp2_with (first
  | (go_at_call 314;refine (a1m _ u hu64 htab).mono ?_;rintro e w' ⟨rfl,hb⟩)
  | fail)
 go_ret
 exact⟨rfl,hb⟩
#print axioms u0j
end
section
open Go.RowKit Go.Shelf
def s0G (B:Nat):Prop:=2<B/\3<B
def p0w : Tryz.prog.globalNamed "internal/strconv.uint64pow10" = some 2 := by kernel_rfl
theorem Lay.lt {w:World}(h:Lay w):s0G w.heap.size:=by
 refine⟨?_,?_⟩
 .have h:=h.tab;unfold Lib.TabIs World.var? at h;rw[p0w]at h;rcases Cz 2 w.heap.size with h' | h'
  .exact h'
  .simp only[Lh]at h;rw[Hk h']at h;simp at h
 .obtain⟨m,hm⟩:=h.max;exact Ek w _ hm
theorem Lay.below {w w':World}{B:Nat}(h:Lay w)(hb:Below B w w')(hB:s0G B):Lay w':=by
 refine⟨?_,?_⟩
 .have h:=h.tab;unfold Lib.TabIs World.var? at h |-;rw[p0w]at h |-;simp only[Lh]at h |-;rw[hb.block _ hB.1];exact h
 .obtain⟨m,hm⟩:=h.max;exact⟨m,(hb.cell hB.2).trans hm⟩
end
section
open Go.ChangeShapes Go.WideShapes Go.ChangeAt Go.RowKit
open Go.ChangeMaps (open_string shut_string)
def o0g:(Tryz.prog.globals[2]?).map (·.type)=some 319:=by kernel_rfl
def l0s:Tryz.prog.cellsOf 319=20:=by kernel_rfl
def o0h:Tryz.prog.cellsOf 161=1:=by kernel_rfl
def Ih:=@Go.MakeChecks.laidMetH_plain
def K9:=@Option.some.inj
def Ax:=@of_decide_eq_true
def a1k {W:World}(h:laidMetH Tryz.prog Rows.noiseCallsRow.laid W)(hsh:W.ShapedOpen Tryz.prog):Lay W:=by
 refine⟨?_,?_⟩
 .rw[Ih _ _ _ (by kernel_rfl)]at h;obtain⟨ps,⟨g0,t0,cs0,f0,p0,q0,hg0,ht0,hv0,hd0,⟨g1,t1,cs1,f1,p1,q1,hg1,ht1,hv1,hd1,⟨g2,t2,cs2,f2,p2,q2,hg2,ht2,hv2,hd2,_,_⟩,_⟩,_⟩,_,_⟩:=h;obtain rfl:=K9 (p0w.symm.trans hg2);obtain rfl:=K9 (o0g.symm.trans ht2);have e:(Rows.laid_internal_strconv_uint64pow10:DataW Unit)=Lib.tabData .u64 Lib.pow10Tab:=by kernel_rfl
  have hd:DataW.trod (fun _=>()) Tryz.prog W 0 (fun _=>true) false f2 319 cs2.toList=some (Lib.tabData .u64 Lib.pow10Tab,p2):=by rw[<- e];exact hd2
  unfold Lib.TabIs;rw[hv2,<- Lib.cells_of_tab Gs Dg o0h l0s hd]
 .exact cell_of_shapedOpen_int (zero:=#[.int .i64 0]) (t:=3) hsh (Ax (by kernel_rfl)) (by kernel_rfl) rfl (by kernel_rfl) (by kernel_rfl) U8
def own:ownKnob Tryz.prog.godebug=none:=by kernel_rfl
def f0l:laidOutB Tryz.prog=true:=by kernel_rfl
def z0g (l:List ByteArray):List Value:=l.map Value.string
def Aa:=@List.length_map
def Ck:=@List.getElem?_map
def q0y {H:Type}{enc:TypeId×Value->H}{P:Program}{r:Reach}{b0:Nat}{w:World}{t e:TypeId}{v:Value}{d:DataW H}{p:List MemPlace}(ht:P.underlying t=some (.slice e))(he:P.underlying e=some .string)(hc:P.cellsOf e=1)
 (hv:Value.okWide P w r b0 t v) (h:DataW.Trod enc P w 0 (fun _=>true) true t v d p):∃ l,Row w v (z0g l)/\∀ x∈l,x.size<=maxLen:=by
 obtain⟨a0,len,cap,rfl⟩:=okWide_slice ht hv;obtain⟨fuel,hf⟩:=h;rcases open_strings ht he hc hf with ⟨hcs,-⟩ | ⟨a,len',cap',ss,hcs,-,hl,hm,hz,-,hcell,hws⟩
 .simp[Value.cells]at hcs;obtain⟨rfl,rfl,rfl⟩:=hcs;exact⟨[],Row.nil w,by simp⟩
 .simp[Value.cells]at hcs;obtain⟨rfl,rfl,rfl⟩:=hcs;simp at hz;refine⟨ss.take len,⟨some a,cap,?_,?_,hm,fun i x hx=>?_⟩,fun x hx=>hws x (Gz hx)⟩
  .rw[z0g,Aa,K5 (by omega)]
  .rw[z0g,Aa,K5 (by omega)];exact hl
  .have hi:=(O4.1 hx).1;rw[z0g,Aa,K5 (by omega)]at hi;obtain⟨b,off,spot⟩:=a;have hspot:spot=none:=by
    have h0:=hcell 0 (by omega);simpa[Addr.add]using World.cell?_spot h0
   subst hspot;have hc2:=hcell i (by omega);rw[Go.WideShapes.add_plain]at hc2;refine⟨b,off,rfl,Ek w _ hc2,?_⟩;rw[hc2,<- hx];simp only[z0g,Ck,Bu];rw[U0 (by omega),J2];obtain⟨y,hy⟩:∃ y,ss[i]?=some y:=⟨_,J0 (by omega)⟩;rw[hy]
   rfl
end
section
open Go.RowKit
def zs (l:List Int):List Value:=l.map (Value.int .i64)
@[simp] theorem zs_length (l:List Int):(zs l).length=l.length:=by simp[zs]
def z0c {l:List Int}{i:Nat}{x:Int}(h:l[i]?=some x):(zs l)[i]?=some (.int .i64 x):=by simp[zs,h]
def Cc:=@List.mem_map
def z0b (l:List Int):∀ u∈zs l,u.oneCell'=true:=by
 intro u hu;obtain⟨x,_,rfl⟩:=Cc.1 hu
 rfl
theorem Row.openZ {w:World}{v:Value}{l:List Int}(h:Row w v (zs l)):∃ a c,v=.slice a l.length c/\l.length<=c/\c<=9223372036854775807/\∀ (i:Nat) (x:Int),l[i]?=some x->∃ g o,a=some ⟨g,o,none⟩/\g<w.heap.size/\w.cell? ⟨g,o+i,none⟩=some (.int .i64 x):=by
 obtain⟨a,c,rfl,h1,h2,h3⟩:=h.ex;rw[zs_length]at *;exact⟨a,c,rfl,h1,by unfold maxLen at h2;omega,fun i x hx=>h3 i _ (z0c hx)⟩
open Go.ChangeShapes Go.WideShapes Go.ChangeAt
open Go.ChangeMaps (open_string shut_string)
def q0z {H:Type}{enc:TypeId×Value->H}{P:Program}{r:Reach}{b0:Nat}{w:World}{t e:TypeId}{v:Value}{d:DataW H}{p:List MemPlace}(ht:P.underlying t=some (.slice e))(he:P.underlying e=some (.int .i64))(hc:P.cellsOf e=1)
 (hv:Value.okWide P w r b0 t v) (h:DataW.Trod enc P w 0 (fun _=>true) true t v d p):∃ l,Row w v (zs l)/\∀ x∈l,-9223372036854775808<=x/\x<=9223372036854775807:=by
 obtain⟨a0,len,cap,rfl⟩:=okWide_slice ht hv;obtain⟨fuel,hf⟩:=h;rcases open_ints ht he hc hf with ⟨hcs,-⟩ | ⟨a,len',cap',ss,hcs,-,hl,hm,hz,-,hcell,hws⟩
 .simp[Value.cells]at hcs;obtain⟨rfl,rfl,rfl⟩:=hcs;exact⟨[],Row.nil w,by simp⟩
 .simp[Value.cells]at hcs;obtain⟨rfl,rfl,rfl⟩:=hcs;simp at hz;refine⟨ss.take len,⟨some a,cap,?_,?_,hm,fun i x hx=>?_⟩,fun x hx=>(Lit.wf_int_iff .i64 x).1 (hws x (Gz hx))⟩
  .rw[zs_length,K5 (by omega)]
  .rw[zs_length,K5 (by omega)];exact hl
  .have hi:=(O4.1 hx).1;rw[zs_length,K5 (by omega)]at hi;obtain⟨b,off,spot⟩:=a;have hspot:spot=none:=by
    have h0:=hcell 0 (by omega);simpa[Addr.add]using World.cell?_spot h0
   subst hspot;have hc2:=hcell i (by omega);rw[Go.WideShapes.add_plain]at hc2;refine⟨b,off,rfl,Ek w _ hc2,?_⟩;rw[hc2,<- hx];simp only[zs,Ck,Bu];rw[U0 (by omega),J2];obtain⟨y,hy⟩:∃ y,ss[i]?=some y:=⟨_,J0 (by omega)⟩;rw[hy]
   rfl
end
end Go.Proofs.YtfkpfpobmobnbaaGreatDoor
namespace Go.Proofs
open Go.Shelf
def Tryz.laysC172_ren:Go.Shelf.Ren:=⟨fun | 172=>163 | 244=>227 | 245=>228 | 247=>290 | 279=>291 | 280=>292 | 281=>293 | 282=>294 | 287=>328 | 316=>329 | 171=>64 | 205=>330 | 321=>346 | 322=>347 | 243=>166 | 246=>230 | 283=>295 | 284=>296 | 285=>297 | 286=>298 | 129=>240 | 317=>331 | 318=>332 | 319=>333 | 320=>334 | 337=>348 | 338=>349 | n=>n,fun | 9=>9 | 3=>3 | 75=>169 | 76=>170 | 4=>4 | 5=>5 | 167=>278 | 37=>210 | 0=>0 | 85=>279 | 2=>2 | 168=>281 | 53=>161 | 175=>299 | 46=>174 | 210=>315 | 127=>306 | 145=>336 | 143=>334 | 21=>21 | 171=>284 | 173=>286 | 212=>319 | 51=>224 | 20=>20 | 213=>320 | 232=>344 | 233=>345 | 80=>192 | n=>n,fun | 15=>0 | 16=>1 | 17=>2 | 18=>6 | 19=>7 | n=>n⟩
theorem Tryz.laysC172:Go.Proofs.LaysC.n172 Tryz.prog Tryz.laysC172_ren:={
 mixed:=by kernel_rfl
 f129:=Iy.trans (congrArg some (by kernel_rfl))
 f171:=Tryz.func64.trans (congrArg some (by kernel_rfl))
 f172:=Tryz.func163.trans (congrArg some (by kernel_rfl))
 f205:=Tryz.func330.trans (congrArg some (by kernel_rfl))
 f243:=Tryz.func166.trans (congrArg some (by kernel_rfl))
 f244:=Tryz.func227.trans (congrArg some (by kernel_rfl))
 f245:=Tryz.func228.trans (congrArg some (by kernel_rfl))
 f246:=Tryz.func230.trans (congrArg some (by kernel_rfl))
 f247:=Tryz.func290.trans (congrArg some (by kernel_rfl))
 f279:=Tryz.func291.trans (congrArg some (by kernel_rfl))
 f280:=Tryz.func292.trans (congrArg some (by kernel_rfl))
 f281:=Tryz.func293.trans (congrArg some (by kernel_rfl))
 f282:=Tryz.func294.trans (congrArg some (by kernel_rfl))
 f283:=Mr.trans (congrArg some (by kernel_rfl))
 f284:=Ms.trans (congrArg some (by kernel_rfl))
 f285:=Mt.trans (congrArg some (by kernel_rfl))
 f286:=Tryz.func298.trans (congrArg some (by kernel_rfl))
 f287:=Tryz.func328.trans (congrArg some (by kernel_rfl))
 f316:=Tryz.func329.trans (congrArg some (by kernel_rfl))
 f317:=Mu.trans (congrArg some (by kernel_rfl))
 f318:=Mv.trans (congrArg some (by kernel_rfl))
 f319:=Tryz.func333.trans (congrArg some (by kernel_rfl))
 f320:=Tryz.func334.trans (congrArg some (by kernel_rfl))
 f321:=Tryz.func346.trans (congrArg some (by kernel_rfl))
 f322:=Tryz.func347.trans (congrArg some (by kernel_rfl))
 f337:=Tryz.func348.trans (congrArg some (by kernel_rfl))
 f338:=Tryz.func349.trans (congrArg some (by kernel_rfl))
 t0:=Dz
 a0:=Hf
 z0:=Gp
 v0:=El
 t2:=Lg
 a2:=Tryz.isAgg2
 z2:=Tryz.sizeOf2
 v2:=Md
 t3:=U8
 a3:=Ex
 z3:=Ed
 v3:=Ci
 t4:=Bm
 a4:=Fo
 z4:=Ev
 v4:=Cv
 t5:=Bn
 a5:=Gh
 z5:=Fe
 v5:=Dj
 t9:=Aq
 a9:=Ey
 z9:=Ee
 v9:=Cj
 t20:=Hu
 a20:=Mw
 z20:=Lp
 v20:=Im
 t21:=Kb
 a21:=Tryz.isAgg21
 z21:=Tryz.sizeOf21
 v21:=Lf
 t37:=Dh
 a37:=Hv
 z37:=Hi
 v37:=Gc
 t46:=Df
 a46:=Fv
 z46:=Fa
 v46:=Dq
 t51:=Du
 a51:=Gt
 z51:=Fz
 v51:=Eg
 t53:=Dg
 a53:=Gq
 z53:=Fy
 v53:=Ef
 t75:=Hl
 a75:=Tryz.isAgg169
 z75:=Tryz.sizeOf169
 v75:=Kc
 t76:=Tryz.underlying170
 a76:=Tryz.isAgg170
 z76:=Tryz.sizeOf170
 v76:=Tryz.zeroValue170
 t85:=Tryz.underlying279
 a85:=Tryz.isAgg279
 z85:=Tryz.sizeOf279
 v85:=Tryz.zeroValue279
 t127:=Jg
 a127:=Tryz.isAgg306
 z127:=Tryz.sizeOf306
 v127:=Kd
 t143:=Tryz.underlying334
 a143:=Tryz.isAgg334
 z143:=Tryz.sizeOf334
 v143:=Tryz.zeroValue334
 t145:=Tryz.underlying336
 a145:=Tryz.isAgg336
 z145:=Tryz.sizeOf336
 v145:=Tryz.zeroValue336
 t167:=Tryz.underlying278
 a167:=Tryz.isAgg278
 z167:=Tryz.sizeOf278
 v167:=Tryz.zeroValue278
 t168:=Tryz.underlying281
 a168:=Tryz.isAgg281
 z168:=Tryz.sizeOf281
 v168:=Tryz.zeroValue281
 t171:=Gr
 a171:=Tryz.isAgg284
 z171:=Tryz.sizeOf284
 v171:=Ke
 t173:=Jh
 a173:=Tryz.isAgg286
 z173:=Tryz.sizeOf286
 v173:=Kf
 t175:=Tryz.underlying299
 a175:=Tryz.isAgg299
 z175:=Tryz.sizeOf299
 v175:=Tryz.zeroValue299
 t210:=Tryz.underlying315
 a210:=Tryz.isAgg315
 z210:=Tryz.sizeOf315
 v210:=Tryz.zeroValue315
 t212:=Gs
 a212:=Lq
 z212:=Kq
 v212:=Hw
 t213:=Ji
 a213:=Tryz.isAgg320
 z213:=Tryz.sizeOf320
 t232:=Jj
 a232:=Tryz.isAgg344
 z232:=Tryz.sizeOf344
 v232:=Kg
 t233:=Jk
 a233:=Tryz.isAgg345
 z233:=Tryz.sizeOf345
 v233:=Kh
 g15:=by kernel_rfl
 g16:=by kernel_rfl
 g17:=by kernel_rfl
 g18:=by kernel_rfl
 g19:=by kernel_rfl
 t80:=Tryz.underlying192
 a80:=Tryz.isAgg192
 z80:=Tryz.sizeOf192
 v80:=Tryz.zeroValue192
 i0:=by kernel_rfl
 i2:=by kernel_rfl
 i3:=by kernel_rfl
 i4:=by kernel_rfl
 i5:=by kernel_rfl
 i9:=by kernel_rfl
 i20:=by kernel_rfl
 i21:=by kernel_rfl
 i37:=by kernel_rfl
 i46:=by kernel_rfl
 i51:=by kernel_rfl
 i53:=by kernel_rfl
 i75:=by kernel_rfl
 i76:=by kernel_rfl
 i80:=by kernel_rfl
 i85:=by kernel_rfl
 i127:=by kernel_rfl
 i143:=by kernel_rfl
 i145:=by kernel_rfl
 i167:=by kernel_rfl
 i168:=by kernel_rfl
 i171:=by kernel_rfl
 i173:=by kernel_rfl
 i175:=by kernel_rfl
 i210:=by kernel_rfl
 i212:=by kernel_rfl
 i232:=by kernel_rfl
 i233:=by kernel_rfl
 m15:=by kernel_rfl
 m16:=by kernel_rfl
 m17:=by kernel_rfl
 m18:=by kernel_rfl
 m19:=by kernel_rfl
 c0:=by kernel_rfl
 c2:=by kernel_rfl
 c3:=by kernel_rfl
 c4:=by kernel_rfl
 c5:=by kernel_rfl
 c9:=by kernel_rfl
 c20:=by kernel_rfl
 c21:=by kernel_rfl
 c37:=by kernel_rfl
 c46:=by kernel_rfl
 c51:=by kernel_rfl
 c53:=by kernel_rfl
 c75:=by kernel_rfl
 c76:=by kernel_rfl
 c80:=by kernel_rfl
 c85:=by kernel_rfl
 c127:=by kernel_rfl
 c143:=by kernel_rfl
 c145:=by kernel_rfl
 c167:=by kernel_rfl
 c168:=by kernel_rfl
 c171:=by kernel_rfl
 c173:=by kernel_rfl
 c175:=by kernel_rfl
 c210:=by kernel_rfl
 c212:=by kernel_rfl
 c213:=by kernel_rfl
 c232:=by kernel_rfl
 c233:=by kernel_rfl }
def Tryz.lays172_ren:Go.Shelf.Ren:=⟨fun | 172=>163 | 244=>227 | 245=>228 | 247=>290 | 279=>291 | 280=>292 | 281=>293 | 282=>294 | 287=>328 | 316=>329 | 171=>64 | 205=>330 | 321=>346 | 322=>347 | 243=>166 | 246=>230 | 283=>295 | 284=>296 | 285=>297 | 286=>298 | 129=>240 | 317=>331 | 318=>332 | 319=>333 | 320=>334 | 337=>348 | 338=>349 | n=>n,fun | 9=>9 | 3=>3 | 75=>169 | 76=>170 | 4=>4 | 5=>5 | 167=>278 | 37=>210 | 0=>0 | 85=>279 | 2=>2 | 168=>281 | 53=>161 | 175=>299 | 46=>174 | 210=>315 | 127=>306 | 145=>336 | 143=>334 | 21=>21 | 171=>284 | 173=>286 | 212=>319 | 51=>224 | 20=>20 | 213=>320 | 232=>344 | 233=>345 | 80=>192 | n=>n,fun | 15=>0 | 16=>1 | 17=>2 | 18=>6 | 19=>7 | n=>n⟩
theorem Tryz.lays172:Go.Proofs.Lays.n172 Tryz.prog Tryz.lays172_ren:={
 mixed:=by kernel_rfl
 f129:=Iy.trans (congrArg some (by kernel_rfl))
 f171:=Tryz.func64.trans (congrArg some (by kernel_rfl))
 f172:=Tryz.func163.trans (congrArg some (by kernel_rfl))
 f205:=Tryz.func330.trans (congrArg some (by kernel_rfl))
 f243:=Tryz.func166.trans (congrArg some (by kernel_rfl))
 f244:=Tryz.func227.trans (congrArg some (by kernel_rfl))
 f245:=Tryz.func228.trans (congrArg some (by kernel_rfl))
 f246:=Tryz.func230.trans (congrArg some (by kernel_rfl))
 f247:=Tryz.func290.trans (congrArg some (by kernel_rfl))
 f279:=Tryz.func291.trans (congrArg some (by kernel_rfl))
 f280:=Tryz.func292.trans (congrArg some (by kernel_rfl))
 f281:=Tryz.func293.trans (congrArg some (by kernel_rfl))
 f282:=Tryz.func294.trans (congrArg some (by kernel_rfl))
 f283:=Mr.trans (congrArg some (by kernel_rfl))
 f284:=Ms.trans (congrArg some (by kernel_rfl))
 f285:=Mt.trans (congrArg some (by kernel_rfl))
 f286:=Tryz.func298.trans (congrArg some (by kernel_rfl))
 f287:=Tryz.func328.trans (congrArg some (by kernel_rfl))
 f316:=Tryz.func329.trans (congrArg some (by kernel_rfl))
 f317:=Mu.trans (congrArg some (by kernel_rfl))
 f318:=Mv.trans (congrArg some (by kernel_rfl))
 f319:=Tryz.func333.trans (congrArg some (by kernel_rfl))
 f320:=Tryz.func334.trans (congrArg some (by kernel_rfl))
 f321:=Tryz.func346.trans (congrArg some (by kernel_rfl))
 f322:=Tryz.func347.trans (congrArg some (by kernel_rfl))
 f337:=Tryz.func348.trans (congrArg some (by kernel_rfl))
 f338:=Tryz.func349.trans (congrArg some (by kernel_rfl))
 t0:=Dz
 a0:=Hf
 z0:=Gp
 v0:=El
 t2:=Lg
 a2:=Tryz.isAgg2
 z2:=Tryz.sizeOf2
 v2:=Md
 t3:=U8
 a3:=Ex
 z3:=Ed
 v3:=Ci
 t4:=Bm
 a4:=Fo
 z4:=Ev
 v4:=Cv
 t5:=Bn
 a5:=Gh
 z5:=Fe
 v5:=Dj
 t9:=Aq
 a9:=Ey
 z9:=Ee
 v9:=Cj
 t20:=Hu
 a20:=Mw
 z20:=Lp
 v20:=Im
 t21:=Kb
 a21:=Tryz.isAgg21
 z21:=Tryz.sizeOf21
 v21:=Lf
 t37:=Dh
 a37:=Hv
 z37:=Hi
 v37:=Gc
 t46:=Df
 a46:=Fv
 z46:=Fa
 v46:=Dq
 t51:=Du
 a51:=Gt
 z51:=Fz
 v51:=Eg
 t53:=Dg
 a53:=Gq
 z53:=Fy
 v53:=Ef
 t75:=Hl
 a75:=Tryz.isAgg169
 z75:=Tryz.sizeOf169
 v75:=Kc
 t76:=Tryz.underlying170
 a76:=Tryz.isAgg170
 z76:=Tryz.sizeOf170
 v76:=Tryz.zeroValue170
 t85:=Tryz.underlying279
 a85:=Tryz.isAgg279
 z85:=Tryz.sizeOf279
 v85:=Tryz.zeroValue279
 t127:=Jg
 a127:=Tryz.isAgg306
 z127:=Tryz.sizeOf306
 v127:=Kd
 t143:=Tryz.underlying334
 a143:=Tryz.isAgg334
 z143:=Tryz.sizeOf334
 v143:=Tryz.zeroValue334
 t145:=Tryz.underlying336
 a145:=Tryz.isAgg336
 z145:=Tryz.sizeOf336
 v145:=Tryz.zeroValue336
 t167:=Tryz.underlying278
 a167:=Tryz.isAgg278
 z167:=Tryz.sizeOf278
 v167:=Tryz.zeroValue278
 t168:=Tryz.underlying281
 a168:=Tryz.isAgg281
 z168:=Tryz.sizeOf281
 v168:=Tryz.zeroValue281
 t171:=Gr
 a171:=Tryz.isAgg284
 z171:=Tryz.sizeOf284
 v171:=Ke
 t173:=Jh
 a173:=Tryz.isAgg286
 z173:=Tryz.sizeOf286
 v173:=Kf
 t175:=Tryz.underlying299
 a175:=Tryz.isAgg299
 z175:=Tryz.sizeOf299
 v175:=Tryz.zeroValue299
 t210:=Tryz.underlying315
 a210:=Tryz.isAgg315
 z210:=Tryz.sizeOf315
 v210:=Tryz.zeroValue315
 t212:=Gs
 a212:=Lq
 z212:=Kq
 v212:=Hw
 t213:=Ji
 a213:=Tryz.isAgg320
 z213:=Tryz.sizeOf320
 t232:=Jj
 a232:=Tryz.isAgg344
 z232:=Tryz.sizeOf344
 v232:=Kg
 t233:=Jk
 a233:=Tryz.isAgg345
 z233:=Tryz.sizeOf345
 v233:=Kh
 g15:=by kernel_rfl
 g16:=by kernel_rfl
 g17:=by kernel_rfl
 g18:=by kernel_rfl
 g19:=by kernel_rfl }
theorem Tryz.strconv_Atoi (s:ByteArray)(n:Int)(hl:s.size<=18)(h:Lib.atoi s.data.toList=some n)(w:World):
 Calls Tryz.prog 163 #[.string s] w fun e w'=>e=.returned (.tuple #[.int .i64 n,.nilIface])/\∃ t,w'=Lib.bytesWorld w 5 t:=Any.strconv_Atoi Tryz.lays172 s n hl h w
end Go.Proofs
namespace Go.Proofs.YtfkpfpobmobnbaaGreatDoor
section
open Go.RowKit
open Go.Lib (decDigits nDigits)
def s0K (n:Nat):Value:=.string ⟨(decDigits n).toArray⟩
def k0c (n:Nat):Int:=if 4000<nDigits n then 5 else 0
def p0S {n:Nat}(h:4000<nDigits n):k0c n=5:=by rw[k0c,U0 h]
def w0M {n:Nat}(h:¬ 4000<nDigits n):k0c n=0:=by rw[k0c,Q0 h]
def t0n {a b:Value}{x y:Int}{k:IntKind}(h1:a=b)(h2:x=y):Ending.returned (.tuple #[a,.int k x])=.returned (.tuple #[b,.int k y]):=by rw[h1,h2]
def a0g (n:Nat):ByteArray:=⟨(decDigits n).toArray⟩
def b0o (n:Nat):s0K n=.string (a0g n):=rfl
def a0t (n:Nat):(a0g n).size=nDigits n:=by
 unfold a0g ByteArray.size;simp[C9]
def a0x (n:Nat):(a0g n).data.toList=decDigits n:=by simp[a0g]
def Mf:=@Nat.pow_mul
def i0S {n L:Nat}(h:(limbs n).length<=L)(hL:0<L):nDigits n<=9*L:=by
 refine a0j (by omega) ?_;have:=a0f.1 h;rwa[show (1000000000:Nat)=10 ^ 9 by rfl,<- Mf]at this
def k0N (s t:List UInt8):Int:=if c0h s=0/\c0h t=0 then b0e (dv s) (dv t) else 0
def cW (s:ByteArray):ByteArray:=⟨(Lib.cut s.data.toList [47]).1.toArray⟩
def cB (s:ByteArray):ByteArray:=⟨(Lib.cut s.data.toList [47]).2.1.toArray⟩
def cS (s:ByteArray):Bool:=(Lib.cut s.data.toList [47]).2.2
def iM (s:ByteArray):Bool:=Lib.hasPrefix s.data.toList [45]
def iD (s:ByteArray):ByteArray:=⟨(Lib.trimPrefix s.data.toList [45]).toArray⟩
def fB (s:ByteArray):Bool:=c0T s.data.toList
def bN (s:ByteArray):Nat:=dv s.data.toList
def iB (s:ByteArray):Bool:=fB (iD s) && !(iM s && decide (iD s=⟨#[48]⟩))
def qD (s:ByteArray):ByteArray:=if cS s=true then cB s else ⟨#[49]⟩
def qB (s:ByteArray):Bool:=iB (cW s) && (!cS s || (decide (iD (cW s)≠⟨#[48]⟩) && fB (cB s) && decide (cB s≠⟨#[48]⟩) && decide (cB s≠⟨#[49]⟩)))
def qL (s:ByteArray):Bool:=decide (4000<(iD (cW s)).size) || decide (4000<(qD s).size)
def qG (s:ByteArray):Bool:=cS s && !decide (Nat.gcd (bN (iD (cW s))) (bN (qD s))=1)
def qE (s:ByteArray):Int:=if qB s=false then 3 else if qL s=true then 5 else if qG s=true then 3 else 0
def j0s {l:List UInt8}(h:allDig l){L:Nat}(hl:l.length<=9*L):(limbs (dv l)).length<=L:=by
 refine a0f.2 (H6 (u0J h) ?_);refine E0 (Z4 (by omega) hl) ?_;rw[show (1000000000:Nat)=10 ^ 9 by rfl,<- Mf];exact Z3 _
def e0P {s:ByteArray}(h:fB s=true):allDig s.data.toList:=(a0V.1 h).2.2
def d0e {s:ByteArray}(h:iB s=true):fB (iD s)=true:=by
 unfold iB at h;simp only[I9]at h;exact h.1
def c0p {s:ByteArray}(h:qB s=true):iB (cW s)=true:=by
 unfold qB at h;simp only[I9]at h;exact h.1
def M9:=@Bool.or_eq_true
def Au:=@Bool.not_eq_true'
def i0M {s:ByteArray}(h:qB s=true):fB (qD s)=true:=by
 unfold qB at h;simp only[I9,M9,Au]at h;unfold qD;rcases h.2 with h2 | h2
 .rw[h2];rfl
 .split
  .exact h2.1.1.2
  .rfl
def b1C {s:ByteArray}(h1:qB s=true)(h2:qL s=false)(h3:qG s=false):qE s=0:=by simp[qE,h1,h2,h3]
def i0L {s:ByteArray}(h:qE s=0):qB s=true/\qL s=false/\qG s=false:=by
 unfold qE at h;cases h1:qB s<;>cases h2:qL s<;>cases h3:qG s<;>simp[h1,h2,h3]at h |-
def Ay:=@Array.length_toList
def Ae:=@List.size_toArray
def j0z (s:ByteArray):(cW s).size<=s.size:=by
 have e:s.data.toList.length=s.size:=Ay;unfold cW Lib.cut
 split<;>simp only[ByteArray.size,Ae,Cg]<;>(simp only[ByteArray.size]at e;omega)
def m0b (s:ByteArray):(cB s).size<=s.size:=by
 have e:s.data.toList.length=s.size:=Ay;unfold cB Lib.cut
 split
 .simp only[ByteArray.size,Ae,S9];simp only[ByteArray.size]at e;omega
 .exact J5 _
def r0x (s:ByteArray):(iD s).size<=s.size:=by
 have e:s.data.toList.length=s.size:=Ay;unfold iD Lib.trimPrefix
 split<;>simp only[ByteArray.size,Ae,S9]<;>(simp only[ByteArray.size]at e;omega)
def Nu:=@Nat.succ_le_succ
def q0h (s:ByteArray):(qD s).size<=s.size+1:=by
 have:=m0b s;unfold qD
 split
 .omega
 .exact Nu (J5 _)
end
section
open Go.RowKit Go.Shelf Go.Lib
def b1o:List UInt8:=[48,49,50,51,52,53,54,55,56,57]
def Bc:=@Bool.eq_iff_iff
def Em:=@UInt8.toNat_inj
def n0a (b:UInt8):b1o.contains b=h0D b:=by
 rw[Bc,List.contains_iff_mem,a0U];simp only[b1o,Az,<- Em,List.not_mem_nil,or_false];simp;omega
def Nv:=@List.mem_reverse
def m0k {l cs:List UInt8}:trimS l cs = [] ↔ ∀ b∈l,cs.contains b=true:=by
 have key:∀ m:List UInt8,m.dropWhile (cs.contains ·) = [] ↔ ∀ b∈m,cs.contains b=true:=by
  intro m
  induction m with
  | nil=>simp
  | cons x r ih=>
   by_cases hx:cs.contains x=true
   .rw[List.dropWhile_cons_of_pos hx,ih];simp at hx;simp[hx]
   .rw[List.dropWhile_cons_of_neg hx];simp at hx;simp[hx]
 unfold trimS trimLeftS trimRightS;rw[key]
 constructor
 .intro h;have h2:l.reverse.dropWhile (cs.contains ·) = []:=by
   cases hm:l.reverse.dropWhile (cs.contains ·) with
   | nil=>rfl
   | cons x r=>
    exfalso
    have hx:cs.contains x=true:=h x (by rw[hm];simp);have:=List.head?_dropWhile_not (cs.contains ·) l.reverse;rw[hm]at this;simp only[List.head?_cons]at this;rw[hx]at this;cases this
  rw[key]at h2;exact fun b hb=>h2 b (Nv.2 hb)
 .intro h b hb;have:b∈l.reverse:=by
   have hs:=List.dropWhile_sublist (l:=l.reverse) (cs.contains ·);exact hs.subset (Nv.1 hb)
  exact h b (Nv.1 this)
def Ar:=@List.all_eq_true
def Ii:=@Decidable.byContradiction
def k0B {b:UInt8}{r:List UInt8}(h:¬ (b=48/\r ≠ [])):c0T (b::r)=(trimS (b::r) b1o).isEmpty:=by
 have e:(trimS (b::r) b1o).isEmpty=(b::r).all h0D:=by
  rw[Bc,List.isEmpty_iff,m0k,Ar];exact⟨fun h x hx=>(n0a x) ▸ h x hx,fun h x hx=>(n0a x).symm ▸ h x hx⟩
 rw[e,c0T];have:((b::r) == [48] || (b::r).head? != some 48)=true:=by
  by_cases hb:b=48
  .have hr:r = []:=Ii fun hr=>h ⟨hb,hr⟩
   subst hb;subst hr;rfl
  .simp[hb]
 rw[this];simp
def r0I {c:UInt8}{r:List UInt8}:c0T (48::c::r)=false:=by simp[c0T]
def o0P:∀ (j:Nat) b,(⟨#[48,49,50,51,52,53,54,55,56,57]⟩:ByteArray).data.toList[j]?=some b->b.toNat<128:=ascii_of_all (by decide)
def a1p (w:World)(s:ByteArray)(hs:s.size<=100000000):
 Calls Tryz.prog 251 #[.string s] w fun e w'=>e=.returned (.bool (c0T s.data.toList))/\Below w.heap.size w w':=by
 obtain⟨⟨l⟩⟩:=s;simp only[ByteArray.size,Ae]at hs;cases l with
 | nil=>
  go_enter Tryz.func251,Tryz.ntmps251;go_wp2_with fail;go_ret
  exact⟨rfl,J3 _ _⟩
 | cons b r=>
  have hix:(ByteArray.mk ⟨b::r⟩)[0]'(by simp[ByteArray.size])=b:=rfl;have htr:=fun w=>Tryz.strings_Trim ⟨⟨b::r⟩⟩ ⟨#[48,49,50,51,52,53,54,55,56,57]⟩ w (by simp only[ByteArray.size,Ae];omega) (by decide) o0P
  have HTR:=hid htr;clear htr;by_cases hb:b=48
  .cases r with
   | nil=>
    subst hb;go_enter Tryz.func251,Tryz.ntmps251
    go_wp2_with (first
     | (go_at_call 204;refine (HTR.out _).mono ?_;rintro e w' ⟨rfl,hbw⟩)
     | fail)
    go_ret
    refine⟨?_,hbw⟩;rw[k0B (by simp)]
    rfl
   | cons c r=>
    subst hb;go_enter Tryz.func251,Tryz.ntmps251;go_wp2_with fail;go_ret
    refine⟨?_,J3 _ _⟩;rw[r0I]
    rfl
  .have hb1:(b==48)=false:=by simpa using hb
   have hb2:¬ ((b.toNat:Int)=48):=fun e=>hb (by apply Em.1;simp;omega)
   have hb3:((b.toNat:Int) != 48)=true:=by simpa using hb2
   go_enter Tryz.func251,Tryz.ntmps251
   go_wp2_with (first
    | (go_at_call 204;refine (HTR.out _).mono ?_;rintro e w' ⟨rfl,hbw⟩)
    | fail)
   go_ret
   refine⟨?_,hbw⟩;rw[k0B (by simp[hb])]
   rfl
end
section
open Go.RowKit Go.Shelf
def U4:=@beq_eq_false_iff_ne
def Cw:=@Go.Lib.toList_data
def Ls:=@ByteArray.ext
theorem a0I {d:ByteArray}{l:List UInt8}(h:¬ d=⟨l.toArray⟩):(d.toList==l)=false:=by
 rw[U4];intro e;apply h
 have e2:d.data.toList=l:=by rw[<- e];exact (Cw d).symm
 apply Ls
 rw[<- e2]
def k0x (w:World)(s:ByteArray)(hs:s.size<=100000000):
 Calls Tryz.prog 251 #[.string s] w fun e w'=>e=.returned (.bool (fB s))/\Below w.heap.size w w':=a1p w s hs
def a1n (w:World)(s:ByteArray):
 Calls Tryz.prog 308 #[.string s,.string ⟨#[45]⟩] w fun e w'=>e=.returned (.tuple #[.string (iD s),.bool (iM s)])/\w'=w:=Tryz.strings_CutPrefix s ⟨#[45]⟩ w
theorem gn{α:Sort _}(x:α):∃ y,x=y:=⟨_,rfl⟩
def k0D (w:World)(s:ByteArray)(hs:s.size<=100000000):
 Calls Tryz.prog 250 #[.string s] w fun e w'=>e=.returned (.tuple #[.bool (iM s),.string (iD s),.bool (iB s)])/\Below w.heap.size w w':=by
 have HI:=hid (show iB s=(fB (iD s) && !(iM s && decide (iD s=⟨#[48]⟩))) from rfl);have hsz:=r0x s;obtain⟨m,hm⟩:=gn (iM s);obtain⟨d,hd⟩:=gn (iD s);obtain⟨f,hf⟩:=gn (fB d);rw[hm,hd,hf]at HI;rw[HI.out,hm,hd];rw[hd]at hsz;have HC:=hid (a1n w s);rw[hm,hd]at HC;have HF:=fun W=>hid (k0x W d (by omega))
 rw[hf]at HF;clear HI hm hd hf;have run:∀ r:Bool,(f && !(m && decide (d=⟨#[48]⟩)))=r->Calls Tryz.prog 250 #[.string s] w fun e w'=>e=.returned (.tuple #[.bool m,.string d,.bool r])/\Below w.heap.size w w':=by
  intro r hr;rcases Decidable.em (d=⟨#[48]⟩) with rfl | h0
  .simp only[decide_true,Bool.and_true]at hr;subst hr;cases f<;>cases m
   all_goals
    go_enter Tryz.func250,Tryz.ntmps250
    go_wp2_with (first
     | (go_at_call 308;refine HC.out.mono ?_;rintro e w' ⟨rfl,rfl⟩)
     | (go_at_call 251;refine (HF _).out.mono ?_;rintro e w' ⟨rfl,hbw⟩)
     | fail)
    go_ret3
    exact⟨rfl,hbw⟩
  have h48:=a0I (l:=[48]) h0;simp only[h0,decide_false,Bool.and_false,Bool.not_false,Bool.and_true]at hr;subst hr;cases f<;>cases m
  all_goals
   go_enter Tryz.func250,Tryz.ntmps250
   go_wp2_with (first
    | (go_at_call 308;refine HC.out.mono ?_;rintro e w' ⟨rfl,rfl⟩)
    | (go_at_call 251;refine (HF _).out.mono ?_;rintro e w' ⟨rfl,hbw⟩)
    | fail)
   go_ret3
   exact⟨rfl,hbw⟩
 exact run _ rfl
def f0h (w:World)(s:ByteArray)(hs:s.size<=100000000):
 Calls Tryz.prog 282 #[.string s] w fun e w'=>e=.returned (.int .i64 (c0h s.data.toList))/\Below w.heap.size w w':=by
 have hsz:s.data.toList.length=s.size:=Ay;by_cases hf:c0T s.data.toList=true
 focus
  by_cases hl:4000<s.size
  focus
   rw[k0E (a0V.1 hf) (by omega)];have q0:decide ((4000:Int)<(s.size:Int))=true:=by simp;omega
   have HF:=fun W=>hid (k0x W s hs)
   rw[show fB s=true from hf]at HF;clear hf hl hsz
  rotate_left
  focus
   rw[f0o (a0V.1 hf) (by omega)];have q0:decide ((4000:Int)<(s.size:Int))=false:=by simp;omega
   have HF:=fun W=>hid (k0x W s hs)
   rw[show fB s=true from hf]at HF;clear hf hl hsz
 rotate_left 2
 focus
  rw[e0Q (fun h=>hf (a0V.2 h))];have HF:=fun W=>hid (k0x W s hs)
  rw[show fB s=false from by unfold fB;simpa using hf]at HF;clear hf hsz
 all_goals
  go_enter Tryz.func282,Tryz.ntmps282
  go_wp2_with (first
   | (go_at_call 251;refine (HF _).out.mono ?_;rintro e w' ⟨rfl,hbw⟩)
   | fail)
  go_ret
  exact⟨rfl,hbw⟩
end
section
open Go.RowKit
def h0H (k:IntKind)(n:Nat)(e:Ending)(w':World):Prop:=∃ v,e=.returned v/\IsN k w' v n
def y0W (k:IntKind)(a:Option Addr)(c n:Nat)(e:Ending)(w':World):Prop:=∃ m,e=.returned (.slice a m c)/\IsN k w' (.slice a m c) n
def s0F (k:IntKind)(q r:Nat)(e:Ending)(w':World):Prop:=∃ v u,e=.returned (.tuple #[v,u])/\IsN k w' v q/\IsN k w' u r
def j0g:(Tryz.prog.info? 3).map (fun i=>(i.zero,i.size,i.bytes))=some (some (.int .i64 0),1,8):=by kernel_rfl
def f0O {k:IntKind}{w:World}{a:Option Addr}{n c m:Nat}{l:List Nat}(h:Row w (.slice a n c) (b0q k l))(hs:Sm l)(hm:m<=l.length)(hz:∀ j x,m<=j->l[j]?=some x->x=0)(hl:∀ x,0<m->l[m-1]?=some x->x≠0):
 IsN k w (.slice a m c) (val l):=by
 have hn:=h.len;rw[ints_length]at hn;have:=h.cut (m:=m) (by omega);rw[d0t,h0Z hs hm hz hl]at this;exact this
def c0O (w:World)(a:Option Addr)(c:Nat)(l:List Nat)(hs:Sm l)(h:Row w (.slice a l.length c) (b0q .i64 l)):
 Calls Tryz.prog 222 #[.slice a l.length c] w fun e w'=>y0W .i64 a c (val l) e w'/\w=w':=by
 obtain⟨a',c',e,h1,h2,h3⟩:=h.openI;simp at e;obtain⟨rfl,rfl⟩:=e;obtain⟨H,H3,HS⟩:=zc h h3 hs;clear h h3 hs;go_enter Tryz.func222,Tryz.ntmps222;go_wp2_with fail
 go_loop [0] (fun u=>∃ m:Nat,m<=l.length/\u=.slice a m c/\Hid (∀ j x,m<=j->l[j]?=some x->x=0)) (fun u=>match u with | .slice _ m _=>m | _=>0)
 case atStart=>exact⟨l.length,Z3 _,rfl,fun j x hj hx=>by have:=(O4.1 hx).1;omega⟩
 case round=>
  obtain⟨m,hm,rfl,hz⟩:=hrel;rcases H7 m with h0 | h0
  .subst h0;go_wp2_with fail;go_ret
   exact⟨⟨_,rfl,f0O H.out HS.out hm hz.out (fun x h=>absurd h (by omega))⟩,rfl⟩
  .obtain⟨x,hx⟩:∃ x,l[m-1]?=some x:=⟨_,J0 (by omega)⟩;obtain⟨g,o,rfl,hg,hc⟩:=H3.out (m-1) _ hx;have HX:=hid hx;clear hx;rcases H7 x with hx0 | hx0
   .have hb:((x:Int)==0)=true:=by simp[hx0]
    have HX0:=hid hx0;clear hx0;go_wp2_with fail;go_round
    case rel=>
     exact⟨m-1,by omega,by go_num,fun j y hj hy=>by
      by_cases e:j=m-1
      .subst e;have:=HX.out;rw[hy]at this;cases this;exact HX0.out
      .exact hz.out j y (by omega) hy⟩
    case measure=>simp;omega
   .have hb:((x:Int)==0)=false:=by simp;omega
    go_wp2_with fail;go_ret
    exact⟨⟨_,rfl,f0O H.out HS.out hm hz.out (fun y _ hy=>by have:=HX.out;rw[hy]at this;cases this;omega)⟩,rfl⟩
def l0q (w:World)(v:Value)(l:List Nat)(hs:Sm l)(h:Row w v (b0q .i64 l)):
 Calls Tryz.prog 222 #[v] w fun e w'=>h0H .i64 (val l) e w'/\w=w':=by
 obtain⟨a,c,rfl,h1,h2,h3⟩:=h.openI;exact (c0O w a c l hs h).mono fun e w' ⟨⟨m,he,hi⟩,hw⟩=>⟨⟨_,he,hi⟩,hw⟩
def RetFr (B:Nat)(k:IntKind)(n:Nat)(e:Ending)(w':World):Prop:=∃ v,e=.returned v/\IsN k w' v n/\∀ g,v.ownBlock=some g->B<=g
theorem RetFr.ret {B:Nat}{k:IntKind}{n:Nat}{e:Ending}{w':World}(h:RetFr B k n e w'):h0H k n e w':=by
 obtain⟨v,h1,h2,-⟩:=h;exact⟨v,h1,h2⟩
def g0i:(Tryz.prog.info? 161).map (fun i=>(i.zero,i.size,i.bytes))=some (some (.int .u64 0),1,8):=by kernel_rfl
def Lu:=@Go.run_make_row'
def Fl:=@Go.Proofs.Tryz.underlying124
def g0h (n:Nat)(hn:n<=3000000)(W:World):(Instr.makeSlice 124 (.int .i64 (n:Int)) (.int .i64 (n:Int))).run Tryz.prog W=.ok (.slice (some ⟨W.heap.size,0,none⟩) n n) (W.alloc (.cells (madeCells #[.int .u64 0] n) 161)):=
 Lu (P:=Tryz.prog) 124 161 (.int .u64 0) 8 Fl (by kernel_rfl) rfl .i64 .i64 n (by omega) (by omega) W
def k0w (w:World)(a:Option Addr)(c:Nat)(l:List Nat)(hs:Sm l)(h:Row w (.slice a l.length c) (b0q .u64 l)):
 Calls Tryz.prog 254 #[.slice a l.length c] w fun e w'=>y0W .u64 a c (val l) e w'/\w=w':=by
 obtain⟨a',c',e,h1,h2,h3⟩:=h.openI;simp at e;obtain⟨rfl,rfl⟩:=e;obtain⟨H,H3,HS⟩:=zc h h3 hs;clear h h3 hs;go_enter Tryz.func254,Tryz.ntmps254;go_wp2_with fail
 go_loop [0] (fun u=>∃ m:Nat,m<=l.length/\u=.slice a m c/\Hid (∀ j x,m<=j->l[j]?=some x->x=0)) (fun u=>match u with | .slice _ m _=>m | _=>0)
 case atStart=>exact⟨l.length,Z3 _,rfl,fun j x hj hx=>by have:=(O4.1 hx).1;omega⟩
 case round=>
  obtain⟨m,hm,rfl,hz⟩:=hrel;rcases H7 m with h0 | h0
  .subst h0;go_wp2_with fail;go_ret
   exact⟨⟨_,rfl,f0O H.out HS.out hm hz.out (fun x h=>absurd h (by omega))⟩,rfl⟩
  .obtain⟨x,hx⟩:∃ x,l[m-1]?=some x:=⟨_,J0 (by omega)⟩;obtain⟨g,o,rfl,hg,hc⟩:=H3.out (m-1) _ hx;have HX:=hid hx;clear hx;rcases H7 x with hx0 | hx0
   .have hb:((x:Int)==0)=true:=by simp[hx0]
    have HX0:=hid hx0;clear hx0;go_wp2_with fail;go_round
    case rel=>
     exact⟨m-1,by omega,by go_num,fun j y hj hy=>by
      by_cases e:j=m-1
      .subst e;have:=HX.out;rw[hy]at this;cases this;exact HX0.out
      .exact hz.out j y (by omega) hy⟩
    case measure=>simp;omega
   .have hb:((x:Int)==0)=false:=by simp;omega
    go_wp2_with fail;go_ret
    exact⟨⟨_,rfl,f0O H.out HS.out hm hz.out (fun y _ hy=>by have:=HX.out;rw[hy]at this;cases this;omega)⟩,rfl⟩
def v0E (w:World)(v:Value)(l:List Nat)(hs:Sm l)(h:Row w v (b0q .u64 l)):
 Calls Tryz.prog 254 #[v] w fun e w'=>h0H .u64 (val l) e w'/\w=w':=by
 obtain⟨a,c,rfl,h1,h2,h3⟩:=h.openI;exact (k0w w a c l hs h).mono fun e w' ⟨⟨m,he,hi⟩,hw⟩=>⟨⟨_,he,hi⟩,hw⟩
def w0k (l:List Nat):∃ m,m<=l.length/\(∀ j x,m<=j->l[j]?=some x->x=0)/\(∀ x,0<m->l[m-1]?=some x->x≠0):=by
 suffices H:∀ k,k<=l.length->(∀ j x,k<=j->l[j]?=some x->x=0)->∃ m,m<=l.length/\(∀ j x,m<=j->l[j]?=some x->x=0)/\(∀ x,0<m->l[m-1]?=some x->x≠0) from
  H l.length nr (fun j x hj hx=>by have:=(O4.1 hx).1;omega)
 intro k
 induction k with
 | zero=>exact fun _ h=>⟨0,J5 _,h,fun x h0=>absurd h0 (by omega)⟩
 | succ k ih=>
  intro hk h;by_cases h0:l[k]?=some 0
  .refine ih (by omega) (fun j x hj hx=>?_);by_cases e:j=k
   .subst e;rw[h0]at hx;cases hx;rfl
   .exact h j x (by omega) hx
  .exact⟨k+1,hk,h,fun x _ hx e=>h0 (by simpa[e]using hx)⟩
def h0N {l:List Nat}(hs:Sm l):(limbs (val l)).length<=l.length/\l.take (limbs (val l)).length=limbs (val l):=by
 obtain⟨m,h1,h2,h3⟩:=w0k l;have h:=h0Z hs h1 h2 h3;have hm:(limbs (val l)).length=m:=by rw[<- h,K5 h1]
 rw[hm];exact⟨h1,h⟩
def i0u {k:IntKind}{w:World}{a:Option Addr}{c:Nat}{l:List Nat}(hs:Sm l)(h:Row w (.slice a l.length c) (b0q k l)):IsN k w (.slice a (limbs (val l)).length c) (val l):=by
 obtain⟨h1,h2⟩:=h0N hs;have:=h.cut h1;rw[d0t,h2]at this;exact this
def e0K (w:World)(a:Option Addr)(c:Nat)(l:List Nat)(hs:Sm l)(h:Row w (.slice a l.length c) (b0q .u64 l)):
 Calls Tryz.prog 254 #[.slice a l.length c] w fun e w'=>e=.returned (.slice a (limbs (val l)).length c)/\w'=w:=
 (k0w w a c l hs h).mono fun e w' ⟨⟨m,he,hi⟩,hw⟩=>⟨by rw[he];have:=hi.len.1;rw[ints_length]at this;rw[this],hw.symm⟩
def l0z {n m:Nat}{s:List Nat}(h:limbs n=s++limbs m)(hm:0<m):limbs n=(s ++ [m%1000000000])++limbs (m / 1000000000):=by
 rw[h,b0w hm,Ai];rfl
def Cl:=@Go.info_parts
def Ba:=@Go.World.ownsRow_nil
def Bw:=@List.append_nil
def Bo:=@Go.wpList_append_own
def Eh:=@Go.cell_one_new
def c1j (w:World)(n:Nat)(hn:n<18446744073709551616):Calls Tryz.prog 197 #[.int .u64 n] w fun e w'=>h0H .u64 n e w'/\Below w.heap.size w w':=by
 obtain⟨i0,hi,hz0,hz1,hz2⟩:=Cl g0i;have HN:=hid hn;have hn2:(n:Int)<=18446744073709551615:=by omega
 clear hn;go_enter Tryz.func197,Tryz.ntmps197;go_wp2_with fail
 go_loopw [0,3] (fun nn o wr=>∃ (s:List Nat) (m:Nat),nn=.int .u64 m/\s.length<=3/\m<=n/\Hid (m=0\/s.length=0\/(s.length=1/\m<18446744074)\/(s.length=2/\m<19))/\Hid (limbs n=s++limbs m)/\Hid (wr.ownsRow w.heap.size 161 1 o s.length (b0q .u64 s))/\Hid (Below w.heap.size w wr)) (fun nn _ _=>(intOf nn).toNat)
 case atStart=>exact⟨[],n,rfl,by simp,Z3 _,.inr (.inl rfl),rfl,Ba _ _ _ _,J3 _ _⟩
 case round=>
  obtain⟨s,m,rfl,hs,hmn,hc,hl,hO,hB⟩:=hrel;obtain⟨ao,co,rfl⟩:=b0k hO.out;rcases H7 m with h0 | h0
  .subst h0;go_wp2_with fail;go_ret
   exact⟨⟨_,rfl,g0c hO.out (by have:=hl.out;rw[limbs_zero,Bw]at this;exact this.symm)⟩,hB.out⟩
  .have HL:=hid (l0z hl.out h0);have hs2:s.length<=2:=by rcases hc.out with h | h | h | h<;>omega
   have HC:=hid (show m / 1000000000=0\/(s ++ [m%1000000000]).length=0\/((s ++ [m%1000000000]).length=1/\m / 1000000000<18446744074)\/((s ++ [m%1000000000]).length=2/\m / 1000000000<19) from by
    have:=HN.out;rw[J4,E8];rcases hc.out with h | h | h | h<;>omega)
   go_wp2_with (at_builtin;refine Bo _ rfl _ _ 124 rfl w.heap.size 161 i0 (.int .u64 0) 1 8 Fl hi hz0 hz1 hz2 rfl (by decide) _ s.length _ rfl (hO.out.alloc _) ⟨wr.heap.size,0,none⟩ 1 1 [.int .u64 ((m:Int)%1000000000)] rfl rfl (Eh wr (.int .u64 ((m:Int)%1000000000)) 161) (by simp[Value.oneCell']) (by unfold maxLen;omega) (by omega) (by have:=hB.out.size;simp;omega) ?_;intro v' w3 hown3 hgrow3 _;have HO3:=hid hown3;have HG3:=hid hgrow3;clear hown3 hgrow3)
   obtain⟨n1,n2⟩:=e0D (z:=m%1000000000) hO.out hB.out HO3.out HG3.out;obtain⟨N1,N2⟩:=zg n1 n2;clear n1 n2 HO3 HG3;obtain⟨a3,k3,rfl⟩:=b0k N1.out;go_wp2_with fail;go_roundw
   case rel=>exact⟨s ++ [m%1000000000],m / 1000000000,by go_num,by simp<;>omega,by omega,HC,HL,N1,N2⟩
   case measure=>simp[intOf]<;>omega
end
end Go.Proofs.YtfkpfpobmobnbaaGreatDoor
