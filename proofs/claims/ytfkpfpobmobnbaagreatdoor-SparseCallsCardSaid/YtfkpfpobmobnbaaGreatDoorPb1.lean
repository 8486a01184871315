import Derived.Maps.RangeWalk
import Derived.WalkKit
import Derived.WalkSpells
import Derived.WalkLawsBesides
import Derived.LoopN
import Derived.StillTailTactics
import Derived.Deep.QuietTactic
import Derived.BigQuiet
import Derived.Deep.Draws
import Derived.Maps.AppendAt
import Derived.Deep.OwnRows
import Derived.Shelf.Small.Wraps
import Derived.Shelf.Strings.BuilderK
import Derived.Shelf.Pu.ParseUintPublic10
import Derived.Shelf.Strconv.Itoa3
import Derived.Shelf.Strings.SlTrimAscii
import Derived.Shelf.Strings.Shaped
import Derived.Ground.NamesProg
import Derived.Ground.MpProg
import Derived.Test.YtfkpfpobmobnbaaGreatDoorProg
import Derived.Lib.ItoaNum
import Derived.Lib.Atoi
import Derived.Lib.AppendIntMem
import Derived.Test.YtfkpfpobmobnbaaGreatDoorTie
import Derived.Test.YtfkpfpobmobnbaaGreatDoorCards
import Derived.ProofKit
import Derived.OpenShut
import Derived.ShutString
import Derived.Lib.SmallJoins
import Derived.LaidMore
import Derived.Lay
import Derived.Deep.DeepHandedRow
import Derived.JoinedCond
import Derived.SevenTiedAt
import Derived.Shelf.Vars
import Derived.SliceStrings
import Derived.ChangeSlices
import Derived.DataShut
import Derived.Shelf.SlicesE.Clone
import Derived.Shelf.SlicesE.Reverse
import Derived.Shelf.Strconv.AtoiErr
import Derived.Shelf.SlGeneric
import Derived.Ground.SlgnProg
import Derived.Shelf.Strconv.Atoi
import Derived.Lib.IndexMore
import Derived.Lib.Strings
import Derived.OwnWalk
import Derived.Outline
import Derived.IntWalk
set_option linter.all false
set_option maxRecDepth 100000
set_option maxHeartbeats 8000000
namespace Go.Proofs.YtfkpfpobmobnbaaGreatDoor
open Go.Proofs.Tryz Go.RowKit
open Go.Lib (decDigits nDigits)
theorem hid {p:Prop}(h:p):Hid p:=h
def Blk (w:World)(b:Nat)(cs:Array Value)(t:TypeId):Prop:=w.heap[b]?=some (.cells cs t (0,0))
def Ct:=@Nat.lt_or_ge
def Hy:=@Array.getElem?_eq_none
theorem Blk.lt {w:World}{b:Nat}{cs:Array Value}{t:TypeId}(h:Blk w b cs t):b<w.heap.size:=by
 unfold Blk at h;rcases Ct b w.heap.size with h' | h'
 .exact h'
 .rw[Hy h']at h;cases h
theorem Blk.cell {w:World}{b:Nat}{cs:Array Value}{t:TypeId}(h:Blk w b cs t)(i:Nat):w.cell? ⟨b,i,none⟩=cs[i]? := by
 unfold Blk at h;simp[World.cell?,h]
theorem Blk.free {w:World}{b:Nat}{cs:Array Value}{t:TypeId}(h:Blk w b cs t)(i:Nat):w.frozen? ⟨b,i,none⟩=false:=by
 unfold Blk at h;simp[World.frozen?,h]
theorem zx {P:Program}{F:FuncId}{a:Array Value}{w:World}{K:Ending->World->Prop}{r:Ending}(h:Hid (Calls P F a w fun e w'=>e=r/\w=w'))(k:K r w):Calls P F a w K:=Calls.mono h fun _ _ ⟨e,b⟩=>e▸b▸k
theorem zv {P:Program}{F:FuncId}{a:Array Value}{w:World}{K:Ending->World->Prop}{r:Ending}(h:Calls P F a w fun e w'=>e=r/\w=w')(k:K r w):Calls P F a w K:=zx h k
theorem zu {p0 p1:Prop}(h0:p0)(h1:p1):Hid p0/\Hid p1:=⟨h0,h1⟩
theorem zg {p0 p1 p2:Prop}(h0:p0)(h1:p1)(h2:p2):Hid p0/\Hid p1/\Hid p2:=⟨h0,h1,h2⟩
theorem zc {p0 p1 p2 p3:Prop}(h0:p0)(h1:p1)(h2:p2)(h3:p3):Hid p0/\Hid p1/\Hid p2/\Hid p3:=⟨h0,h1,h2,h3⟩
theorem zd {p0 p1 p2 p3 p4:Prop}(h0:p0)(h1:p1)(h2:p2)(h3:p3)(h4:p4):Hid p0/\Hid p1/\Hid p2/\Hid p3/\Hid p4:=⟨h0,h1,h2,h3,h4⟩
theorem zf {p0 p1 p2 p3 p4 p5:Prop}(h0:p0)(h1:p1)(h2:p2)(h3:p3)(h4:p4)(h5:p5):Hid p0/\Hid p1/\Hid p2/\Hid p3/\Hid p4/\Hid p5:=⟨h0,h1,h2,h3,h4,h5⟩
theorem kx {p0 p1 p2 p3 p4 p5 p6:Prop}(h0:p0)(h1:p1)(h2:p2)(h3:p3)(h4:p4)(h5:p5)(h6:p6):Hid p0/\Hid p1/\Hid p2/\Hid p3/\Hid p4/\Hid p5/\Hid p6:=⟨h0,h1,h2,h3,h4,h5,h6⟩
theorem kq {p0 p1 p2 p3 p4 p5 p6 p7:Prop}(h0:p0)(h1:p1)(h2:p2)(h3:p3)(h4:p4)(h5:p5)(h6:p6)(h7:p7):Hid p0/\Hid p1/\Hid p2/\Hid p3/\Hid p4/\Hid p5/\Hid p6/\Hid p7:=⟨h0,h1,h2,h3,h4,h5,h6,h7⟩
theorem kw {p0 p1 p2 p3 p4 p5 p6 p7 p8:Prop}(h0:p0)(h1:p1)(h2:p2)(h3:p3)(h4:p4)(h5:p5)(h6:p6)(h7:p7)(h8:p8):Hid p0/\Hid p1/\Hid p2/\Hid p3/\Hid p4/\Hid p5/\Hid p6/\Hid p7/\Hid p8:=⟨h0,h1,h2,h3,h4,h5,h6,h7,h8⟩
theorem ky {p0 p1 p2 p3 p4 p5 p6 p7 p8 p9:Prop}(h0:p0)(h1:p1)(h2:p2)(h3:p3)(h4:p4)(h5:p5)(h6:p6)(h7:p7)(h8:p8)(h9:p9):Hid p0/\Hid p1/\Hid p2/\Hid p3/\Hid p4/\Hid p5/\Hid p6/\Hid p7/\Hid p8/\Hid p9:=⟨h0,h1,h2,h3,h4,h5,h6,h7,h8,h9⟩
theorem kj {p0 p1 p2 p3 p4 p5 p6 p7 p8 p9 p10:Prop}(h0:p0)(h1:p1)(h2:p2)(h3:p3)(h4:p4)(h5:p5)(h6:p6)(h7:p7)(h8:p8)(h9:p9)(h10:p10):Hid p0/\Hid p1/\Hid p2/\Hid p3/\Hid p4/\Hid p5/\Hid p6/\Hid p7/\Hid p8/\Hid p9/\Hid p10:=⟨h0,h1,h2,h3,h4,h5,h6,h7,h8,h9,h10⟩
theorem ku {p0 p1 p2 p3 p4 p5 p6 p7 p8 p9 p10 p11:Prop}(h0:p0)(h1:p1)(h2:p2)(h3:p3)(h4:p4)(h5:p5)(h6:p6)(h7:p7)(h8:p8)(h9:p9)(h10:p10)(h11:p11):Hid p0/\Hid p1/\Hid p2/\Hid p3/\Hid p4/\Hid p5/\Hid p6/\Hid p7/\Hid p8/\Hid p9/\Hid p10/\Hid p11:=⟨h0,h1,h2,h3,h4,h5,h6,h7,h8,h9,h10,h11⟩
theorem nz {P:Program}{F:FuncId}{a:Array Value}{w:World}{K:Ending->World->Prop}{r:Ending}{B:World->Prop}(h:Hid (Calls P F a w fun e w'=>e=r/\B w'))(k:∀ w',Hid (B w')->K r w'):Calls P F a w K:=Calls.mono h fun _ w' ⟨e,b⟩=>e▸k w' b
theorem nv {P:Program}{F:FuncId}{a:Array Value}{w:World}{K:Ending->World->Prop}{r:Ending}{B:World->Prop}(h:Calls P F a w fun e w'=>e=r/\B w')(k:∀ w',Hid (B w')->K r w'):Calls P F a w K:=nz h k
theorem ny {P:Program}{F:FuncId}{a:Array Value}{w:World}{K:Ending->World->Prop}{r:Ending}{B:World->Prop}(h:Hid (Calls P F a w fun e w'=>e=r/\B w'))(k:∀ w',B w'->K r w'):Calls P F a w K:=nz h k
theorem nj {P:Program}{F:FuncId}{a:Array Value}{w:World}{K:Ending->World->Prop}{r:Ending}{B:World->Prop}(h:Calls P F a w fun e w'=>e=r/\B w')(k:∀ w',B w'->K r w'):Calls P F a w K:=nz h k
theorem nu {P:Program}{F:FuncId}{a:Array Value}{w:World}{K:Ending->World->Prop}{r:Value->Ending}{Q:Value->World->Prop}{B:World->Prop}(h:Hid (Calls P F a w fun e w'=>(∃ v,e=r v/\Q v w')/\B w'))(k:∀ v w',Q v w'->B w'->K (r v) w'):Calls P F a w K:=Calls.mono h fun _ w' ⟨⟨v,e,q⟩,b⟩=>e▸k v w' q b
theorem ng {P:Program}{F:FuncId}{a:Array Value}{w:World}{K:Ending->World->Prop}{r:Value->Ending}{Q:Value->World->Prop}{B:World->Prop}(h:Calls P F a w fun e w'=>(∃ v,e=r v/\Q v w')/\B w')(k:∀ v w',Q v w'->B w'->K (r v) w'):Calls P F a w K:=nu h k
theorem qz {w:World}{b:Nat}{x y z:Value}{t:TypeId}(h:Blk w b #[x,y,z] t):w.cell? ⟨b,0,none⟩=some x/\w.cell? ⟨b,1,none⟩=some y/\w.cell? ⟨b,2,none⟩=some z:=⟨h.cell 0,h.cell 1,h.cell 2⟩
theorem qq {w:World}{b:Nat}{x y z:Value}{t:TypeId}(h:Blk w b #[x,y,z] t):w.frozen? ⟨b,0,none⟩=false/\w.frozen? ⟨b,1,none⟩=false/\w.frozen? ⟨b,2,none⟩=false:=⟨h.free 0,h.free 1,h.free 2⟩
theorem qy (i:Nat)(h:i<9223372036854775807):IntKind.i64.wrap ((i:Int)+1)=((i+1:Nat):Int):=by rw[IntWalk.i64_in _ ⟨by omega,by omega⟩];omega
theorem qw (i:Nat):(0:Int)<=(i:Int):=by omega
theorem qu (w:World):∃ x,x=w:=⟨_,rfl⟩
@[reducible]def qb(F:FuncId)(a:Array Value)(w:World)(r:Value):Prop:=Calls Tryz.prog F a w fun e w'=>e=.returned r/\Below w.heap.size w w'
theorem Blk.new (w:World)(cs:Array Value)(t:TypeId):Blk (w.alloc (.cells cs t)) w.heap.size cs t:=by
 show (w.heap.push _)[w.heap.size]? = _
 simp
theorem Blk.made (w:World)(cs:Array Value)(t:TypeId){n:Nat}(h:n=w.heap.size):Blk (w.alloc (.cells cs t)) n cs t:=h ▸ Blk.new w cs t
theorem Blk.below {w w':World}{b B:Nat}{cs:Array Value}{t:TypeId}(h:Blk w b cs t)(hb:Below B w w')(hB:b<B):Blk w' b cs t:=by
 unfold Blk at *;rw[hb.block b hB];exact h
theorem Blk.call {w w':World}{b:Nat}{cs:Array Value}{t:TypeId}(h:Blk w b cs t)(hb:Below w.heap.size w w'):Blk w' b cs t:=h.below hb h.lt
def O4:=@Nat.le_refl
theorem nr{n:Nat}:n<=n:=O4 n
def J4:=@Go.RowKit.Below.refl
def br0{n:Nat}{w:World}:Below n w w:=J4 n w
theorem zy (w:World)(cs:Array Value)(t:TypeId):∃ B,w.alloc (.cells cs t)=B/\Hid (Below w.heap.size w B)/\Hid (Blk B w.heap.size cs t):=⟨_,rfl,br0.alloc nr _,Blk.new _ _ _⟩
theorem Blk.alloc {w:World}{b:Nat}{cs:Array Value}{t:TypeId}(h:Blk w b cs t)(o:Obj):Blk (w.alloc o) b cs t:=h.call (br0.alloc nr o)
theorem Blk.drew {w:World}{b:Nat}{cs:Array Value}{t:TypeId}(h:Blk w b cs t):Blk w.drew b cs t:=h
theorem Blk.drewN {w:World}{b:Nat}{cs:Array Value}{t:TypeId}(h:Blk w b cs t)(n:Nat):Blk (w.drewN n) b cs t:=h
def Cu:=@Array.getElem?_modify
theorem Blk.set {w:World}{b:Nat}{cs:Array Value}{t:TypeId}(h:Blk w b cs t)(i:Nat)(v:Value):Blk (w.setCell ⟨b,i,none⟩ v) b (cs.setIfInBounds i v) t:=by
 unfold Blk at *;simp[World.setCell,Cu,h]
theorem Blk.other {w:World}{b:Nat}{cs:Array Value}{t:TypeId}(h:Blk w b cs t){a:Addr}(ha:a.block≠b)(v:Value):Blk (w.setCell a v) b cs t:=by
 unfold Blk at *;simp[World.setCell,Cu,ha,h]
theorem Blk.grown {w w':World}{b:Nat}{cs:Array Value}{t:TypeId}{row:Option Nat}(h:Blk w b cs t)(hg:w.grownBy w' row)(hne:row≠some b):Blk w' b cs t:=by
 have hl:=h.lt;unfold Blk at *;rw[hg.block b hl (fun e=>hne e.symm)];exact h
def h0j {P:Program}{id:Nat}{Q:Exit->Act->World->Prop}{a:Act}{w:World}{l:List Oper}(n:Nat)(hm:P.follows .mixedOrders=true)(hB:Region.lexTailB .any l.toArray n=true)
 (h:wpStill P l.toArray w.drew (fun a'=>wpList P l.toArray Q (l.drop n) a' w.drew) (l.take n) a):(Code.region id l.toArray true).wp P Q a w:=wp_region_still_tail n hm hB h
structure Keep2 (w w':World)(b:Nat)(r:Option Nat):Prop where
 os:w'.os=w.os
 tape:w'.tape=w.tape
 output:w'.output=w.output
 size:w.heap.size<=w'.heap.size
 block:∀ k,k<w.heap.size->k≠b->some k≠r->w'.heap[k]?=w.heap[k]?
theorem Keep2.refl (w:World)(b:Nat)(r:Option Nat):Keep2 w w b r:=⟨rfl,rfl,rfl,O4 _,fun _ _ _ _=>rfl⟩
def J0:=@Nat.le_trans
def J7:=@Nat.lt_of_lt_of_le
theorem Keep2.trans {w w1 w2:World}{b:Nat}{r r':Option Nat}(h:Keep2 w w1 b r)(k:Keep2 w1 w2 b r')(hr:∀ x,r'=some x->r=some x\/w.heap.size<=x):Keep2 w w2 b r:=
 ⟨k.os.trans h.os,k.tape.trans h.tape,k.output.trans h.output,J0 h.size k.size,fun i hi hb hne=>by
  rw[k.block i (J7 hi h.size) hb (fun e=>?_)]
  .exact h.block i hi hb hne
  .rcases hr i e.symm with e' | e'
   .exact hne e'.symm
   .omega⟩
def Bc:=@Go.RowKit.Below.heap_setCell
theorem Keep2.set {w w1:World}{b:Nat}{r:Option Nat}(h:Keep2 w w1 b r){a:Addr}(ha:a.block=b\/some a.block=r\/w.heap.size<=a.block)(v:Value):Keep2 w (w1.setCell a v) b r:=
 ⟨h.os,h.tape,h.output,by simpa[World.setCell]using h.size,fun i hi hb hne=>by
  have:i≠a.block:=fun e=>by
   rcases ha with e' | e' | e'
   .exact hb (e.trans e')
   .exact hne (by rw[e];exact e')
   .omega
  rw[Bc _ _ _ _ this];exact h.block i hi hb hne⟩
theorem Keep2.blk {w w1:World}{b:Nat}{r:Option Nat}(h:Keep2 w w1 b r){k:Nat}{cs:Array Value}{t:TypeId}(hk:Blk w k cs t)(hb:k≠b)(hr:some k≠r):Blk w1 k cs t:=by
 have hl:=hk.lt;unfold Blk at *;rw[h.block k hl hb hr];exact hk
theorem Keep2.below {w w1:World}{b:Nat}{r:Option Nat}(h:Keep2 w w1 b r){B:Nat}(hB:B<=w.heap.size)(hb:B<=b)(hr:∀ x,r=some x->B<=x):Below B w w1:=
 ⟨h.os,h.tape,h.output,h.size,fun k hk=>h.block k (by omega) (by omega) (fun e=>by have:=hr k e.symm;omega)⟩
def p0r {w w1:World}{base:Nat}{e:TypeId}{size:Nat}{v:Value}{n:Nat}{xs:List Value}(hv:w.ownsRow base e size v n xs){B:Nat}(h:Below B w w1)(hB:∀ k,v.ownBlock=some k->k<B):w1.ownsRow base e size v n xs:=by
 refine⟨hv.1,?_⟩;rcases hv.2 with hn | ⟨g,cap,cur,rfl,hbs,hgg,rest⟩
 .exact .inl hn
 .refine .inr ⟨g,cap,cur,rfl,hbs,?_,rest⟩;rw[h.block g (hB g (by simp[Value.ownBlock]))];exact hgg
def y0g {w:World}{base:Nat}{e:TypeId}{size:Nat}{v:Value}{n:Nat}{xs:List Value}(hv:w.ownsRow base e size v n xs):∀ k,v.ownBlock=some k->k<w.heap.size:=fun k hk=>(hv.lt k hk).2
theorem a0C {w w1:World}{base:Nat}{e:TypeId}{size:Nat}{v:Value}{n:Nat}{xs:List Value}(hv:w.ownsRow base e size v n xs)(h:Below w.heap.size w w1):w1.ownsRow base e size v n xs:=p0r hv h (y0g hv)
theorem Keep2.grown {w w1 w2:World}{b:Nat}{r row:Option Nat}(h:Keep2 w w1 b r)(hg:w1.grownBy w2 row)(hr:∀ k,row=some k->k=b\/some k=r\/w.heap.size<=k):Keep2 w w2 b r:=
 ⟨hg.os.trans h.os,hg.tape.trans h.tape,hg.output.trans h.output,J0 h.size hg.size,fun i hi hb hne=>by
  rw[hg.block i (J7 hi h.size) (fun e=>by
   rcases hr i e.symm with e' | e' | e'
   .exact hb e'
   .exact hne e'
   .omega)]
  exact h.block i hi hb hne⟩
def val:List Nat->Nat
 | []=>0
 | x::l=>x+1000000000*val l
def Sm (l:List Nat):Prop:=∀ x∈l,x<1000000000
theorem Sm.nil:Sm []:=fun _ h=>by cases h
def Ck:=@List.mem_cons
theorem Sm.cons {x:Nat}{l:List Nat}(hx:x<1000000000)(h:Sm l):Sm (x::l):=fun y hy=>by
 rcases Ck.1 hy with rfl | hy
 .exact hx
 .exact h y hy
def Dg:=@List.mem_cons_self
theorem Sm.head {x:Nat}{l:List Nat}(h:Sm (x::l)):x<1000000000:=h x (Dg ..)
def Br:=@List.mem_cons_of_mem
theorem Sm.tail {x:Nat}{l:List Nat}(h:Sm (x::l)):Sm l:=fun y hy=>h y (Br _ hy)
def Ie:=@List.mem_append
theorem Sm.append {l k:List Nat}(h:Sm l)(h':Sm k):Sm (l++k):=fun y hy=>(Ie.1 hy).elim (h y) (h' y)
def Iu:=@List.mem_of_mem_take
theorem Sm.take {l:List Nat}(h:Sm l)(i:Nat):Sm (l.take i):=fun y hy=>h y (Iu hy)
def Lx:=@List.mem_of_mem_drop
theorem Sm.drop {l:List Nat}(h:Sm l)(i:Nat):Sm (l.drop i):=fun y hy=>h y (Lx hy)
def U7:=@List.mem_of_getElem?
theorem Sm.get {l:List Nat}(h:Sm l){i x:Nat}(hx:l[i]?=some x):x<1000000000:=h x (U7 hx)
def Z3:=@List.getD_eq_getElem?_getD
theorem Sm.getD {l:List Nat}(h:Sm l)(i:Nat):l.getD i 0<1000000000:=by
 rw[Z3];cases hx:l[i]? with
 | none=>simp
 | some x=>exact h.get hx
theorem Sm.set {l:List Nat}(h:Sm l)(i:Nat){x:Nat}(hx:x<1000000000):Sm (l.set i x):=fun y hy=>by
 rcases List.mem_or_eq_of_mem_set hy with hy | rfl
 .exact h y hy
 .exact hx
theorem Sm.zeros (n:Nat):Sm (List.replicate n 0):=fun y hy=>by rw[List.eq_of_mem_replicate hy];omega
@[simp] theorem val_nil:val []=0:=rfl
def a0P (x:Nat)(l:List Nat):val (x::l)=x+1000000000*val l:=rfl
def Cm:=@List.cons_append
def E8:=@List.length_cons
def E9:=@Nat.pow_succ
def Al:=@Nat.mul_add
def Dh:=@Nat.add_assoc
def M9:=@Nat.mul_comm
def A9:=@Nat.mul_assoc
def b0B (l k:List Nat):val (l++k)=val l+1000000000 ^ l.length*val k:=by
 induction l with
 | nil=>simp
 | cons x l ih=>
  rw[Cm,a0P,ih,a0P,E8,E9,Al,Dh,M9 (1000000000 ^ l.length) 1000000000,A9]
def d0B {l:List Nat}(h:Sm l):val l<1000000000 ^ l.length:=by
 induction l with
 | nil=>simp
 | cons x l ih=>
  have h1:=ih h.tail;have h2:=h.head;rw[a0P,E8,E9];omega
def Jj:=@List.replicate_succ
def c0g (n:Nat):val (List.replicate n 0)=0:=by
 induction n with
 | zero=>rfl
 | succ n ih=>rw[Jj,a0P,ih]
def U4:=@List.getElem?_eq_some_iff
def Fe:=@List.take_succ_eq_append_getElem
def M6:=@List.length_take_of_le
def c0m {l:List Nat}{i x:Nat}(h:l[i]?=some x):val (l.take (i+1))=val (l.take i)+1000000000 ^ i*x:=by
 have hi:i<l.length:=(U4.1 h).1;have hx:l[i]=x:=(U4.1 h).2;rw[Fe hi,b0B,M6 (by omega),hx];simp[a0P]
def Ej:=@List.take_append_drop
def c0h (l:List Nat)(i:Nat)(h:i<=l.length):val l=val (l.take i)+1000000000 ^ i*val (l.drop i):=by
 have:=b0B (l.take i) (l.drop i);rw[Ej,M6 h]at this;exact this
def S9:=@List.drop_eq_getElem_cons
def c0n {l:List Nat}{i x:Nat}(h:l[i]?=some x):val (l.drop i)=x+1000000000*val (l.drop (i+1)):=by
 have hi:i<l.length:=(U4.1 h).1;have hx:l[i]=x:=(U4.1 h).2;rw[S9 hi,a0P,hx]
def Jt:=@List.set_cons_succ
def l0S {l:List Nat}{i x:Nat}(h:l[i]?=some x)(y:Nat):val (l.set i y)+1000000000 ^ i*x=val l+1000000000 ^ i*y:=by
 induction l generalizing i with
 | nil=>simp at h
 | cons z l ih=>
  cases i with
  | zero=>
   simp at h;subst h;simp[a0P];omega
  | succ i=>
   have:=ih (i:=i) (by simpa using h);rw[Jt,a0P,a0P,E9,M9 (1000000000 ^ i) 1000000000,A9,A9];omega
def limbs (n:Nat):List Nat:=if h:n=0 then [] else n%1000000000::limbs (n / 1000000000)
termination_by n
decreasing_by omega
@[simp] theorem limbs_zero:limbs 0 = []:=by rw[limbs];simp
def b0y {n:Nat}(h:0<n):limbs n=n%1000000000::limbs (n / 1000000000):=by rw[limbs,dif_neg (by omega)]
def H8:=@Nat.eq_zero_or_pos
def a0z (n:Nat):val (limbs n)=n:=by
 induction n using Nat.strongRecOn with
 | _ n ih=>
  rcases H8 n with rfl | h
  .simp
  .rw[b0y h,a0P,ih _ (by omega)];omega
theorem a0o (n:Nat):Sm (limbs n):=by
 induction n using Nat.strongRecOn with
 | _ n ih=>
  rcases H8 n with rfl | h
  .rw[limbs_zero];exact Sm.nil
  .rw[b0y h];exact Sm.cons (by omega) (ih _ (by omega))
def b0Y {n:Nat}:limbs n = []↔n=0:=by
 constructor
 .intro h;have:=a0z n;rw[h]at this;exact this.symm
 .rintro rfl;exact limbs_zero
def Ju:=@List.getLast?_cons_cons
def j0B {l:List Nat}(h:Sm l)(hl:∀ x,l.getLast? = some x->x≠0):limbs (val l)=l:=by
 induction l with
 | nil=>simp
 | cons x l ih=>
  have ht:limbs (val l)=l:=by
   refine ih h.tail fun y hy=>hl y ?_
   cases l with
   | nil=>cases hy
   | cons z l=>rw[Ju];exact hy
  have hx:=h.head;have hp:0<val (x::l):=by
   rw[a0P];cases l with
   | nil=>have:=hl x rfl;omega
   | cons z l=>
    have:val (z::l)≠0:=fun e=>by rw[e]at ht;simp at ht
    omega
  rw[b0y hp,a0P];rw[show (x+1000000000*val l)%1000000000=x by omega,show (x+1000000000*val l) / 1000000000=val l by omega,ht]
def e0e (n:Nat):∀ x,(limbs n).getLast? = some x->x≠0:=by
 induction n using Nat.strongRecOn with
 | _ n ih=>
  intro x hx;rcases H8 n with rfl | h
  .simp at hx
  .rw[b0y h]at hx;rcases H8 (n / 1000000000) with h0 | h0
   .rw[h0,limbs_zero]at hx;simp at hx;omega
   .rw[b0y h0,Ju,<- b0y h0]at hx;exact ih _ (by omega) x hx
def If:=@List.eq_replicate_iff
def Bi:=@List.getElem?_of_mem
def Bm:=@List.getElem?_drop
def Iw:=@List.getLast?_eq_getElem?
def Cd:=@List.getElem?_take
def i0A {l:List Nat}(h:Sm l){m:Nat}(hm:m<=l.length)(hz:∀ j x,m<=j->l[j]?=some x->x=0)(hl:∀ x,0<m->l[m-1]?=some x->x≠0):l.take m=limbs (val l):=by
 have hd:l.drop m=List.replicate (l.length-m) 0:=by
  rw[If];refine⟨by simp,fun x hx=>?_⟩;obtain⟨j,hj⟩:=Bi hx;rw[Bm]at hj;exact hz _ x (by omega) hj
 have hv:val l=val (l.take m):=by
  have:=c0h l m hm;rw[hd,c0g]at this;omega
 rw[hv];refine (j0B (h.take m) fun x hx=>?_).symm;rw[Iw,M6 hm,Cd]at hx
 split at hx
 .exact hl x (by omega) hx
 .cases hx
def Gb:=@Nat.pow_pos
def Ek:=@Nat.div_lt_iff_lt_mul
def a0g {n k:Nat}:(limbs n).length<=k↔n<1000000000 ^ k:=by
 induction k generalizing n with
 | zero=>simp[b0Y]
 | succ k ih=>
  rcases H8 n with rfl | h
  .simp[Gb]
  .rw[b0y h,E8,Nat.add_le_add_iff_right,ih,E9];rw[Ek (by omega)]
def b0e {n k:Nat}:k<(limbs n).length↔1000000000 ^ k<=n:=by
 have:=a0g (n:=n) (k:=k);omega
def Di:=@Nat.lt_of_le_of_lt
def a0h {a b:Nat}(h:a<=b):(limbs a).length<=(limbs b).length:=
 a0g.2 (Di h (a0g.1 nr))
def Lr:=@Nat.lt_of_not_le
def c0K {a b:Nat}(h:(limbs a).length<(limbs b).length):a<b:=
 Lr fun k=>by have:=a0h k;omega
def Ad:=@Nat.mul_le_mul_left
def q0k {l k:List Nat}(hl:Sm l)(hlen:l.length=k.length){i x y:Nat}(hx:l[i]?=some x)(hy:k[i]?=some y)(hd:l.drop (i+1)=k.drop (i+1))(hxy:x<y):val l<val k:=by
 have hi:i<l.length:=(U4.1 hx).1;rw[c0h l i (by omega),c0h k i (by omega),c0n hx,c0n hy,hd];have h1:=d0B (hl.take i);rw[M6 (by omega)]at h1;have h2:x+1000000000*val (k.drop (i+1))+1<=y+1000000000*val (k.drop (i+1)):=by omega
 have h3:=Ad (1000000000 ^ i) h2;rw[Al]at h3;omega
def d0b:limbs 1 = [1]:=by rw[b0y (by omega)];simp
def Bw:=@Nat.mod_eq_of_lt
def Ds:=@Nat.div_eq_of_lt
def d0n {n:Nat}(h0:0<n)(h:n<1000000000):limbs n = [n]:=by
 rw[b0y h0,Bw h,Ds h,limbs_zero]
def f0p {a b:Nat}(h:limbs a=limbs b):a=b:=by rw[<- a0z a,h,a0z]
def Iy:=@List.getElem?_eq_none_iff
def E7:=@List.take_of_length_le
def a0s (l:List Nat)(i:Nat):val (l.take (i+1))=val (l.take i)+1000000000 ^ i*l.getD i 0:=by
 rw[Z3];cases h:l[i]? with
 | some x=>rw[c0m h];rfl
 | none=>
  have:l.length<=i:=Iy.1 h;rw[E7 (by omega),E7 this];simp
def k0z (p s:Nat):p*(s%1000000000)+p*1000000000*(s / 1000000000)=p*s:=by
 rw[A9,<- Al,Nat.mod_add_div]
def d0T (s:List Nat)(z:Nat):val (s ++ [z])=val s+1000000000 ^ s.length*z:=by
 rw[b0B];simp[a0P]
def o0I {s a b:List Nat}{i c:Nat}(hl:s.length=i)(h:val s+1000000000 ^ i*c=val (a.take i)+val (b.take i)):
 val (s ++ [(a.getD i 0+c+b.getD i 0)%1000000000])+1000000000 ^ (i+1)*((a.getD i 0+c+b.getD i 0) / 1000000000)=val (a.take (i+1))+val (b.take (i+1)):=by
 rw[d0T,hl,a0s,a0s,E9];have:=k0z (1000000000 ^ i) (a.getD i 0+c+b.getD i 0);generalize 1000000000 ^ i=p at *
 rw[Al,Al]at this;omega
def a0I {l:List Nat}{i:Nat}(h:l.length<=i):val (l.take i)=val l:=by rw[E7 h]
def t0W {s a b:List Nat}{i c z c':Nat}(hl:s.length=i)(h:val (a.take i)+1000000000 ^ i*c=val s+val (b.take i))
 (hz:a.getD i 0+1000000000*c'=z+c+b.getD i 0):val (a.take (i+1))+1000000000 ^ (i+1)*c'=val (s ++ [z])+val (b.take (i+1)):=by
 rw[d0T,hl,a0s,a0s,E9];generalize 1000000000 ^ i=p at *
 have:=congrArg (p * ·) hz;simp only[Al]at this;rw[A9];omega
def x0n {s a b:List Nat}{c:Nat}(hs:Sm s)(hl:s.length=a.length)(hb:b.length<=a.length)(h:val (a.take a.length)+1000000000 ^ a.length*c=val s+val (b.take a.length))(hle:val b<=val a):val s=val a-val b:=by
 rw[E7 nr,E7 hb]at h;have h1:=d0B hs;rw[hl]at h1;rcases c with _ | c
 .omega
 .rw[Al]at h;generalize 1000000000 ^ a.length*c=q at *
  omega
def n0W {o:List Nat}{m old x y c:Nat}(h:o[m]?=some old):
 val (o.set m ((old+x*y+c)%1000000000))+1000000000 ^ (m+1)*((old+x*y+c) / 1000000000)=val o+1000000000 ^ m*c+1000000000 ^ m*(x*y):=by
 have h1:=l0S h ((old+x*y+c)%1000000000);have h2:=k0z (1000000000 ^ m) (old+x*y+c);rw[E9];generalize 1000000000 ^ m=p at *
 rw[Al,Al]at h2;omega
def Ar:=@Nat.mul_le_mul
def d0G {old x y c:Nat}(h1:old<1000000000)(h2:x<1000000000)(h3:y<1000000000)(h4:c<1000000000):old+x*y+c<1000000000*1000000000/\x*y<=999999999*999999999:=by
 have:x*y<=999999999*999999999:=Ar (by omega) (by omega);omega
def Be:=@Nat.pow_add
def Gk:=@Nat.mul_left_comm
def r0T {b:List Nat}{V o o' c c' i k x y:Nat}(hy:b.getD k 0=y)(h:o+1000000000 ^ (i+k)*c=V+1000000000 ^ i*x*val (b.take k))
 (hs:o'+1000000000 ^ (i+k+1)*c'=o+1000000000 ^ (i+k)*c+1000000000 ^ (i+k)*(x*y)):
 o'+1000000000 ^ (i+(k+1))*c'=V+1000000000 ^ i*x*val (b.take (k+1)):=by
 rw[a0s,hy,Al];have e:1000000000 ^ i*x*(1000000000 ^ k*y)=1000000000 ^ (i+k)*(x*y):=by
  rw[Be,A9,A9,Gk x]
 rw[e,<- Dh];omega
def Ig:=@Nat.div_add_mod
def o0T {Q A x d r:Nat}(h:A=d*Q+r):
 x+1000000000*A=d*((r*1000000000+x) / d+1000000000*Q)+(r*1000000000+x)%d:=by
 subst h;have:=Ig (r*1000000000+x) d;rw[Al,Al,Gk d 1000000000 Q];omega
def Jp:=@Nat.succ_mul
def Ab:=@Nat.mul_le_mul_right
def u0f {x d r:Nat}(hd:0<d)(hr:r<d)(hx:x<1000000000):(r*1000000000+x) / d<1000000000:=by
 rw[Ek hd];have:r*1000000000+1000000000<=d*1000000000:=by
  rw[<- Jp];exact Ab _ hr
 rw[M9 1000000000 d];omega
def Mo:=@Nat.mul_add_div
def q0N {A d Q r:Nat}(h:A=d*Q+r)(hr:r<d):Q=A / d/\r=A%d:=by
 have hd:0<d:=by omega
 constructor
 .rw[h,Mo hd,Ds hr];rfl
 .rw[h,Nat.mul_add_mod,Bw hr]
def Ib:=@List.dropLast_concat_getLast
def m0v {s:List Nat}(h:Sm s)(hge:s ≠ []->1000000000 ^ (s.length-1)<=val s):limbs (val s)=s:=by
 refine j0B h fun x hx e=>?_
 subst e;have hne:s ≠ []:=fun e=>by subst e;cases hx
 obtain⟨t,b,rfl⟩:∃ t b,s=t ++ [b]:=⟨s.dropLast,s.getLast hne,(Ib hne).symm⟩;rw[List.getLast?_append]at hx;simp at hx;subst hx;have h1:=hge hne;have h2:=d0B (fun y hy=>h y (List.mem_append_left _ hy):Sm t);rw[d0T]at h1;simp at h1;omega
def Gp:=@List.length_pos_iff
def n0Z {n:Nat}(h:limbs n ≠ []):1000000000 ^ ((limbs n).length-1)<=n:=by
 have:0<(limbs n).length:=Gp.2 h;exact b0e.1 (by omega)
structure PlusI (a b:Nat)(s:List Nat)(c:Nat):Prop where
 sm:Sm s
 c1:c<=1
 eq:val s+1000000000 ^ s.length*c=val ((limbs a).take s.length)+val ((limbs b).take s.length)
 last:s.length<=(limbs a).length\/s.length<=(limbs b).length\/1000000000 ^ (s.length-1)<=val s
def K5:=@Nat.zero_le
theorem PlusI.start (a b:Nat):PlusI a b [] 0:=⟨Sm.nil,by omega,by simp,.inl (K5 _)⟩
def J5:=@List.length_append
def U8:=@List.length_singleton
def U6:=@List.getElem?_eq_none
theorem PlusI.next {a b c:Nat}{s:List Nat}(h:PlusI a b s c)(hc:s.length<(limbs a).length\/s.length<(limbs b).length\/0<c):
 PlusI a b (s ++ [((limbs a).getD s.length 0+c+(limbs b).getD s.length 0)%1000000000]) (((limbs a).getD s.length 0+c+(limbs b).getD s.length 0) / 1000000000):=by
 have h1:=(a0o a).getD s.length;have h2:=(a0o b).getD s.length;have h3:=h.c1;refine⟨h.sm.append (Sm.cons (by omega) Sm.nil),by omega,?_,?_⟩
 .have:=o0I (i:=s.length) rfl h.eq;rw[J5,U8];exact this
 .rw[J5,U8];rcases hc with hc | hc | hc
  .exact .inl (by omega)
  .exact .inr (.inl (by omega))
  .by_cases h4:s.length+1<=(limbs a).length
   .exact .inl h4
   .by_cases h5:s.length+1<=(limbs b).length
    .exact .inr (.inl h5)
    .have e1:(limbs a).getD s.length 0=0:=by rw[Z3,U6 (by omega)];rfl
     have e2:(limbs b).getD s.length 0=0:=by rw[Z3,U6 (by omega)];rfl
     rw[e1,e2,d0T,show (0+c+0)%1000000000=1 by omega];simp
def Gf:=@Nat.mul_zero
def At:=@Nat.add_zero
def Aw:=@List.eq_nil_of_length_eq_zero
theorem PlusI.done {a b c:Nat}{s:List Nat}(h:PlusI a b s c)(ha:¬ s.length<(limbs a).length)(hb:¬ s.length<(limbs b).length)(hc:c=0):s=limbs (a+b):=by
 subst hc;have he:=h.eq;rw[a0I (by omega),a0I (by omega),a0z,a0z,Gf,At]at he;have:=m0v h.sm fun hne=>by
  rcases h.last with h1 | h1 | h1
  .have e:s.length=(limbs a).length:=by omega
   have:=n0Z (n:=a) (fun e'=>hne (Aw (by rw[e,e'];rfl)));rw[e];omega
  .have e:s.length=(limbs b).length:=by omega
   have:=n0Z (n:=b) (fun e'=>hne (Aw (by rw[e,e'];rfl)));rw[e];omega
  .exact h1
 rw[<- he,this]
def b0g (a b:Nat):Int:=if a<b then -1 else if b<a then 1 else 0
def J3:=@if_pos
def b0N {a b:Nat}(h:a<b):b0g a b = -1:=by rw[b0g,J3 h]
def J2:=@if_neg
def c0k {a b:Nat}(h:b<a):b0g a b=1:=by rw[b0g,J2 (by omega),J3 h]
def c0P {a:Nat}:b0g a a=0:=by rw[b0g,J2 (by omega),J2 (by omega)]
def f0l {a b i x y:Nat}(hl:(limbs a).length=(limbs b).length)(hx:(limbs a)[i]?=some x)(hy:(limbs b)[i]?=some y)(hd:(limbs a).drop (i+1)=(limbs b).drop (i+1))(h:x<y):a<b:=by
 have:=q0k (a0o a) hl hx hy hd h;rwa[a0z,a0z]at this
def g0j {l k:List Nat}{i x:Nat}(hx:l[i]?=some x)(hy:k[i]?=some x)(hd:l.drop (i+1)=k.drop (i+1)):l.drop i=k.drop i:=by
 obtain⟨h1,h2⟩:=U4.1 hx;obtain⟨h3,h4⟩:=U4.1 hy;rw[S9 h1,S9 h3,h2,h4,hd]
structure MinusI (a b:Nat)(s:List Nat)(c:Nat):Prop where
 sm:Sm s
 c1:c<=1
 eq:val ((limbs a).take s.length)+1000000000 ^ s.length*c=val s+val ((limbs b).take s.length)
theorem MinusI.start (a b:Nat):MinusI a b [] 0:=⟨Sm.nil,by omega,by simp⟩
theorem MinusI.next {a b c z c':Nat}{s:List Nat}(h:MinusI a b s c)(hz:(limbs a).getD s.length 0+1000000000*c'=z+c+(limbs b).getD s.length 0)(h1:z<1000000000)(h2:c'<=1):MinusI a b (s ++ [z]) c':=by
 refine⟨h.sm.append (Sm.cons h1 Sm.nil),h2,?_⟩;have:=t0W (i:=s.length) rfl h.eq hz;rw[J5,U8];exact this
theorem MinusI.done {a b c:Nat}{s:List Nat}(h:MinusI a b s c)(hl:s.length=(limbs a).length)(hle:b<=a):val s=a-b:=by
 have he:=h.eq;rw[hl]at he;have:=x0n h.sm hl (a0h hle) he (by rw[a0z,a0z];exact hle);rwa[a0z,a0z]at this
structure MulI (a b:Nat)(i:Nat)(o:List Nat):Prop where
 sm:Sm o
 len:o.length=(limbs a).length+(limbs b).length
 eq:val o=val ((limbs a).take i)*b
 hi:∀ j,i+(limbs b).length<=j->o.getD j 0=0
structure MulJ (a b i x k c:Nat)(o:List Nat):Prop where
 sm:Sm o
 len:o.length=(limbs a).length+(limbs b).length
 c1:c<1000000000
 eq:val o+1000000000 ^ (i+k)*c=val ((limbs a).take i)*b+1000000000 ^ i*x*val ((limbs b).take k)
 hi:∀ j,i+(limbs b).length<=j->o.getD j 0=0
def Ae:=@List.getElem?_replicate
theorem MulI.start (a b:Nat):MulI a b 0 (List.replicate ((limbs a).length+(limbs b).length) 0):=
 ⟨Sm.zeros _,by simp,by rw[c0g];simp,fun j _=>by
  rw[Z3,Ae];split<;>rfl⟩
theorem MulI.enter {a b i x:Nat}{o:List Nat}(h:MulI a b i o):MulJ a b i x 0 0 o:=⟨h.sm,h.len,by omega,by rw[h.eq];simp,h.hi⟩
def Bj:=@List.length_set
def Iv:=@List.getElem?_set_ne
theorem MulJ.next {a b i x k c old y:Nat}{o:List Nat}(h:MulJ a b i x k c o)(hx:(limbs a)[i]?=some x)(hy:(limbs b)[k]?=some y)(ho:o[i+k]?=some old):
 MulJ a b i x (k+1) ((old+x*y+c) / 1000000000) (o.set (i+k) ((old+x*y+c)%1000000000)):=by
 have hb:=d0G (h.sm.get ho) ((a0o a).get hx) ((a0o b).get hy) h.c1;refine⟨h.sm.set _ (by omega),by rw[Bj,h.len],?_,?_,fun j hj=>?_⟩
 .rw[Ek (by omega)];exact hb.1
 .have hk:k<(limbs b).length:=(U4.1 hy).1;exact r0T (b:=limbs b) (by rw[Z3,hy];rfl) h.eq (n0W ho)
 .have hk:k<(limbs b).length:=(U4.1 hy).1;have:=h.hi j hj;rw[Z3]at this |-;rw[Iv (by omega)];exact this
def Q0:=@List.getElem?_eq_getElem
def Bo:=@Nat.add_mul
theorem MulJ.leave {a b i x c:Nat}{o:List Nat}(h:MulJ a b i x (limbs b).length c o)(hx:(limbs a)[i]?=some x):MulI a b (i+1) (o.set (i+(limbs b).length) c):=by
 have hi:i<(limbs a).length:=(U4.1 hx).1;have ho:o[i+(limbs b).length]?=some 0:=by
  have h1:=h.hi (i+(limbs b).length) nr;have h2:i+(limbs b).length<o.length:=by rw[h.len];omega
  rw[Z3,Q0 h2]at h1;rw[Q0 h2];simpa using h1
 refine⟨h.sm.set _ h.c1,by rw[Bj,h.len],?_,fun j hj=>?_⟩
 .have h1:=l0S ho c;have h2:=h.eq;rw[a0I nr,a0z]at h2;rw[c0m hx,Bo];omega
 .have:=h.hi j (by omega);rw[Z3]at this |-;rw[Iv (by omega)];exact this
theorem MulI.done {a b:Nat}{o:List Nat}(h:MulI a b (limbs a).length o):val o=a*b:=by
 rw[h.eq,a0I nr,a0z]
structure SmallI (a d j r:Nat)(o:List Nat):Prop where
 sm:Sm o
 len:o.length=(limbs a).length
 rd:r<d
 eq:val ((limbs a).drop j)=d*val (o.drop j)+r
def Cj:=@List.drop_of_length_le
theorem SmallI.start {a d:Nat}(hd:0<d):SmallI a d (limbs a).length 0 (List.replicate (limbs a).length 0):=
 ⟨Sm.zeros _,by simp,hd,by rw[Cj nr,Cj (by simp)];simp⟩
def Il:=@Nat.mod_lt
def Hz:=@List.getElem?_set_self
def Hk:=@List.drop_set_of_lt
theorem SmallI.next {a d j r x:Nat}{o:List Nat}(h:SmallI a d (j+1) r o)(hx:(limbs a)[j]?=some x):
 SmallI a d j ((r*1000000000+x)%d) (o.set j ((r*1000000000+x) / d)):=by
 have hd:0<d:=by have:=h.rd;omega
 have hj:j<o.length:=by rw[h.len];exact (U4.1 hx).1
 refine⟨h.sm.set _ (u0f hd h.rd ((a0o a).get hx)),by rw[Bj,h.len],Il _ hd,?_⟩;have h1:(o.set j ((r*1000000000+x) / d))[j]?=some ((r*1000000000+x) / d):=Hz hj;rw[c0n hx,c0n h1,Hk (by omega)];exact o0T h.eq
def K9:=@List.drop_zero
theorem SmallI.done {a d r:Nat}{o:List Nat}(h:SmallI a d 0 r o):val o=a / d/\r=a%d:=by
 have he:=h.eq;rw[K9,K9,a0z]at he;exact q0N he h.rd
structure ScaleI (a d i c:Nat)(o:List Nat):Prop where
 sm:Sm o
 len:o.length=(limbs a).length+1
 c1:c<1000000000
 eq:val o+1000000000 ^ i*c=val ((limbs a).take i)*d
 hi:∀ j,i<=j->o.getD j 0=0
theorem ScaleI.start (a d:Nat):ScaleI a d 0 0 (List.replicate ((limbs a).length+1) 0):=
 ⟨Sm.zeros _,by simp,by omega,by rw[c0g];simp,fun j _=>by
  rw[Z3,Ae];split<;>rfl⟩
def j0K {o:List Nat}{i j z:Nat}(h:∀ j,i<=j->o.getD j 0=0)(hj:i+1<=j):(o.set i z).getD j 0=0:=by
 have:=h j (by omega);rw[Z3]at this |-;rw[Iv (by omega)];exact this
def o0d {o:List Nat}{i:Nat}(h:∀ j,i<=j->o.getD j 0=0)(hi:i<o.length):o[i]?=some 0:=by
 have h1:=h i nr;rw[Z3,Q0 hi]at h1;rw[Q0 hi];simpa using h1
def F9:=@Nat.zero_add
theorem ScaleI.next {a d i c x:Nat}{o:List Nat}(h:ScaleI a d i c o)(hd:d<1000000000)(hx:(limbs a)[i]?=some x):
 ScaleI a d (i+1) ((x*d+c) / 1000000000) (o.set i ((x*d+c)%1000000000)):=by
 have hi:i<(limbs a).length:=(U4.1 hx).1;have ho:=o0d h.hi (by rw[h.len];omega);have hb:=d0G (old:=0) (by omega) ((a0o a).get hx) hd h.c1;refine⟨h.sm.set _ (by omega),by rw[Bj,h.len],?_,?_,fun j hj=>j0K h.hi hj⟩
 .rw[Ek (by omega)];omega
 .have h1:=n0W (x:=x) (y:=d) (c:=c) ho;rw[F9]at h1;have h2:=h.eq;rw[c0m hx,Bo,A9];omega
theorem ScaleI.done {a d c:Nat}{o:List Nat}(h:ScaleI a d (limbs a).length c o):val (o.set (limbs a).length c)=a*d/\Sm (o.set (limbs a).length c)/\(o.set (limbs a).length c).length=(limbs a).length+1:=by
 have ho:=o0d h.hi (by rw[h.len];omega);have h1:=l0S ho c;have h2:=h.eq;rw[a0I nr,a0z]at h2;exact⟨by omega,h.sm.set _ h.c1,by rw[Bj,h.len]⟩
def a0R {k:IntKind}{a b:Int}(h:a=b):Ending.returned (.int k a)=.returned (.int k b):=by rw[h]
def x0M {v:Value}{k:IntKind}{a b:Int}(h:a=b):Ending.returned (.tuple #[v,.int k a])=.returned (.tuple #[v,.int k b]):=by rw[h]
def n0F {a b:Bool}(h:a=b):Ending.returned (.bool a)=.returned (.bool b):=by rw[h]
def a0k {B:Nat}{a w:World}(h:Below B a w)(n:Nat):Below B a (w.drewN n):=⟨h.os,h.tape,h.output,h.size,h.block⟩
theorem a0a {w w1 w2:World}(h:Below w.heap.size w w1)(k:Below w1.heap.size w1 w2):Below w.heap.size w w2:=h.trans (k.mono h.size)
theorem qx {w w1 w2:World}(h:Hid (Below w.heap.size w w1))(k:Below w1.heap.size w1 w2):Hid (Below w.heap.size w w2):=a0a h k
theorem nw {P:Program}{F:FuncId}{a:Array Value}{w0 w:World}{K:Ending->World->Prop}{r:Ending}(h:Hid (Calls P F a w fun e w'=>e=r/\Below w.heap.size w w'))(y:Hid (Below w0.heap.size w0 w))(k:∀ w',Hid (Below w0.heap.size w0 w')->K r w'):Calls P F a w K:=ny h fun _ b=>k _ (qx y b)
theorem nk {P:Program}{F:FuncId}{a:Array Value}{w0 w:World}{K:Ending->World->Prop}{r:Ending}(h:Calls P F a w fun e w'=>e=r/\Below w.heap.size w w')(y:Hid (Below w0.heap.size w0 w))(k:∀ w',Hid (Below w0.heap.size w0 w')->K r w'):Calls P F a w K:=nw h y k
theorem Addr.add_lit (g o j:Nat):(⟨g,o,none⟩:Addr).add j=⟨g,o+j,none⟩:=by
 unfold Addr.add
 split
 .rename_i e;subst e;rfl
 .rfl
def Ey:=@Go.World.block_lt_of_cell?
def a0e {w:World}{a:Addr}{v:Value}(h:w.cell? a=some v):a.block<w.heap.size:=Ey w a h
structure Row (w:World)(v:Value)(xs:List Value):Prop where
 ex:∃ a c,v=.slice a xs.length c/\xs.length<=c/\c<=maxLen/\∀ i x,xs[i]?=some x->∃ g o,a=some ⟨g,o,none⟩/\g<w.heap.size/\w.cell? ⟨g,o+i,none⟩=some x
theorem Row.nil (w:World):Row w (.slice none 0 0) []:=⟨none,0,rfl,O4 _,K5 _,fun i x h=>by simp at h⟩
theorem Row.call {w w':World}{v:Value}{xs:List Value}(h:Row w v xs)(hb:Below w.heap.size w w'):Row w' v xs:=by
 obtain⟨a,c,rfl,h1,h2,h3⟩:=h.ex;refine⟨a,c,rfl,h1,h2,fun i x hx=>?_⟩;obtain⟨g,o,e,hg,hc⟩:=h3 i x hx;exact⟨g,o,e,J7 hg hb.size,(hb.cell (p:=⟨g,o+i,none⟩) hg).trans hc⟩
theorem Row.drewN {w:World}{v:Value}{xs:List Value}(h:Row w v xs)(k:Nat):Row (w.drewN k) v xs:=⟨h.ex⟩
theorem Row.drew {w:World}{v:Value}{xs:List Value}(h:Row w v xs):Row w.drew v xs:=⟨h.ex⟩
def I7:=@Array.getElem?_eq_some_iff
theorem Row.of_owns {w:World}{base n:Nat}{e:TypeId}{v:Value}{xs:List Value}(h:w.ownsRow base e 1 v n xs):Row w v xs:=by
 have hn:n=xs.length:=by have:=h.1;omega
 subst hn;refine⟨?_⟩;have hh:=h;rcases h.2 with ⟨rfl,h0⟩ | ⟨g,cap,cur,rfl,hb,hg,h1,h2,h3,h4⟩
 .exact⟨none,0,by rw[h0],by omega,by unfold maxLen;omega,fun i x hx=>by have:=(U4.1 hx).1;omega⟩
 .refine⟨some ⟨g,0,none⟩,cap,rfl,h1,h2,fun i x hx=>⟨g,0,rfl,(I7.1 hg).1,?_⟩⟩;have:=hh.cells rfl i x hx;rwa[Addr.add_lit]at this
theorem Row.of_blk {w:World}{b n:Nat}{cs:Array Value}{t:TypeId}{xs:List Value}(h:Blk w b cs t)(hn:xs.length=n)(hm:n<=maxLen)(hx:∀ (i:Nat) (x:Value),xs[i]?=some x->cs[i]?=some x){c:Nat}(hc:n<=c)(hcm:c<=maxLen):Row w (.slice (some ⟨b,0,none⟩) n c) xs:=by
 subst hn;exact⟨_,c,rfl,hc,hcm,fun i x hi=>⟨b,0,rfl,h.lt,by rw[F9,h.cell];exact hx i x hi⟩⟩
theorem Row.cut {w:World}{a:Option Addr}{n c m:Nat}{xs:List Value}(h:Row w (.slice a n c) xs)(hm:m<=n):Row w (.slice a m c) (xs.take m):=by
 obtain⟨a',c',e,h1,h2,h3⟩:=h.ex;simp at e;obtain⟨rfl,rfl,rfl⟩:=e;refine⟨a,c,by rw[M6 hm],by rw[M6 hm];omega,h2,fun i x hx=>?_⟩;rw[Cd]at hx
 split at hx
 .exact h3 i x hx
 .cases hx
theorem Row.len {w:World}{a:Option Addr}{n c:Nat}{xs:List Value}(h:Row w (.slice a n c) xs):n=xs.length/\n<=c/\c<=maxLen:=by
 obtain⟨a',c',e,h1,h2,h3⟩:=h.ex;simp at e;obtain⟨rfl,rfl,rfl⟩:=e;exact⟨rfl,h1,h2⟩
theorem Row.at {w:World}{a:Option Addr}{n c:Nat}{xs:List Value}(h:Row w (.slice a n c) xs){i:Nat}{x:Value}(hx:xs[i]?=some x):∃ g o,a=some ⟨g,o,none⟩/\g<w.heap.size/\w.cell? ⟨g,o+i,none⟩=some x:=by
 obtain⟨a',c',e,h1,h2,h3⟩:=h.ex;simp at e;obtain⟨rfl,rfl,rfl⟩:=e;exact h3 i x hx
def b0p (k:IntKind)(l:List Nat):List Value:=l.map fun (x:Nat)=>Value.int k (x:Int)
@[simp] theorem ints_length (k:IntKind) (l:List Nat):(b0p k l).length=l.length:=by simp[b0p]
def e0f {k:IntKind}{l:List Nat}{i x:Nat}(h:l[i]?=some x):(b0p k l)[i]?=some (.int k (x:Int)):=by simp[b0p,h]
def d0J (k:IntKind)(l:List Nat)(m:Nat):(b0p k l).take m=b0p k (l.take m):=by simp[b0p,List.map_take]
def e0D (k:IntKind)(l m:List Nat):b0p k (l++m)=b0p k l++b0p k m:=by simp[b0p]
def Na:=@List.map_set
def f0s (k:IntKind)(l:List Nat)(i x:Nat):(b0p k l).set i (.int k (x:Int))=b0p k (l.set i x):=by simp[b0p,Na]
theorem Row.openI {k:IntKind}{w:World}{v:Value}{l:List Nat}(h:Row w v (b0p k l)):∃ a c,v=.slice a l.length c/\l.length<=c/\c<=9223372036854775807/\∀ (i x:Nat),l[i]?=some x->∃ g o,a=some ⟨g,o,none⟩/\g<w.heap.size/\w.cell? ⟨g,o+i,none⟩=some (.int k (x:Int)):=by
 obtain⟨a,c,rfl,h1,h2,h3⟩:=h.ex;rw[ints_length]at *;exact⟨a,c,rfl,h1,by unfold maxLen at h2;omega,fun i x hx=>h3 i _ (e0f hx)⟩
def IsN (k:IntKind)(w:World)(v:Value)(n:Nat):Prop:=Row w v (b0p k (limbs n))
theorem IsN.call {k:IntKind}{w w':World}{v:Value}{n:Nat}(h:IsN k w v n)(hb:Below w.heap.size w w'):IsN k w' v n:=Row.call h hb
theorem IsN.openI {k:IntKind}{w:World}{v:Value}{n:Nat}(h:IsN k w v n):∃ a c,v=.slice a (limbs n).length c/\(limbs n).length<=c/\c<=9223372036854775807/\∀ (i x:Nat),(limbs n)[i]?=some x->∃ g o,a=some ⟨g,o,none⟩/\g<w.heap.size/\w.cell? ⟨g,o+i,none⟩=some (.int k (x:Int)):=Row.openI h
theorem IsN.zero (k:IntKind)(w:World):IsN k w (.slice none 0 0) 0:=by
 unfold IsN;rw[limbs_zero];exact Row.nil w
def f0k {k:IntKind}{w wr w3:World}{t:TypeId}{v v3:Value}{s:List Nat}{z:Nat}{o:Obj}(hO:wr.ownsRow w.heap.size t 1 v s.length (b0p k s))(hB:Below w.heap.size w wr)
 (h3:w3.ownsRow w.heap.size t 1 v3 (s.length+1) (b0p k s ++ [.int k (z:Int)])) (hg:(wr.alloc o).grownBy w3 v.ownBlock):
 w3.ownsRow w.heap.size t 1 v3 (s ++ [z]).length (b0p k (s ++ [z]))/\Below w.heap.size w w3:=by
 refine⟨by rw[e0D,J5];exact h3,?_⟩;have h1:Below w.heap.size w (wr.alloc o):=hB.alloc hB.size o;refine h1.trans ⟨hg.os,hg.tape,hg.output,hg.size,fun i hi=>hg.block i (by have:=h1.size;omega) (fun e=>?_)⟩;have:=(hO.lt i e.symm).1;omega
def f0j {k:IntKind}{w wr w3:World}{t:TypeId}{v v3:Value}{s:List Nat}{z:Nat}{zi:Int}{o:Obj}(hO:wr.ownsRow w.heap.size t 1 v s.length (b0p k s))(hB:Below w.heap.size w wr)
 (h3:w3.ownsRow w.heap.size t 1 v3 (s.length+1) (b0p k s ++ [.int k zi])) (hg:(wr.alloc o).grownBy w3 v.ownBlock) (hz:zi=(z:Int)):
 w3.ownsRow w.heap.size t 1 v3 (s ++ [z]).length (b0p k (s ++ [z]))/\Below w.heap.size w w3:=by
 subst hz;exact f0k hO hB h3 hg
def g0F {k:IntKind}{w:World}{base:Nat}{t:TypeId}{v:Value}{s:List Nat}{n:Nat}(h:w.ownsRow base t 1 v s.length (b0p k s))(hs:s=limbs n):IsN k w v n:=by
 subst hs;exact Row.of_owns h
def a0K {l:List Nat}{i x:Nat}(h:l[i]?=some x):l.getD i 0=x:=by rw[Z3,h];rfl
def b0h {l:List Nat}{i:Nat}(h:l.length<=i):l.getD i 0=0:=by rw[Z3,U6 h];rfl
def b0l {w:World}{base:Nat}{e:TypeId}{size:Nat}{v:Value}{n:Nat}{xs:List Value}(h:w.ownsRow base e size v n xs):∃ a c,v=.slice a n c:=by
 rcases h.2 with ⟨rfl,rfl⟩ | ⟨g,cap,cur,rfl,_⟩
 .exact⟨_,_,rfl⟩
 .exact⟨_,_,rfl⟩
def Arr (k:IntKind)(t:TypeId)(w:World)(g:Nat)(l:List Nat):Prop:=Blk w g (b0p k l).toArray t
def K6:=@List.getElem?_toArray
theorem Arr.cell {k:IntKind}{t:TypeId}{w:World}{g:Nat}{l:List Nat}(h:Arr k t w g l){i x:Nat}(hx:l[i]?=some x):w.cell? ⟨g,i,none⟩=some (.int k (x:Int)):=by
 rw[Blk.cell h,K6];exact e0f hx
theorem Arr.free {k:IntKind}{t:TypeId}{w:World}{g:Nat}{l:List Nat}(h:Arr k t w g l)(i:Nat):w.frozen? ⟨g,i,none⟩=false:=Blk.free h i
theorem Arr.lt {k:IntKind}{t:TypeId}{w:World}{g:Nat}{l:List Nat}(h:Arr k t w g l):g<w.heap.size:=Blk.lt h
theorem Arr.set {k:IntKind}{t:TypeId}{w:World}{g:Nat}{l:List Nat}(h:Arr k t w g l)(i x:Nat):Arr k t (w.setCell ⟨g,i,none⟩ (.int k (x:Int))) g (l.set i x):=by
 have:=Blk.set h i (.int k (x:Int));unfold Arr;rw[<- f0s];simpa using this
theorem Arr.call {k:IntKind}{t:TypeId}{w w':World}{g:Nat}{l:List Nat}(h:Arr k t w g l)(hb:Below w.heap.size w w'):Arr k t w' g l:=Blk.call h hb
theorem Arr.drewN {k:IntKind}{t:TypeId}{w:World}{g:Nat}{l:List Nat}(h:Arr k t w g l)(n:Nat):Arr k t (w.drewN n) g l:=h
theorem Arr.row {k:IntKind}{t:TypeId}{w:World}{g:Nat}{l:List Nat}(h:Arr k t w g l){n c:Nat}(hn:n<=l.length)(hc:n<=c)(hm:c<=maxLen):Row w (.slice (some ⟨g,0,none⟩) n c) (b0p k (l.take n)):=by
 refine Row.of_blk h (by rw[ints_length,M6 hn]) (by omega) (fun i x hx=>?_) hc hm;rw[<- d0J,Cd]at hx
 split at hx
 .rw[K6];exact hx
 .cases hx
def Gu:=@Array.ext_getElem?
def Oh:=@Nat.mod_one
def p0z (k:IntKind)(n:Nat):madeCells #[.int k 0] n=(b0p k (List.replicate n 0)).toArray:=by
 apply Gu
 intro i;unfold madeCells b0p;by_cases hi:i<n<;>simp[hi,Oh]
theorem Arr.made (w:World)(k:IntKind)(t:TypeId)(n:Nat):Arr k t (w.alloc (.cells (madeCells #[.int k 0] n) t)) w.heap.size (List.replicate n 0):=by
 rw[p0z];exact Blk.new w _ t
def a0X {B:Nat}{a w:World}(h:Below B a w){g i:Nat}(hg:B<=g)(v:Value):Below B a (w.setCell ⟨g,i,none⟩ v):=h.setCell hg v
def ArrN (k:IntKind)(t:TypeId)(w:World)(g:Nat)(l:List Nat)(m:Nat)(x:Int):Prop:=Blk w g ((b0p k l).toArray.setIfInBounds m (.int k x)) t
theorem Arr.setN {k:IntKind}{t:TypeId}{w:World}{g:Nat}{l:List Nat}(h:Arr k t w g l)(m:Nat)(x:Int):ArrN k t (w.setCell ⟨g,m,none⟩ (.int k x)) g l m x:=Blk.set h m _
theorem ArrN.drewN {k:IntKind}{t:TypeId}{w:World}{g m:Nat}{x:Int}{l:List Nat}(h:ArrN k t w g l m x)(n:Nat):ArrN k t (w.drewN n) g l m x:=h
theorem ArrN.free {k:IntKind}{t:TypeId}{w:World}{g m:Nat}{x:Int}{l:List Nat}(h:ArrN k t w g l m x)(i:Nat):w.frozen? ⟨g,i,none⟩=false:=Blk.free h i
theorem ArrN.cell {k:IntKind}{t:TypeId}{w:World}{g m:Nat}{x:Int}{l:List Nat}(h:ArrN k t w g l m x){i y:Nat}(hi:i≠m)(hy:l[i]?=some y):w.cell? ⟨g,i,none⟩=some (.int k (y:Int)):=by
 rw[Blk.cell h,Array.getElem?_setIfInBounds_ne (fun e=>hi e.symm),K6];exact e0f hy
theorem ArrN.self {k:IntKind}{t:TypeId}{w:World}{g m:Nat}{x:Int}{l:List Nat}(h:ArrN k t w g l m x)(hm:m<l.length):w.cell? ⟨g,m,none⟩=some (.int k x):=by
 rw[Blk.cell h,Array.getElem?_setIfInBounds_self_of_lt (by simpa using hm)]
theorem ArrN.set {k:IntKind}{t:TypeId}{w:World}{g m:Nat}{x:Int}{l:List Nat}(h:ArrN k t w g l m x){i:Nat}(hi:i≠m)(z:Nat):ArrN k t (w.setCell ⟨g,i,none⟩ (.int k (z:Int))) g (l.set i z) m x:=by
 have:=Blk.set h i (.int k (z:Int));unfold ArrN;rw[<- f0s,show ((b0p k l).set i (.int k (z:Int))).toArray=(b0p k l).toArray.setIfInBounds i (.int k (z:Int)) by simp,Array.setIfInBounds_comm _ _ hi];exact this
theorem ArrN.back {k:IntKind}{t:TypeId}{w:World}{g m:Nat}{x:Int}{l:List Nat}(h:ArrN k t w g l m x)(z:Nat):Arr k t (w.setCell ⟨g,m,none⟩ (.int k (z:Int))) g (l.set m z):=by
 have:=Blk.set h m (.int k (z:Int));unfold Arr;rw[<- f0s];simpa using this
def f0t {a w:World}{r:Option Nat}(h:a.grownBy w r)(n:Nat):a.grownBy (w.drewN n) r:=⟨h.os,h.tape,h.output,h.size,h.block⟩
def d0y {a w:World}{g:Nat}(h:a.grownBy w (some g))(i:Nat)(v:Value):a.grownBy (w.setCell ⟨g,i,none⟩ v) (some g):=
 ⟨h.os,h.tape,h.output,by simpa[World.setCell]using h.size,fun j hj hne=>(Bc w _ v j (fun e=>hne (by rw[e]))).trans (h.block j hj hne)⟩
def d0r {a w:World}{g:Nat}(h:a.grownBy w (some g)){p:Addr}{x:Value}(hc:a.cell? p=some x)(hne:p.block≠g):w.cell? p=some x:=
 (World.cell?_of_block (h.block p.block (a0e hc) (fun e=>hne (by injection e)))).trans hc
theorem Row.gb {w w':World}{gv o n c g:Nat}{xs:List Value}(h:Row w (.slice (some ⟨gv,o,none⟩) n c) xs)(hg:w.grownBy w' (some g))(hne:gv≠g):Row w' (.slice (some ⟨gv,o,none⟩) n c) xs:=by
 have hl:=h.len;obtain⟨rfl,h1,h2⟩:=hl;refine⟨_,c,rfl,h1,h2,fun i x hx=>?_⟩;obtain⟨g',o',e,hg',hc⟩:=h.at hx;simp at e;obtain⟨rfl,rfl⟩:=e;exact⟨gv,o,rfl,J7 hg' hg.size,d0r hg hc hne⟩
theorem Arr.gb {k:IntKind}{t:TypeId}{w w':World}{g g':Nat}{l:List Nat}(h:Arr k t w g l)(hg:w.grownBy w' (some g'))(hne:g≠g'):Arr k t w' g l:=Blk.grown h hg (fun e=>hne (by injection e with e;exact e.symm))
def v0T {B:Nat}{a w w':World}{g:Nat}(h:Below B a w)(hB:B<=w.heap.size)(hg:w.grownBy w' (some g))(hge:B<=g):Below B a w':=
 h.trans ⟨hg.os,hg.tape,hg.output,hg.size,fun i hi=>hg.block i (by omega) (fun e=>by injection e;omega)⟩
theorem IsN.inj {k:IntKind}{w:World}{v:Value}{m n:Nat}(h:IsN k w v m)(h':IsN k w v n):m=n:=by
 obtain⟨a,c,rfl,h1,h2,h3⟩:=h.openI;obtain⟨a',c',e,k1,k2,k3⟩:=h'.openI;simp at e;obtain⟨rfl,hl,rfl⟩:=e;refine f0p (List.ext_getElem hl fun i hi hi'=>?_);obtain⟨g,o,rfl,hg,hc⟩:=h3 i _ (Q0 hi);obtain⟨g',o',e,hg',hc'⟩:=k3 i _ (Q0 hi');simp at e;obtain⟨rfl,rfl⟩:=e;rw[hc]at hc';simp at hc';omega
noncomputable def u0V (k:IntKind)(w:World)(v:Value):Nat:=open Classical in if h:∃ n,IsN k w v n then Classical.choose h else 0
def g0G {k:IntKind}{w:World}{v:Value}{n:Nat}(h:IsN k w v n):u0V k w v=n:=by
 have hx:∃ n,IsN k w v n:=⟨n,h⟩;unfold u0V;rw[dif_pos hx];exact (Classical.choose_spec hx).inj h
end Go.Proofs.YtfkpfpobmobnbaaGreatDoor
namespace Go.Proofs
theorem qj {α}{x:Option α}{a b:α}(h:x=some a)(e:a=b):x=some b:=h.trans (congrArg some e)
open Go.Shelf
def Tryz.lays160_ren:Go.Shelf.Ren:=⟨fun | 160=>204 | 232=>265 | 231=>264 | 227=>266 | 234=>268 | 233=>267 | 236=>270 | 235=>269 | 228=>316 | 271=>319 | 151=>318 | 197=>317 | 120=>341 | 152=>340 | 260=>339 | 137=>355 | 119=>356 | 224=>352 | 225=>351 | 217=>350 | 266=>361 | n=>n,fun | 9=>9 | 4=>4 | 3=>3 | 5=>5 | 117=>254 | 116=>253 | 0=>0 | 124=>257 | 21=>21 | 105=>308 | 46=>174 | 119=>339 | 139=>342 | 138=>341 | n=>n,fun | 3=>4 | 4=>5 | n=>n⟩
def Eg:=@Go.Proofs.Tryz.underlying0
def Hl:=@Go.Proofs.Tryz.isAgg0
def Gv:=@Go.Proofs.Tryz.sizeOf0
def Ez:=@Go.Proofs.Tryz.zeroValue0
def H9:=@Go.Proofs.Tryz.underlying3
def Ff:=@Go.Proofs.Tryz.isAgg3
def Ec:=@Go.Proofs.Tryz.sizeOf3
def Cn:=@Go.Proofs.Tryz.zeroValue3
def Bf:=@Go.Proofs.Tryz.underlying4
def Fg:=@Go.Proofs.Tryz.isAgg4
def El:=@Go.Proofs.Tryz.sizeOf4
def Co:=@Go.Proofs.Tryz.zeroValue4
def Bx:=@Go.Proofs.Tryz.underlying5
def Gq:=@Go.Proofs.Tryz.isAgg5
def Fr:=@Go.Proofs.Tryz.sizeOf5
def Do:=@Go.Proofs.Tryz.zeroValue5
def Ax:=@Go.Proofs.Tryz.underlying9
def Fh:=@Go.Proofs.Tryz.isAgg9
def Em:=@Go.Proofs.Tryz.sizeOf9
def Cp:=@Go.Proofs.Tryz.zeroValue9
def Ku:=@Go.Proofs.Tryz.underlying21
def Ls:=@Go.Proofs.Tryz.zeroValue21
def Dj:=@Go.Proofs.Tryz.underlying174
def Gd:=@Go.Proofs.Tryz.isAgg174
def Fp:=@Go.Proofs.Tryz.sizeOf174
def Dv:=@Go.Proofs.Tryz.zeroValue174
theorem Tryz.lays160:Go.Proofs.Lays.n160 Tryz.prog Tryz.lays160_ren:={
 mixed:=by kernel_rfl
 f119:=qj Tryz.func356 (by kernel_rfl)
 f120:=qj Tryz.func341 (by kernel_rfl)
 f137:=qj Tryz.func355 (by kernel_rfl)
 f151:=qj Tryz.func318 (by kernel_rfl)
 f152:=qj Tryz.func340 (by kernel_rfl)
 f160:=qj Tryz.func204 (by kernel_rfl)
 f197:=qj Tryz.func317 (by kernel_rfl)
 f217:=qj Tryz.func350 (by kernel_rfl)
 f224:=qj Tryz.func352 (by kernel_rfl)
 f225:=qj Tryz.func351 (by kernel_rfl)
 f227:=qj Tryz.func266 (by kernel_rfl)
 f228:=qj Tryz.func316 (by kernel_rfl)
 f231:=qj Tryz.func264 (by kernel_rfl)
 f232:=qj Tryz.func265 (by kernel_rfl)
 f233:=qj Tryz.func267 (by kernel_rfl)
 f234:=qj Tryz.func268 (by kernel_rfl)
 f235:=qj Tryz.func269 (by kernel_rfl)
 f236:=qj Tryz.func270 (by kernel_rfl)
 f260:=qj Tryz.func339 (by kernel_rfl)
 f266:=qj Tryz.func361 (by kernel_rfl)
 f271:=qj Tryz.func319 (by kernel_rfl)
 t0:=Eg
 a0:=Hl
 z0:=Gv
 v0:=Ez
 t3:=H9
 a3:=Ff
 z3:=Ec
 v3:=Cn
 t4:=Bf
 a4:=Fg
 z4:=El
 v4:=Co
 t5:=Bx
 a5:=Gq
 z5:=Fr
 v5:=Do
 t9:=Ax
 a9:=Fh
 z9:=Em
 v9:=Cp
 t21:=Ku
 a21:=Tryz.isAgg21
 z21:=Tryz.sizeOf21
 v21:=Ls
 t46:=Dj
 a46:=Gd
 z46:=Fp
 v46:=Dv
 t105:=Tryz.underlying308
 a105:=Tryz.isAgg308
 z105:=Tryz.sizeOf308
 v105:=Tryz.zeroValue308
 t116:=Tryz.underlying253
 a116:=Tryz.isAgg253
 z116:=Tryz.sizeOf253
 t117:=Tryz.underlying254
 a117:=Tryz.isAgg254
 z117:=Tryz.sizeOf254
 v117:=Tryz.zeroValue254
 t119:=Tryz.underlying339
 a119:=Tryz.isAgg339
 z119:=Tryz.sizeOf339
 t124:=Tryz.underlying257
 a124:=Tryz.isAgg257
 z124:=Tryz.sizeOf257
 v124:=Tryz.zeroValue257
 t138:=Tryz.underlying341
 a138:=Tryz.isAgg341
 z138:=Tryz.sizeOf341
 v138:=Tryz.zeroValue341
 t139:=Tryz.underlying342
 a139:=Tryz.isAgg342
 z139:=Tryz.sizeOf342
 v139:=Tryz.zeroValue342
 g3:=by kernel_rfl
 g4:=by kernel_rfl }
open Go.RowKit in
theorem Tryz.strings_Trim (s cutset:ByteArray)(w:World)(hs:s.size<=9223372036854775807)(hcs:cutset.size<4294967281)(hascii:∀ (j:Nat) b,cutset.data.toList[j]?=some b->b.toNat<128):
 Calls Tryz.prog 204 #[.string s,.string cutset] w fun e w'=>e=.returned (.string ⟨(Lib.trimS s.data.toList cutset.data.toList).toArray⟩)/\Below w.heap.size w w':=Any.strings_Trim_laid Tryz.lays160 (by kernel_rfl) s cutset w hs hcs hascii
def Tryz.laysPu14_ren:Go.Shelf.Ren:=⟨fun | 14=>309 | 16=>328 | 17=>228 | 19=>346 | 20=>347 | 21=>291 | 22=>292 | 23=>293 | 24=>294 | 25=>329 | 27=>64 | 26=>330 | 28=>166 | 29=>230 | 30=>295 | 31=>296 | 32=>297 | 33=>298 | 35=>240 | 34=>331 | 36=>332 | 37=>333 | 38=>334 | 39=>348 | 40=>349 | n=>n,fun | 9=>9 | 3=>3 | 22=>161 | 24=>169 | 25=>299 | 4=>4 | 34=>278 | 5=>5 | 36=>174 | 37=>210 | 0=>0 | 39=>281 | 21=>21 | 44=>315 | 47=>306 | 50=>336 | 48=>334 | 2=>2 | 52=>284 | 55=>286 | 59=>319 | 60=>224 | 20=>20 | 61=>320 | 65=>344 | 66=>345 | 67=>192 | n=>n,fun | 0=>0 | 1=>1 | 2=>2 | 3=>6 | 4=>7 | n=>n⟩
def Nc:=@Go.Proofs.Tryz.func295
def Nd:=@Go.Proofs.Tryz.func296
def Nf:=@Go.Proofs.Tryz.func297
def Ng:=@Go.Proofs.Tryz.func331
def Jq:=@Go.Proofs.Tryz.func240
def Nh:=@Go.Proofs.Tryz.func332
def Lu:=@Go.Proofs.Tryz.underlying2
def Mp:=@Go.Proofs.Tryz.zeroValue2
def Im:=@Go.Proofs.Tryz.underlying20
def Ni:=@Go.Proofs.Tryz.isAgg20
def Mc:=@Go.Proofs.Tryz.sizeOf20
def Jg:=@Go.Proofs.Tryz.zeroValue20
def Dk:=@Go.Proofs.Tryz.underlying161
def Gw:=@Go.Proofs.Tryz.isAgg161
def Gg:=@Go.Proofs.Tryz.sizeOf161
def Eo:=@Go.Proofs.Tryz.zeroValue161
def Ic:=@Go.Proofs.Tryz.underlying169
def Kv:=@Go.Proofs.Tryz.zeroValue169
def Dl:=@Go.Proofs.Tryz.underlying210
def In:=@Go.Proofs.Tryz.isAgg210
def Hu:=@Go.Proofs.Tryz.sizeOf210
def Gl:=@Go.Proofs.Tryz.zeroValue210
def Jv:=@Go.Proofs.Tryz.underlying306
def Kw:=@Go.Proofs.Tryz.zeroValue306
def Gx:=@Go.Proofs.Tryz.underlying284
def Kx:=@Go.Proofs.Tryz.zeroValue284
def Jw:=@Go.Proofs.Tryz.underlying286
def Ky:=@Go.Proofs.Tryz.zeroValue286
def Gy:=@Go.Proofs.Tryz.underlying319
def Md:=@Go.Proofs.Tryz.isAgg319
def Li:=@Go.Proofs.Tryz.sizeOf319
def Io:=@Go.Proofs.Tryz.zeroValue319
def Ed:=@Go.Proofs.Tryz.underlying224
def Gz:=@Go.Proofs.Tryz.isAgg224
def Gh:=@Go.Proofs.Tryz.sizeOf224
def Ep:=@Go.Proofs.Tryz.zeroValue224
def Jy:=@Go.Proofs.Tryz.underlying320
def Jz:=@Go.Proofs.Tryz.underlying344
def Kz:=@Go.Proofs.Tryz.zeroValue344
def Ka:=@Go.Proofs.Tryz.underlying345
def La:=@Go.Proofs.Tryz.zeroValue345
theorem Tryz.laysPu14:Go.Proofs.LaysPu.n14 Tryz.prog Tryz.laysPu14_ren:={
 mixed:=by kernel_rfl
 f14:=qj Tryz.func309 (by kernel_rfl)
 f16:=qj Tryz.func328 (by kernel_rfl)
 f17:=qj Tryz.func228 (by kernel_rfl)
 f19:=qj Tryz.func346 (by kernel_rfl)
 f20:=qj Tryz.func347 (by kernel_rfl)
 f21:=qj Tryz.func291 (by kernel_rfl)
 f22:=qj Tryz.func292 (by kernel_rfl)
 f23:=qj Tryz.func293 (by kernel_rfl)
 f24:=qj Tryz.func294 (by kernel_rfl)
 f25:=qj Tryz.func329 (by kernel_rfl)
 f26:=qj Tryz.func330 (by kernel_rfl)
 f27:=qj Tryz.func64 (by kernel_rfl)
 f28:=qj Tryz.func166 (by kernel_rfl)
 f29:=qj Tryz.func230 (by kernel_rfl)
 f30:=qj Nc (by kernel_rfl)
 f31:=qj Nd (by kernel_rfl)
 f32:=qj Nf (by kernel_rfl)
 f33:=qj Tryz.func298 (by kernel_rfl)
 f34:=qj Ng (by kernel_rfl)
 f35:=qj Jq (by kernel_rfl)
 f36:=qj Nh (by kernel_rfl)
 f37:=qj Tryz.func333 (by kernel_rfl)
 f38:=qj Tryz.func334 (by kernel_rfl)
 f39:=qj Tryz.func348 (by kernel_rfl)
 f40:=qj Tryz.func349 (by kernel_rfl)
 t0:=Eg
 a0:=Hl
 z0:=Gv
 v0:=Ez
 i0:=by kernel_rfl
 t2:=Lu
 a2:=Tryz.isAgg2
 z2:=Tryz.sizeOf2
 v2:=Mp
 i2:=by kernel_rfl
 t3:=H9
 a3:=Ff
 z3:=Ec
 v3:=Cn
 i3:=by kernel_rfl
 t4:=Bf
 a4:=Fg
 z4:=El
 v4:=Co
 i4:=by kernel_rfl
 t5:=Bx
 a5:=Gq
 z5:=Fr
 v5:=Do
 i5:=by kernel_rfl
 t9:=Ax
 a9:=Fh
 z9:=Em
 v9:=Cp
 i9:=by kernel_rfl
 t20:=Im
 a20:=Ni
 z20:=Mc
 v20:=Jg
 i20:=by kernel_rfl
 t21:=Ku
 a21:=Tryz.isAgg21
 z21:=Tryz.sizeOf21
 v21:=Ls
 i21:=by kernel_rfl
 t22:=Dk
 a22:=Gw
 z22:=Gg
 v22:=Eo
 i22:=by kernel_rfl
 t24:=Ic
 a24:=Tryz.isAgg169
 z24:=Tryz.sizeOf169
 v24:=Kv
 i24:=by kernel_rfl
 t25:=Tryz.underlying299
 a25:=Tryz.isAgg299
 z25:=Tryz.sizeOf299
 v25:=Tryz.zeroValue299
 i25:=by kernel_rfl
 t34:=Tryz.underlying278
 a34:=Tryz.isAgg278
 z34:=Tryz.sizeOf278
 v34:=Tryz.zeroValue278
 i34:=by kernel_rfl
 c34:=by kernel_rfl
 t36:=Dj
 a36:=Gd
 z36:=Fp
 v36:=Dv
 i36:=by kernel_rfl
 t37:=Dl
 a37:=In
 z37:=Hu
 v37:=Gl
 i37:=by kernel_rfl
 t39:=Tryz.underlying281
 a39:=Tryz.isAgg281
 z39:=Tryz.sizeOf281
 v39:=Tryz.zeroValue281
 i39:=by kernel_rfl
 t44:=Tryz.underlying315
 a44:=Tryz.isAgg315
 z44:=Tryz.sizeOf315
 v44:=Tryz.zeroValue315
 i44:=by kernel_rfl
 t47:=Jv
 a47:=Tryz.isAgg306
 z47:=Tryz.sizeOf306
 v47:=Kw
 i47:=by kernel_rfl
 t48:=Tryz.underlying334
 a48:=Tryz.isAgg334
 z48:=Tryz.sizeOf334
 v48:=Tryz.zeroValue334
 i48:=by kernel_rfl
 t50:=Tryz.underlying336
 a50:=Tryz.isAgg336
 z50:=Tryz.sizeOf336
 v50:=Tryz.zeroValue336
 i50:=by kernel_rfl
 t52:=Gx
 a52:=Tryz.isAgg284
 z52:=Tryz.sizeOf284
 v52:=Kx
 i52:=by kernel_rfl
 t55:=Jw
 a55:=Tryz.isAgg286
 z55:=Tryz.sizeOf286
 v55:=Ky
 i55:=by kernel_rfl
 t59:=Gy
 a59:=Md
 z59:=Li
 v59:=Io
 i59:=by kernel_rfl
 t60:=Ed
 a60:=Gz
 z60:=Gh
 v60:=Ep
 i60:=by kernel_rfl
 t61:=Jy
 a61:=Tryz.isAgg320
 z61:=Tryz.sizeOf320
 t65:=Jz
 a65:=Tryz.isAgg344
 z65:=Tryz.sizeOf344
 v65:=Kz
 i65:=by kernel_rfl
 t66:=Ka
 a66:=Tryz.isAgg345
 z66:=Tryz.sizeOf345
 v66:=La
 i66:=by kernel_rfl
 t67:=Tryz.underlying192
 a67:=Tryz.isAgg192
 z67:=Tryz.sizeOf192
 v67:=Tryz.zeroValue192
 i67:=by kernel_rfl
 g0:=by kernel_rfl
 m0:=by kernel_rfl
 g1:=by kernel_rfl
 m1:=by kernel_rfl
 g2:=by kernel_rfl
 m2:=by kernel_rfl
 g3:=by kernel_rfl
 m3:=by kernel_rfl
 g4:=by kernel_rfl
 m4:=by kernel_rfl }
theorem Tryz.strconv_ParseUint (s:ByteArray)(hmax:s.size<=9223372036854775806)(u:Nat)(h:Lib.parseUintB 64 s.data.toList=.ok u)(w:World):
 Calls Tryz.prog 309 #[.string s,.int .i64 10,.int .i64 64] w fun e w'=>e=.returned (.tuple #[.int .u64 u,.nilIface])/\(w'=w\/w'=Lib.bytesWorld w 5 s):=Any.strconv_ParseUint_10_at64_ok Tryz.laysPu14 s hmax u h w
def Tryz.lays169_ren:Go.Shelf.Ren:=⟨fun | 169=>261 | n=>n,fun | 70=>244 | 9=>9 | 0=>0 | 72=>246 | 37=>210 | 127=>306 | 3=>3 | 5=>5 | n=>n,fun | n=>n⟩
theorem Tryz.lays169:Go.Proofs.Lays.n169 Tryz.prog Tryz.lays169_ren:={
 mixed:=by kernel_rfl
 f169:=qj Tryz.func261 (by kernel_rfl)
 t0:=Eg
 a0:=Hl
 z0:=Gv
 v0:=Ez
 t3:=H9
 a3:=Ff
 z3:=Ec
 v3:=Cn
 t9:=Ax
 a9:=Fh
 z9:=Em
 v9:=Cp
 t37:=Dl
 a37:=In
 z37:=Hu
 v37:=Gl
 t70:=Tryz.underlying244
 a70:=Tryz.isAgg244
 z70:=Tryz.sizeOf244
 v70:=Tryz.zeroValue244
 t72:=Tryz.underlying246
 a72:=Tryz.isAgg246
 z72:=Tryz.sizeOf246
 v72:=Tryz.zeroValue246
 t127:=Jv
 a127:=Tryz.isAgg306
 z127:=Tryz.sizeOf306
 v127:=Kw }
theorem Tryz.builder_extra9:Builder.Extra Tryz.prog Tryz.lays169_ren:={
 sizeBuilder:=by kernel_rfl
 liesBuilder:=by kernel_rfl
 t5:=Bx
 a5:=Gq
 z5:=Fr
 v5:=Do
 infoByte:=by kernel_rfl
 cellsByte:=by kernel_rfl
 sizeByte:=by kernel_rfl
 neB5:=by decide }
open Go.RowKit in
theorem Tryz.builder_String (B b:Nat)(l:List UInt8)(w:World)(h:Lib.IsBuilderF 246 5 B b (Lib.byteCells l) w)(hBw:B<=w.heap.size):
 Calls Tryz.prog 261 #[.pointer (some ⟨b,0,none⟩)] w fun e w'=>e=.returned (.string ⟨l.toArray⟩)/\(Lib.IsBuilderF 246 5 B b (Lib.byteCells l) w'/\Below B w w'/\Lib.OthersKept 5 (some b) w w'):=Any.Builder_String_any_k Tryz.lays169 Tryz.builder_extra9 B b l w h hBw
def Tryz.lays103_ren:Go.Shelf.Ren:=⟨fun | 103=>308 | 210=>337 | 206=>354 | n=>n,fun | 9=>9 | 4=>4 | 24=>297 | 3=>3 | n=>n,fun | n=>n⟩
theorem Tryz.lays103:Go.Proofs.Lays.n103 Tryz.prog Tryz.lays103_ren:={
 mixed:=by kernel_rfl
 f103:=qj Tryz.func308 (by kernel_rfl)
 f206:=qj Tryz.func354 (by kernel_rfl)
 f210:=qj Tryz.func337 (by kernel_rfl)
 t3:=H9
 a3:=Ff
 z3:=Ec
 v3:=Cn
 t4:=Bf
 a4:=Fg
 z4:=El
 v4:=Co
 t9:=Ax
 a9:=Fh
 z9:=Em
 v9:=Cp
 t24:=Tryz.underlying297
 a24:=Tryz.isAgg297
 z24:=Tryz.sizeOf297
 v24:=Tryz.zeroValue297 }
theorem Tryz.strings_CutPrefix (s p:ByteArray)(w:World):
 Calls Tryz.prog 308 #[.string s,.string p] w fun e w'=>e=.returned (.tuple #[.string ⟨(Lib.trimPrefix s.data.toList p.data.toList).toArray⟩,.bool (Lib.hasPrefix s.data.toList p.data.toList)])/\w'=w:=Any.strings_CutPrefix Tryz.lays103 s p w
def Tryz.laysM171_ren:Go.Shelf.Ren:=⟨fun | 171=>64 | 243=>166 | 246=>230 | 283=>295 | 284=>296 | 285=>297 | 286=>298 | 129=>240 | 317=>331 | 318=>332 | 319=>333 | 320=>334 | 337=>348 | 338=>349 | n=>n,fun | 3=>3 | 9=>9 | 2=>2 | 4=>4 | 171=>284 | 0=>0 | 53=>161 | 37=>210 | 5=>5 | 173=>286 | 212=>319 | 51=>224 | 20=>20 | 213=>320 | 46=>174 | 232=>344 | 233=>345 | n=>n,fun | 17=>2 | 18=>6 | 19=>7 | n=>n⟩
theorem Tryz.laysM171:Go.Proofs.LaysM.n171 Tryz.prog Tryz.laysM171_ren:={
 mixed:=by kernel_rfl
 f129:=qj Jq (by kernel_rfl)
 f171:=qj Tryz.func64 (by kernel_rfl)
 f243:=qj Tryz.func166 (by kernel_rfl)
 f246:=qj Tryz.func230 (by kernel_rfl)
 f283:=qj Nc (by kernel_rfl)
 f284:=qj Nd (by kernel_rfl)
 f285:=qj Nf (by kernel_rfl)
 f286:=qj Tryz.func298 (by kernel_rfl)
 f317:=qj Ng (by kernel_rfl)
 f318:=qj Nh (by kernel_rfl)
 f319:=qj Tryz.func333 (by kernel_rfl)
 f320:=qj Tryz.func334 (by kernel_rfl)
 f337:=qj Tryz.func348 (by kernel_rfl)
 f338:=qj Tryz.func349 (by kernel_rfl)
 t0:=Eg
 a0:=Hl
 z0:=Gv
 v0:=Ez
 t2:=Lu
 a2:=Tryz.isAgg2
 z2:=Tryz.sizeOf2
 v2:=Mp
 t3:=H9
 a3:=Ff
 z3:=Ec
 v3:=Cn
 t4:=Bf
 a4:=Fg
 z4:=El
 v4:=Co
 t5:=Bx
 a5:=Gq
 z5:=Fr
 v5:=Do
 t9:=Ax
 a9:=Fh
 z9:=Em
 v9:=Cp
 t20:=Im
 a20:=Ni
 z20:=Mc
 v20:=Jg
 t37:=Dl
 a37:=In
 z37:=Hu
 v37:=Gl
 t46:=Dj
 a46:=Gd
 z46:=Fp
 v46:=Dv
 t51:=Ed
 a51:=Gz
 z51:=Gh
 v51:=Ep
 t53:=Dk
 a53:=Gw
 z53:=Gg
 v53:=Eo
 t171:=Gx
 a171:=Tryz.isAgg284
 z171:=Tryz.sizeOf284
 v171:=Kx
 t173:=Jw
 a173:=Tryz.isAgg286
 z173:=Tryz.sizeOf286
 v173:=Ky
 t212:=Gy
 a212:=Md
 z212:=Li
 v212:=Io
 t213:=Jy
 a213:=Tryz.isAgg320
 z213:=Tryz.sizeOf320
 t232:=Jz
 a232:=Tryz.isAgg344
 z232:=Tryz.sizeOf344
 v232:=Kz
 t233:=Ka
 a233:=Tryz.isAgg345
 z233:=Tryz.sizeOf345
 v233:=La
 g17:=by kernel_rfl
 g18:=by kernel_rfl
 g19:=by kernel_rfl
 i0:=by kernel_rfl
 i2:=by kernel_rfl
 i3:=by kernel_rfl
 i4:=by kernel_rfl
 i5:=by kernel_rfl
 i9:=by kernel_rfl
 i20:=by kernel_rfl
 i37:=by kernel_rfl
 i46:=by kernel_rfl
 i51:=by kernel_rfl
 i53:=by kernel_rfl
 i171:=by kernel_rfl
 i173:=by kernel_rfl
 i212:=by kernel_rfl
 i232:=by kernel_rfl
 i233:=by kernel_rfl
 m17:=by kernel_rfl
 m18:=by kernel_rfl
 m19:=by kernel_rfl }
open Go.RowKit Go.Sort in
theorem Tryz.strconv_Itoa (n : Int) (h0 : -9223372036854775808 ≤ n) (h1 : n ≤ 9223372036854775807) (w : World) (htab : Lib.TabIs Tryz.prog w "internal/strconv.uint64pow10" .u64 Lib.pow10Tab) :
 Calls Tryz.prog 64 #[.int .i64 n] w fun e w'=>e=.returned (.string ⟨(Lib.itoa n).toArray⟩)/\∃ k os,w'=grow (w.drewN k) os:=Any.strconv_Itoa Tryz.laysM171 n h0 h1 w htab
def Tryz.lays283_ren:Go.Shelf.Ren:=⟨fun | 283=>295 | n=>n,fun | 3=>3 | 9=>9 | 4=>4 | n=>n,fun | n=>n⟩
theorem Tryz.lays283:Go.Proofs.Lays.n283 Tryz.prog Tryz.lays283_ren:={
 mixed:=by kernel_rfl
 f283:=qj Nc (by kernel_rfl)
 t3:=H9
 a3:=Ff
 z3:=Ec
 v3:=Cn
 t4:=Bf
 a4:=Fg
 z4:=El
 v4:=Co
 t9:=Ax
 a9:=Fh
 z9:=Em
 v9:=Cp }
theorem Tryz.strconv_small (i:Nat)(h:i<100)(w:World):
 Calls Tryz.prog 295 #[.int .i64 i] w fun e w'=>e=.returned (.string ⟨(Lib.decDigits i).toArray⟩)/\w'=w:=Any.internal_strconv_small Tryz.lays283 i h w
def Tryz.laysM284_ren:Go.Shelf.Ren:=⟨fun | 284=>296 | 129=>240 | 317=>331 | 318=>332 | n=>n,fun | 53=>161 | 3=>3 | 212=>319 | 0=>0 | 4=>4 | 46=>174 | 5=>5 | 9=>9 | n=>n,fun | 17=>2 | n=>n⟩
theorem Tryz.laysM284:Go.Proofs.LaysM.n284 Tryz.prog Tryz.laysM284_ren:={
 mixed:=by kernel_rfl
 f129:=qj Jq (by kernel_rfl)
 f284:=qj Nd (by kernel_rfl)
 f317:=qj Ng (by kernel_rfl)
 f318:=qj Nh (by kernel_rfl)
 t0:=Eg
 a0:=Hl
 z0:=Gv
 v0:=Ez
 t3:=H9
 a3:=Ff
 z3:=Ec
 v3:=Cn
 t4:=Bf
 a4:=Fg
 z4:=El
 v4:=Co
 t5:=Bx
 a5:=Gq
 z5:=Fr
 v5:=Do
 t9:=Ax
 a9:=Fh
 z9:=Em
 v9:=Cp
 t46:=Dj
 a46:=Gd
 z46:=Fp
 v46:=Dv
 t53:=Dk
 a53:=Gw
 z53:=Gg
 v53:=Eo
 t212:=Gy
 a212:=Md
 z212:=Li
 v212:=Io
 g17:=by kernel_rfl
 i0:=by kernel_rfl
 i3:=by kernel_rfl
 i4:=by kernel_rfl
 i5:=by kernel_rfl
 i9:=by kernel_rfl
 i46:=by kernel_rfl
 i53:=by kernel_rfl
 i212:=by kernel_rfl
 m17:=by kernel_rfl }
theorem Tryz.strconv_numDigits (u : Nat) (h1 : 1 ≤ u) (h2 : u < 18446744073709551616) (w : World) (htab : Lib.TabIs Tryz.prog w "internal/strconv.uint64pow10" .u64 Lib.pow10Tab) :
 Calls Tryz.prog 296 #[.int .u64 u] w fun e w'=>e=.returned (.int .i64 (Lib.nDigits u))/\w'=w:=Any.internal_strconv_numDigits Tryz.laysM284 u h1 h2 w htab
def Tryz.lays285_ren:Go.Shelf.Ren:=⟨fun | 285=>297 | n=>n,fun | 37=>210 | 53=>161 | 3=>3 | 4=>4 | 51=>224 | 9=>9 | 5=>5 | 0=>0 | n=>n,fun | n=>n⟩
theorem Tryz.lays285:Go.Proofs.Lays.n285 Tryz.prog Tryz.lays285_ren:={
 mixed:=by kernel_rfl
 f285:=qj Nf (by kernel_rfl)
 t0:=Eg
 a0:=Hl
 z0:=Gv
 v0:=Ez
 t3:=H9
 a3:=Ff
 z3:=Ec
 v3:=Cn
 t4:=Bf
 a4:=Fg
 z4:=El
 v4:=Co
 t5:=Bx
 a5:=Gq
 z5:=Fr
 v5:=Do
 t9:=Ax
 a9:=Fh
 z9:=Em
 v9:=Cp
 t37:=Dl
 a37:=In
 z37:=Hu
 v37:=Gl
 t51:=Ed
 a51:=Gz
 z51:=Gh
 v51:=Ep
 t53:=Dk
 a53:=Gw
 z53:=Gg
 v53:=Eo }
open Go.RowKit Go.Sort in
theorem Tryz.strconv_formatBase10 (blk off cap:Nat)(u:Nat)(d:Array UInt8)(w:World)(hH:Holds (fun (b:UInt8)=>Value.int .u8 (b.toNat:Int)) w blk off d)(hu:u<10 ^ d.size)(hu64:u<18446744073709551616)(hsz:d.size<4611686018427387904):
 Calls Tryz.prog 297 #[.slice (some ⟨blk,off,none⟩) d.size cap,.int .u64 u] w fun e w'=>
  e=.returned (.tuple #[])/\∃ (n v':Nat) (dk:Array UInt8),w'=(putRow (fun (b:UInt8)=>Value.int .u8 (b.toNat:Int)) w blk off dk).drewN n/\Lib.FmtInv d.size u 0 v' dk:=Any.internal_strconv_formatBase10 Tryz.lays285 blk off cap u d w hH hu hu64 hsz
def Tryz.lays166_ren:Go.Shelf.Ren:=⟨fun | 166=>260 | 240=>315 | 276=>338 | n=>n,fun | 0=>0 | 3=>3 | 4=>4 | 5=>5 | 9=>9 | 20=>20 | 37=>210 | 70=>244 | 72=>246 | 75=>169 | 80=>192 | 164=>323 | n=>n,fun | n=>n⟩
theorem Tryz.lays166:Go.Proofs.Lays.n166 Tryz.prog Tryz.lays166_ren:={
 mixed:=by kernel_rfl
 f166:=qj Tryz.func260 (by kernel_rfl)
 f240:=qj Tryz.func315 (by kernel_rfl)
 f276:=qj Tryz.func338 (by kernel_rfl)
 t0:=Eg
 a0:=Hl
 z0:=Gv
 v0:=Ez
 t3:=H9
 a3:=Ff
 z3:=Ec
 v3:=Cn
 t4:=Bf
 a4:=Fg
 z4:=El
 v4:=Co
 t9:=Ax
 a9:=Fh
 z9:=Em
 v9:=Cp
 t20:=Im
 a20:=Ni
 z20:=Mc
 v20:=Jg
 t37:=Dl
 a37:=In
 z37:=Hu
 v37:=Gl
 t70:=Tryz.underlying244
 a70:=Tryz.isAgg244
 z70:=Tryz.sizeOf244
 v70:=Tryz.zeroValue244
 t72:=Tryz.underlying246
 a72:=Tryz.isAgg246
 z72:=Tryz.sizeOf246
 v72:=Tryz.zeroValue246
 t75:=Ic
 a75:=Tryz.isAgg169
 z75:=Tryz.sizeOf169
 v75:=Kv
 t164:=Tryz.underlying323
 a164:=Tryz.isAgg323
 z164:=Tryz.sizeOf323
 v164:=Tryz.zeroValue323 }
theorem Tryz.builder_extra:Builder.Extra Tryz.prog Tryz.lays166_ren:={
 sizeBuilder:=by kernel_rfl
 liesBuilder:=by kernel_rfl
 t5:=Bx
 a5:=Gq
 z5:=Fr
 v5:=Do
 infoByte:=by kernel_rfl
 cellsByte:=by kernel_rfl
 sizeByte:=by kernel_rfl
 neB5:=by decide }
open Go.RowKit in
theorem Tryz.builder_WriteString (B b:Nat)(bs:List Value)(s:ByteArray)(w:World)(h:Lib.IsBuilderF 246 5 B b bs w)(hlen:bs.length+s.size<=140737488355328)(hBw:B<=w.heap.size):
 Calls Tryz.prog 260 #[.pointer (some ⟨b,0,none⟩),.string s] w fun e w'=>e=.returned (.tuple #[.int .i64 s.size,.nilIface])/\(Lib.BuilderAtF 246 5 B b (.pointer (some ⟨b,0,none⟩)) (bs++Lib.strCells s) w'/\Below B w w'/\Lib.OthersKept 5 (some b) w w'):=Any.Builder_WriteString_k Tryz.lays166 Tryz.builder_extra B b bs s w h hlen hBw
#print axioms Tryz.builder_WriteString
end Go.Proofs
namespace Go.Proofs.YtfkpfpobmobnbaaGreatDoor
open Go.Proofs.Tryz Go.RowKit
open Go.Lib (decDigits nDigits)
section
open Go.Lib (decDigits nDigits decDigits_length nDigits_small nDigits_big digitVal decFrom decNat)
def i0c (b:UInt8):Bool:=decide (48<=b.toNat/\b.toNat<=57)
def a0U {b:UInt8}:i0c b=true↔48<=b.toNat/\b.toNat<=57:=by simp[i0c]
def dv (l:List UInt8):Nat:=l.foldl (fun a b=>10*a+(b.toNat-48)) 0
def Mq:=@List.foldl_cons
def v0v (l:List UInt8)(a:Nat):l.foldl (fun a b=>10*a+(b.toNat-48)) a=10 ^ l.length*a+dv l:=by
 induction l generalizing a with
 | nil=>simp[dv]
 | cons b l ih=>
  unfold dv;rw[Mq,Mq,ih,ih (10*0+(b.toNat-48)),E8,E9,Al,A9,Gf,F9];omega
@[simp] theorem dv_nil:dv []=0:=rfl
def c0z (l k:List UInt8):dv (l++k)=10 ^ k.length*dv l+dv k:=by
 unfold dv;rw[List.foldl_append,v0v]
 rfl
def j0V (l:List UInt8)(b:UInt8):dv (l ++ [b])=10*dv l+(b.toNat-48):=by
 rw[c0z];simp[dv]
def allDig (l:List UInt8):Prop:=∀ b∈l,i0c b=true
theorem allDig.append {l k:List UInt8}(h:allDig l)(h':allDig k):allDig (l++k):=fun b hb=>(Ie.1 hb).elim (h b) (h' b)
theorem allDig.left {l k:List UInt8}(h:allDig (l++k)):allDig l:=fun b hb=>h b (List.mem_append_left _ hb)
theorem allDig.take {l:List UInt8}(h:allDig l)(i:Nat):allDig (l.take i):=fun b hb=>h b (Iu hb)
theorem allDig.drop {l:List UInt8}(h:allDig l)(i:Nat):allDig (l.drop i):=fun b hb=>h b (Lx hb)
def b0z {d:Nat}(h:d<10):(UInt8.ofNat (48+d)).toNat=48+d:=by
 rw[UInt8.toNat_ofNat'];omega
def h0A {b:UInt8}(h:i0c b=true):UInt8.ofNat (48+(b.toNat-48))=b:=by
 have:=a0U.1 h;rw[show 48+(b.toNat-48)=b.toNat by omega,UInt8.ofNat_toNat]
def a0u {u:Nat}(h:u<10):decDigits u = [UInt8.ofNat (48+u)]:=by rw[decDigits,dif_pos h]
def a0Y {u:Nat}(h:¬ u<10):decDigits u=decDigits (u / 10) ++ [UInt8.ofNat (48+u%10)]:=by rw[decDigits,dif_neg h]
def Kb:=@List.mem_singleton
def b0F (n:Nat):allDig (decDigits n):=by
 induction n using Nat.strongRecOn with
 | _ n ih=>
  by_cases h:n<10
  .rw[a0u h];intro b hb;rw[Kb.1 hb,a0U,b0z h];omega
  .rw[a0Y h];refine (ih _ (by omega)).append fun b hb=>?_
   rw[Kb.1 hb,a0U,b0z (by omega)];omega
def g0i (n:Nat):dv (decDigits n)=n:=by
 induction n using Nat.strongRecOn with
 | _ n ih=>
  by_cases h:n<10
  .rw[a0u h];simp only[dv,Mq,List.foldl_nil,b0z h];omega
  .rw[a0Y h,j0V,ih _ (by omega),b0z (by omega)];omega
def e0h (n:Nat):decDigits n ≠ []:=by
 by_cases h:n<10
 .rw[a0u h];simp
 .rw[a0Y h];simp
def i0d (n:Nat):0<(decDigits n).length:=by
 have:=e0h n;cases h:decDigits n with
 | nil=>exact absurd h this
 | cons x l=>simp
def c0f:decDigits 0 = [48]:=by rw[a0u (by omega)];rfl
def f0X:decDigits 1 = [49]:=by rw[a0u (by omega)];rfl
def v0M {n:Nat}(h:0<n):∀ b,(decDigits n).head? = some b->b≠48:=by
 induction n using Nat.strongRecOn with
 | _ n ih=>
  intro b hb;by_cases hn:n<10
  .rw[a0u hn,List.head?_cons]at hb;injection hb with hb
   rw[<- hb];intro e;have:=congrArg UInt8.toNat e;rw[b0z hn]at this;simp at this;omega
  .rw[a0Y hn]at hb;refine ih (n / 10) (by omega) (by omega) b ?_;cases hd:decDigits (n / 10) with
   | nil=>exact absurd hd (e0h _)
   | cons x l=>rw[hd]at hb;simpa using hb
def d0c (l:List UInt8):Prop:=l ≠ []/\(l = [48]\/l.head? ≠ some 48)/\allDig l
def i0D (n:Nat):d0c (decDigits n):=by
 refine⟨e0h n,?_,b0F n⟩;rcases H8 n with rfl | h
 .exact .inl c0f
 .exact .inr fun e=>v0M h 48 e rfl
def Cs:=@Nat.pos_of_ne_zero
def e0J {l:List UInt8}(h:d0c l):l=decDigits (dv l):=by
 suffices H:∀ (k:Nat) (l:List UInt8),l.length=k->d0c l->l=decDigits (dv l) from H _ l rfl h
 intro k
 induction k with
 | zero=>intro l hl h;exact absurd (Aw hl) h.1
 | succ k ih=>
  intro l hl h;obtain⟨t,b,rfl⟩:∃ t b,l=t ++ [b]:=⟨l.dropLast,l.getLast h.1,(Ib h.1).symm⟩;have hb:i0c b=true:=h.2.2 b (by simp);have hb2:=a0U.1 hb;rw[j0V];cases t with
  | nil=>
   rw[a0u (by simp;omega)];simp[h0A hb]
  | cons x t=>
   have hx:x≠48:=fun e=>by
    subst e;rcases h.2.1 with h2 | h2
    .simp at h2
    .exact h2 rfl
   have hf:d0c (x::t):=⟨by simp,.inr (by simpa using hx),h.2.2.left⟩;have ht:=ih (x::t) (by simp at hl;simp;omega) hf;have hp:0<dv (x::t):=Cs fun e=>by
    rw[e,c0f]at ht;injection ht with h1 _
    exact hx h1
   generalize hm:dv (x::t)=m at *
   rw[a0Y (by omega),show (10*m+(b.toNat-48)) / 10=m by omega,show (10*m+(b.toNat-48))%10=b.toNat-48 by omega,h0A hb,<- ht]
def i0C {l:List UInt8}:d0c l ↔ ∃ n,l=decDigits n:=⟨fun h=>⟨_,e0J h⟩,fun ⟨n,e⟩=>e ▸ i0D n⟩
def v0J {s:List UInt8}{e:Nat}(he:e<=s.length)(h9:9<=e):dv (s.take e)=1000000000*dv (s.take (e-9))+dv ((s.drop (e-9)).take 9):=by
 have h1:s.take e=s.take (e-9)++(s.drop (e-9)).take 9:=by
  conv=>lhs;rw[show e=(e-9)+9 by omega,List.take_add]
 rw[h1,c0z,M6 (by simp;omega)]
def v0I {l:List UInt8}(h:allDig l):dv l<10 ^ l.length:=by
 suffices H:∀ (k:Nat) (l:List UInt8),l.length=k->allDig l->dv l<10 ^ k from H _ l rfl h
 intro k
 induction k with
 | zero=>intro l hl _;rw[Aw hl];simp
 | succ k ih=>
  intro l hl h;have hne:l ≠ []:=fun e=>by subst e;simp at hl
  obtain⟨t,b,rfl⟩:∃ t b,l=t ++ [b]:=⟨l.dropLast,l.getLast hne,(Ib hne).symm⟩;have hb:=a0U.1 (h b (by simp));have:=ih t (by simp at hl;omega) h.left;rw[j0V,E9];omega
def pad (k n:Nat):List UInt8:=List.replicate (k-nDigits n) 48++decDigits n
def He:=@Go.Lib.nDigits_small
theorem a0l {n k:Nat}(hk:0<k)(h:n<10 ^ k):nDigits n<=k:=by
 induction k generalizing n with
 | zero=>omega
 | succ k ih=>
  by_cases hn:n<10
  .rw[He hn];omega
  .rw[nDigits_big hn];have:n / 10<10 ^ k:=by rw[E9]at h;omega
   have hk':0<k:=Cs fun e=>by subst e;simp at this;omega
   have:=ih hk' this;omega
def Au:=@List.append_assoc
def u0O {k n:Nat}(hk:0<k):pad (k+1) n=pad k (n / 10) ++ [UInt8.ofNat (48+n%10)]:=by
 unfold pad;by_cases hn:n<10
 .rw[He hn,a0u hn,Ds hn,Bw hn,He (by omega),c0f];have:(48:UInt8)=48:=rfl;rw[show k+1-1=(k-1)+1 by omega,List.replicate_succ']
 .rw[nDigits_big hn,a0Y hn,Nat.add_sub_add_right,Au]
def Eb:=@Nat.mul_pos
def z0c (k:Nat):∀ {q r:Nat},0<q->r<10 ^ (k+1)->decDigits (10 ^ (k+1)*q+r)=decDigits q++pad (k+1) r:=by
 induction k with
 | zero=>
  intro q r hq hr;have hr':r<10:=by simpa using hr
  rw[show 10 ^ (0+1)*q+r=10*q+r by simp,a0Y (by omega),show (10*q+r) / 10=q by omega,show (10*q+r)%10=r by omega];unfold pad;rw[He hr',a0u hr']
  rfl
 | succ k ih=>
  intro q r hq hr;have e:10 ^ (k+1+1)*q=10*(10 ^ (k+1)*q):=by rw[E9 10 (k+1),M9 _ 10,A9]
  have hr':r / 10<10 ^ (k+1):=by rw[E9]at hr;omega
  have hp:0<10 ^ (k+1)*q:=Eb (Gb (by omega)) hq;rw[e,a0Y (by omega),show (10*(10 ^ (k+1)*q)+r) / 10=10 ^ (k+1)*q+r / 10 by omega,show (10*(10 ^ (k+1)*q)+r)%10=r%10 by omega,ih hq hr',Au,<- u0O (by omega)]
def Ha:=@Nat.add_comm
def o0p {q r:Nat}(hq:0<q)(hr:r<1000000000):decDigits (r+1000000000*q)=decDigits q++pad 9 r:=by
 rw[Ha];exact z0c 8 hq hr
def Er:=@List.length_replicate
def I9:=@Go.Lib.decDigits_length
def p0q {r:Nat}(hr:r<1000000000):(pad 9 r).length=9:=by
 have:=a0l (k:=9) (by omega) hr;rw[pad,J5,Er,I9];omega
def l0a {q r:Nat}(hq:0<q)(hr:r<1000000000):nDigits (r+1000000000*q)=nDigits q+9:=by
 rw[<- I9,o0p hq hr,J5,I9,p0q hr]
def s0Y {l:List Nat}(h:Sm l){i x:Nat}(hx:l[i]?=some x)(hp:0<val (l.drop (i+1))):decDigits (val (l.drop i))=decDigits (val (l.drop (i+1)))++pad 9 x:=by
 rw[c0n hx,o0p hp (h.get hx)]
def j0y {l:List Nat}(h:Sm l)(hne:l ≠ [])(hl:∀ x,l.getLast? = some x->x≠0):nDigits (val l)=9*(l.length-1)+nDigits (l.getLast hne):=by
 induction l with
 | nil=>exact absurd rfl hne
 | cons x l ih=>
  cases l with
  | nil=>simp[a0P]
  | cons y l=>
   have hl':∀ x,(y::l).getLast? = some x->x≠0:=fun z hz=>hl z (by rw[Ju];exact hz)
   have hv:0<val (y::l):=Cs fun e=>by
    have:=j0B h.tail hl';rw[e]at this;simp at this
   have e:(x::y::l).getLast hne=(y::l).getLast (by simp):=List.getLast_cons (by simp);rw[a0P,l0a hv h.head,ih h.tail (by simp) hl',e];simp only[E8];omega
def Ch:=@Go.Lib.lt_pow_nDigits
def a0r {a b:Nat}(h:a<=b):nDigits a<=nDigits b:=by
 refine a0l (Go.Lib.nDigits_pos b) (Di h (Ch b))
def Az:=@Option.some.injEq
def i0J {l:List UInt8}(h:allDig l)(a:Nat):decFrom a l=some (10 ^ l.length*a+dv l):=by
 induction l generalizing a with
 | nil=>simp[decFrom]
 | cons b l ih=>
  have hb:=a0U.1 (h b (by simp));have hd:digitVal b=some (b.toNat-48):=by rw[digitVal,J3 hb]
  have hrest:allDig l:=fun x hx=>h x (Br _ hx)
  simp only[decFrom,hd];rw[ih hrest,E8,E9];have:dv (b::l)=10 ^ l.length*(b.toNat-48)+dv l:=by
   have:=c0z [b] l;rw[show dv [b]=b.toNat-48 by simp[dv]]at this;exact this
  rw[this,Al,A9,M9 a 10];simp only[Az];omega
def s0S {s:List UInt8}{e:Nat}(he:e<=s.length):dv (s.take e)=1000000000*dv (s.take (e-9))+dv ((s.drop (e-9)).take (e-(e-9))):=by
 by_cases h9:9<=e
 .rw[v0J he h9,show e-(e-9)=9 by omega]
 .rw[show e-9=0 by omega];simp
structure ReadI (l:List UInt8)(e:Nat)(s:List Nat):Prop where
 le:e<=l.length
 sm:Sm s
 eq:val s+1000000000 ^ s.length*dv (l.take e)=dv l
theorem ReadI.start (l:List UInt8):ReadI l l.length []:=⟨O4 _,Sm.nil,by simp⟩
def J6:=@Nat.pow_le_pow_right
theorem ReadI.next {l:List UInt8}{e:Nat}{s:List Nat}(h:ReadI l e s)(hd:allDig l):ReadI l (e-9) (s ++ [dv ((l.drop (e-9)).take (e-(e-9)))]):=by
 have hlt:dv ((l.drop (e-9)).take (e-(e-9)))<1000000000:=by
  have h1:=v0I ((hd.drop (e-9)).take (e-(e-9)));have h2:10 ^ ((l.drop (e-9)).take (e-(e-9))).length<=10 ^ 9:=J6 (by omega) (by simp;omega);omega
 refine⟨by have:=h.le;omega,h.sm.append (Sm.cons hlt Sm.nil),?_⟩;have he:=h.eq;have hc:=s0S h.le;rw[d0T,J5,U8,E9];rw[hc,Al]at he;rw[A9];omega
theorem ReadI.done {l:List UInt8}{s:List Nat}(h:ReadI l 0 s):val s=dv l:=by
 have:=h.eq;simpa using this
def l0w {l:List UInt8}{i:Nat}{b:UInt8}(h:l[i]?=some b):dv (l.take (i+1))=10*dv (l.take i)+(b.toNat-48):=by
 have hi:i<l.length:=(U4.1 h).1;have hx:l[i]=b:=(U4.1 h).2;rw[Fe hi,j0V,hx]
def Es:=@Array.getElem?_toList
def D9:=@Array.getElem?_eq_getElem
def c0O {s:ByteArray}{i:Nat}(h:i<s.size):s.data.toList[i]?=some s[i]:=by
 have h':i<s.data.size:=h;rw[Es,D9 h'];rfl
def o0s {L:List UInt8}(h:allDig L){a k:Nat}(hk:k<=9):dv ((L.drop a).take k)<1000000000:=by
 have h1:=v0I ((h.drop a).take k);have h2:10 ^ ((L.drop a).take k).length<=10 ^ 9:=J6 (by omega) (by simp;omega);omega
def p0U {L:List UInt8}{a i:Nat}{b:UInt8}(h:L[i]?=some b)(ha:a<=i):dv ((L.drop a).take (i+1-a))=10*dv ((L.drop a).take (i-a))+(b.toNat-48):=by
 rw[show i+1-a=(i-a)+1 by omega];exact l0w (by rw[Bm,show a+(i-a)=i by omega];exact h)
end
def e0r (l:List UInt8):List Value:=l.map fun b=>Value.int .u8 (b.toNat:Int)
@[simp] theorem bytesL_length (l:List UInt8):(e0r l).length=l.length:=by simp[e0r]
def p0X {l:List UInt8}{i:Nat}{b:UInt8}(h:l[i]?=some b):(e0r l)[i]?=some (.int .u8 (b.toNat:Int)):=by simp[e0r,h]
def BArr (t:TypeId)(w:World)(g:Nat)(l:List UInt8):Prop:=Blk w g (e0r l).toArray t
theorem BArr.cell {t:TypeId}{w:World}{g:Nat}{l:List UInt8}(h:BArr t w g l){i:Nat}{b:UInt8}(hb:l[i]?=some b):w.cell? ⟨g,i,none⟩=some (.int .u8 (b.toNat:Int)):=by
 rw[Blk.cell h,K6];exact p0X hb
theorem BArr.free {t:TypeId}{w:World}{g:Nat}{l:List UInt8}(h:BArr t w g l)(i:Nat):w.frozen? ⟨g,i,none⟩=false:=Blk.free h i
theorem BArr.set {t:TypeId}{w:World}{g:Nat}{l:List UInt8}(h:BArr t w g l)(i:Nat)(b:UInt8):BArr t (w.setCell ⟨g,i,none⟩ (.int .u8 (b.toNat:Int))) g (l.set i b):=by
 have:=Blk.set h i (.int .u8 (b.toNat:Int));unfold BArr;rw[show e0r (l.set i b)=(e0r l).set i (.int .u8 (b.toNat:Int)) by simp[e0r,Na]];simpa using this
theorem BArr.made (w:World)(t:TypeId)(n:Nat):BArr t (w.alloc (.cells (madeCells #[.int .u8 0] n) t)) w.heap.size (List.replicate n 0):=by
 rw[show madeCells #[.int .u8 0] n=(e0r (List.replicate n 0)).toArray from ?_]
 .exact Blk.new w _ t
 .apply Gu
  intro i;unfold madeCells e0r;by_cases hi:i<n<;>simp[hi,Oh]
structure WrI (n i:Nat)(bs:List UInt8):Prop where
 len:bs.length=9*(limbs n).length
 dig:allDig (bs.take (9*i))
 eq:dv (bs.take (9*i))=val ((limbs n).drop ((limbs n).length-i))
structure WrJ (n i x k y:Nat)(bs:List UInt8):Prop where
 len:bs.length=9*(limbs n).length
 dig:allDig (bs.take (9*i))
 eq:dv (bs.take (9*i))=val ((limbs n).drop ((limbs n).length-i))
 dig2:allDig ((bs.drop (9*i+k)).take (9-k))
 eq2:dv ((bs.drop (9*i+k)).take (9-k))=x%10 ^ (9-k)
 y:y=x / 10 ^ (9-k)
theorem WrI.start (n:Nat):WrI n 0 (List.replicate (9*(limbs n).length) 0):=
 ⟨by simp,fun b hb=>by simp at hb,by simp⟩
theorem WrI.enter {n i x:Nat}{bs:List UInt8}(h:WrI n i bs):WrJ n i x 9 x bs:=
 ⟨h.len,h.dig,h.eq,fun b hb=>by simp at hb,by simp[Oh],by simp⟩
def Gr:=@List.take_succ_cons
def Ba:=@List.length_take
def Af:=@List.length_drop
def Jk:=@List.take_set_of_le
theorem WrJ.next {n i x k y:Nat}{bs:List UInt8}(h:WrJ n i x (k+1) y bs)(hk:k<9)(hi:i<(limbs n).length):WrJ n i x k (y / 10) (bs.set (9*i+k) (UInt8.ofNat (48+y%10))):=by
 have hlt:9*i+k<bs.length:=by rw[h.len];omega
 have e:((bs.set (9*i+k) (UInt8.ofNat (48+y%10))).drop (9*i+k)).take (9-k)=UInt8.ofNat (48+y%10)::(bs.drop (9*i+(k+1))).take (9-(k+1)):=by
  rw[S9 (by simpa using hlt),Hk (by omega),show 9-k=(9-(k+1))+1 by omega,Gr];simp[Dh]
 have el:((bs.drop (9*i+(k+1))).take (9-(k+1))).length=8-k:=by
  rw[Ba,Af,h.len];omega
 have hp:10 ^ (9-k)=10 ^ (9-(k+1))*10:=by rw[show 9-k=(9-(k+1))+1 by omega,E9]
 refine⟨by rw[Bj,h.len],by rw[Jk (by omega)];exact h.dig,by rw[Jk (by omega)];exact h.eq,?_,?_,?_⟩
 .rw[e];intro b hb;rcases Ck.1 hb with rfl | hb
  .rw[a0U,b0z (by omega)];omega
  .exact h.dig2 b hb
 .rw[e,show ∀ (c:UInt8) (t:List UInt8),c::t = [c]++t from fun _ _=>rfl,c0z,el,h.eq2,hp,Nat.mod_mul,<- h.y];simp only[dv,Mq,List.foldl_nil,b0z (show y%10<10 by omega)];rw[show 8-k=9-(k+1) by omega,show 10*0+(48+y%10-48)=y%10 by omega,Ha]
 .rw[h.y,hp,Nat.div_div_eq_div_mul]
theorem WrJ.leave {n i x y:Nat}{bs:List UInt8}(h:WrJ n i x 0 y bs)(hx:(limbs n)[(limbs n).length-1-i]?=some x)(hi:i<(limbs n).length):WrI n (i+1) bs:=by
 have e:bs.take (9*(i+1))=bs.take (9*i)++(bs.drop (9*i)).take 9:=by rw[show 9*(i+1)=9*i+9 by omega,List.take_add]
 have h2:=h.eq2;have h3:=h.dig2;rw[At]at h2 h3;have hxl:=(a0o n).get hx;refine⟨h.len,by rw[e];exact h.dig.append h3,?_⟩;have hl:((bs.drop (9*i)).take 9).length=9:=by rw[Ba,Af,h.len];omega
 rw[e,c0z,hl,h.eq,h2,show (limbs n).length-(i+1)=(limbs n).length-1-i by omega,c0n hx,show (limbs n).length-1-i+1=(limbs n).length-i by omega];rw[Bw (by omega)];omega
def Bq:=@Nat.sub_self
theorem WrI.done {n:Nat}{bs:List UInt8}(h:WrI n (limbs n).length bs):allDig bs/\dv bs=n:=by
 have h1:=h.dig;have h2:=h.eq;rw[E7 (by rw[h.len];exact O4 _)]at h1 h2;rw[Bq,K9,a0z]at h2;exact⟨h1,h2⟩
def l0v {l:List UInt8}{r:Nat}(h:l[r]?=some 48):dv (l.drop (r+1))=dv (l.drop r):=by
 obtain⟨h1,h2⟩:=U4.1 h;rw[S9 h1,h2,show ∀ (c:UInt8) (t:List UInt8),c::t = [c]++t from fun _ _=>rfl,c0z];simp[dv]
def o0Q {l:List UInt8}{r n:Nat}(hd:allDig l)(hv:dv (l.drop r)=n)(hr:r<l.length)(h:r+1=l.length\/l[r]? ≠ some 48):l.drop r=decDigits n:=by
 rw[<- hv];refine e0J ⟨fun e=>?_,?_,hd.drop r⟩
 .have:=congrArg List.length e;simp at this;omega
 .rcases h with h | h
  .have hl:(l.drop r).length=1:=by simp;omega
   match hm:l.drop r,hl with
   | [c],_=>
    by_cases hc:c=48
    .left;rw[hc]
    .right;simpa using hc
  .right
   rw[List.head?_drop];exact h
def d0e (l:List UInt8):Bool:=!l.isEmpty && (l == [48] || l.head? != some 48) && l.all i0c
def Aa:=@Bool.and_eq_true
def a0W {l:List UInt8}:d0e l=true↔d0c l:=by
 unfold d0e d0c allDig;simp[Aa,and_assoc]
def l0m (n:Nat):d0e (decDigits n)=true:=a0W.2 (i0D n)
def c0i (l:List UInt8):Int:=if d0e l=true then (if 4000<l.length then 5 else 0) else 3
def f0v {l:List UInt8}(h:¬ d0c l):c0i l=3:=by rw[c0i,J2 (fun e=>h (a0W.1 e))]
def l0q {l:List UInt8}(h:d0c l)(hl:4000<l.length):c0i l=5:=by rw[c0i,J3 (a0W.2 h),J3 hl]
def f0V {l:List UInt8}(h:d0c l)(hl:¬ 4000<l.length):c0i l=0:=by rw[c0i,J3 (a0W.2 h),J2 hl]
def h0P {l:List UInt8}:c0i l=0 ↔ ∃ n,l=decDigits n/\nDigits n<=4000:=by
 unfold c0i
 constructor
 .intro h
  split at h
  .rename_i hf
   obtain⟨n,rfl⟩:=i0C.1 (a0W.1 hf)
   split at h
   .omega
   .exact⟨n,rfl,by rw[<- I9];omega⟩
  .omega
 .rintro⟨n,rfl,hn⟩;rw[J3 (l0m n),I9,J2 (by omega)]
def v0F {n:Nat}(h:nDigits n<=4000):c0i (decDigits n)=0:=h0P.2 ⟨n,rfl,h⟩
section
open Go.Shelf Go.Sort Go.Lib
structure Lay (w:World):Prop where
 tab : Lib.TabIs prog w "internal/strconv.uint64pow10" .u64 Lib.pow10Tab
 max:∃ m,w.cell? ⟨3,0,none⟩=some (.int .i64 m)
def Ht:=@Option.bind_some
theorem Lay.call {w w':World}(h:Lay w)(hb:Below w.heap.size w w'):Lay w':=by
 refine⟨?_,?_⟩
 ·have h:=h.tab;unfold Lib.TabIs World.var? at h ⊢;cases hg : prog.globalNamed "internal/strconv.uint64pow10" with
  | none=>simp[hg]at h
  | some g=>
   rw[hg]at h;simp only[Ht]at h |-;have hlt:g<w.heap.size:=by
    rcases Ct g w.heap.size with h' | h'
    .exact h'
    .rw[Hy h']at h;simp at h
   rw[hb.block g hlt];exact h
 .obtain⟨m,hm⟩:=h.max;exact⟨m,(hb.cell (Ey w _ hm)).trans hm⟩
def f0Z (w:World)(k:Nat)(os:Array Obj):Below w.heap.size w (grow (w.drewN k) os):=by
 refine⟨rfl,rfl,rfl,?_,fun i hi=>?_⟩
 .simp[grow,World.drewN]
 .simp only[grow,World.drewN];exact Array.getElem?_append_left hi
def Me:=@Go.Sort.alloc_eq_grow
def v0z (w:World)(o:Obj)(dk:Array UInt8)(k:Nat):∃ os,(putRow (fun (b:UInt8)=>Value.int .u8 (b.toNat:Int)) (w.alloc o) w.heap.size 0 dk).drewN k=grow (w.drewN k) os:=by
 rw[Me];obtain⟨os',_,e⟩:=putRow_grow_new (fun (b:UInt8)=>Value.int .u8 (b.toNat:Int)) w #[o] w.heap.size 0 dk nr;exact⟨os',by rw[e];rfl⟩
def U0:=@Go.IntWalk.i64_in
def Hf:=@Array.size_replicate
def b1q (w:World)(u:Nat)(hu64:u<18446744073709551616)(htab:Lay w):
 qb 314 #[.int .u64 u,.int .i64 10] w (.string ⟨(Lib.decDigits u).toArray⟩):=by
 by_cases hs:u<100
 .go_enter func314,ntmps314;have hw:IntKind.i64.wrap (u:Int)=(u:Int):=U0 _ ⟨by omega,by omega⟩
  go_wp2_with (first
   | (go_at_call 295;refine (Tryz.strconv_small u hs _).mono ?_;rintro e w' ⟨rfl,rfl⟩)
   | fail)
  go_ret
  exact⟨rfl,J4 _ _⟩
 .have hu1:1<=u:=by omega
  have hnd20:Lib.nDigits u<=20:=by have:=Lib.numDigits_eq u hu1 hu64;split at this<;>omega
  have hal:prog.arrayLen 284=24:=by simp[Program.arrayLen,Gx]
  have hsl1:∀ W,(Instr.sliceAt 284 (.pointer (some ⟨w.heap.size,0,none⟩)) none (some (.int .i64 (Lib.nDigits u:Int))) none).run prog W=.ok (.slice (some ⟨w.heap.size,0,none⟩) (Lib.nDigits u) 24) W:=fun W=>by
   rw[run_sliceAt_array_h W 284 ⟨w.heap.size,0,none⟩ (by simp[Program.arrayLen,Program.elem,Gx]) .i64 (Lib.nDigits u:Int) (by omega) (by rw[hal];omega)]
   go_simp
  have hH0:=Lib.holds_zero0 w 284 (Lib.nDigits u) (by omega);have hfmt:=Tryz.strconv_formatBase10 w.heap.size 0 24 u (Array.replicate (Lib.nDigits u) 0) (w.alloc (.cells Lib.zeros24 284)) hH0 (by rw[Hf];exact Ch u) hu64 (by rw[Hf];omega);rw[Hf]at hfmt;have HH0:=Lib.hid hH0;have HT:Hid (Lay w):=htab;clear hH0 hal htab;go_enter func314,ntmps314
  go_wp2_with (first
   | (go_at_call 296;refine (Tryz.strconv_numDigits u hu1 hu64 _ (Lib.tabIs_alloc HT.out.tab _)).mono ?_;rintro e w' ⟨rfl,rfl⟩)
   | (go_at_call 297;refine hfmt.mono ?_;rintro e w' ⟨rfl,k,v',dk,rfl,hF⟩
      have hcv:(convert 210 9 (.slice (some ⟨w.heap.size,0,none⟩) (Lib.nDigits u) 24)).run prog ((putRow (fun (b:UInt8)=>Value.int .u8 (b.toNat:Int)) (w.alloc (.cells Lib.zeros24 284)) w.heap.size 0 dk).drewN k)=.ok (.string ⟨(Lib.decDigits u).toArray⟩) ((putRow (fun (b:UInt8)=>Value.int .u8 (b.toNat:Int)) (w.alloc (.cells Lib.zeros24 284)) w.heap.size 0 dk).drewN k):=by
       have h:=run_convert_bytes_back (P:=prog) ((putRow (fun (b:UInt8)=>Value.int .u8 (b.toNat:Int)) (w.alloc (.cells Lib.zeros24 284)) w.heap.size 0 dk).drewN k) 210 9 5 ⟨w.heap.size,0,none⟩ 24 (Lib.decDigits u) Dl Bx Ax (fun j hj=>by
        rw[Lib.row_is_numeral hF j hj,Lib.add_plain,World.cell?_drewN];exact cell?_putRow (fun (b:UInt8)=>Value.int .u8 (b.toNat:Int)) _ w.heap.size 0 _ dk HH0.out (by rw[hF.size,Hf]) j (by rw[hF.size];rw[I9]at hj;exact hj))
       rw[I9]at h;exact h)
   | fail)
  go_ret
  obtain⟨os,eo⟩:=v0z w (.cells Lib.zeros24 284) dk k;refine⟨rfl,?_⟩;rw[eo];exact f0Z w k os
def v0i (w:World)(u:Nat)(hu64:u<18446744073709551616)(htab:Lay w):
 qb 259 #[.int .u64 u,.int .i64 10] w (.string ⟨(Lib.decDigits u).toArray⟩):=by
 go_enter func259,ntmps259
 go_wp2_with (first
  | (go_at_call 314;refine nj (b1q _ u hu64 htab) fun w' hb=>?_)
  | fail)
 go_ret
 exact⟨rfl,hb⟩
#print axioms v0i
end
section
open Go.Shelf
def t0H (B:Nat):Prop:=2<B/\3<B
def q0s : prog.globalNamed "internal/strconv.uint64pow10" = some 2 := by kernel_rfl
theorem Lay.lt {w:World}(h:Lay w):t0H w.heap.size:=by
 refine⟨?_,?_⟩
 .have h:=h.tab;unfold Lib.TabIs World.var? at h;rw[q0s]at h;rcases Ct 2 w.heap.size with h' | h'
  .exact h'
  .simp only[Ht]at h;rw[Hy h']at h;simp at h
 .obtain⟨m,hm⟩:=h.max;exact Ey w _ hm
theorem Lay.below {w w':World}{B:Nat}(h:Lay w)(hb:Below B w w')(hB:t0H B):Lay w':=by
 refine⟨?_,?_⟩
 .have h:=h.tab;unfold Lib.TabIs World.var? at h |-;rw[q0s]at h |-;simp only[Ht]at h |-;rw[hb.block _ hB.1];exact h
 .obtain⟨m,hm⟩:=h.max;exact⟨m,(hb.cell hB.2).trans hm⟩
end
section
open Go.ChangeShapes Go.WideShapes Go.ChangeAt
open Go.ChangeMaps (open_string shut_string)
def p0n:(prog.globals[2]?).map (·.type)=some 319:=by kernel_rfl
def m0n:prog.cellsOf 319=20:=by kernel_rfl
def p0o:prog.cellsOf 161=1:=by kernel_rfl
def Ja:=@Go.MakeChecks.laidMetH_plain
def Ag:=@Option.some.inj
def Am:=@of_decide_eq_true
def b1o {W:World}(h:laidMetH prog Rows.noiseCallsRow.laid W)(hsh:W.ShapedOpen prog):Lay W:=by
 refine⟨?_,?_⟩
 .rw[Ja _ _ _ (by kernel_rfl)]at h;obtain⟨ps,⟨g0,t0,cs0,f0,p0,q0,hg0,ht0,hv0,hd0,⟨g1,t1,cs1,f1,p1,q1,hg1,ht1,hv1,hd1,⟨g2,t2,cs2,f2,p2,q2,hg2,ht2,hv2,hd2,_,_⟩,_⟩,_⟩,_,_⟩:=h;obtain rfl:=Ag (q0s.symm.trans hg2);obtain rfl:=Ag (p0n.symm.trans ht2);have e:(Rows.laid_internal_strconv_uint64pow10:DataW Unit)=Lib.tabData .u64 Lib.pow10Tab:=by kernel_rfl
  have hd:DataW.trod (fun _=>()) prog W 0 (fun _=>true) false f2 319 cs2.toList=some (Lib.tabData .u64 Lib.pow10Tab,p2):=by rw[<- e];exact hd2
  unfold Lib.TabIs;rw[hv2,<- Lib.cells_of_tab Gy Dk p0o m0n hd]
 .exact cell_of_shapedOpen_int (zero:=#[.int .i64 0]) (t:=3) hsh (Am (by kernel_rfl)) (by kernel_rfl) rfl (by kernel_rfl) (by kernel_rfl) H9
def own:ownKnob prog.godebug=none:=by kernel_rfl
def d0o:laidOutB prog=true:=by kernel_rfl
def a1b (l:List ByteArray):List Value:=l.map Value.string
def Dp:=@List.length_map
def Et:=@List.getElem?_map
def r0H {H:Type}{enc:TypeId×Value->H}{P:Program}{r:Reach}{b0:Nat}{w:World}{t e:TypeId}{v:Value}{d:DataW H}{p:List MemPlace}(ht:P.underlying t=some (.slice e))(he:P.underlying e=some .string)(hc:P.cellsOf e=1)
 (hv:Value.okWide P w r b0 t v) (h:DataW.Trod enc P w 0 (fun _=>true) true t v d p):∃ l,Row w v (a1b l)/\∀ x∈l,x.size<=maxLen:=by
 obtain⟨a0,len,cap,rfl⟩:=okWide_slice ht hv;obtain⟨fuel,hf⟩:=h;rcases open_strings ht he hc hf with ⟨hcs,-⟩ | ⟨a,len',cap',ss,hcs,-,hl,hm,hz,-,hcell,hws⟩
 .simp[Value.cells]at hcs;obtain⟨rfl,rfl,rfl⟩:=hcs;exact⟨[],Row.nil w,by simp⟩
 .simp[Value.cells]at hcs;obtain⟨rfl,rfl,rfl⟩:=hcs;simp at hz;refine⟨ss.take len,⟨some a,cap,?_,?_,hm,fun i x hx=>?_⟩,fun x hx=>hws x (Iu hx)⟩
  .rw[a1b,Dp,M6 (by omega)]
  .rw[a1b,Dp,M6 (by omega)];exact hl
  .have hi:=(U4.1 hx).1;rw[a1b,Dp,M6 (by omega)]at hi;obtain⟨b,off,spot⟩:=a;have hspot:spot=none:=by
    have h0:=hcell 0 (by omega);simpa[Addr.add]using World.cell?_spot h0
   subst hspot;have hc2:=hcell i (by omega);rw[Go.WideShapes.add_plain]at hc2;refine⟨b,off,rfl,Ey w _ hc2,?_⟩;rw[hc2,<- hx];simp only[a1b,Et,Cd];rw[J3 (by omega),Z3];obtain⟨y,hy⟩:∃ y,ss[i]?=some y:=⟨_,Q0 (by omega)⟩;rw[hy]
   rfl
end
section
def zs (l:List Int):List Value:=l.map (Value.int .i64)
@[simp] theorem zs_length (l:List Int):(zs l).length=l.length:=by simp[zs]
def w0b {l:List Int}{i:Nat}{x:Int}(h:l[i]?=some x):(zs l)[i]?=some (.int .i64 x):=by simp[zs,h]
def Gi:=@List.mem_map
def z0V (l:List Int):∀ u∈zs l,u.oneCell'=true:=by
 intro u hu;obtain⟨x,_,rfl⟩:=Gi.1 hu
 rfl
theorem Row.openZ {w:World}{v:Value}{l:List Int}(h:Row w v (zs l)):∃ a c,v=.slice a l.length c/\l.length<=c/\c<=9223372036854775807/\∀ (i:Nat) (x:Int),l[i]?=some x->∃ g o,a=some ⟨g,o,none⟩/\g<w.heap.size/\w.cell? ⟨g,o+i,none⟩=some (.int .i64 x):=by
 obtain⟨a,c,rfl,h1,h2,h3⟩:=h.ex;rw[zs_length]at *;exact⟨a,c,rfl,h1,by unfold maxLen at h2;omega,fun i x hx=>h3 i _ (w0b hx)⟩
open Go.ChangeShapes Go.WideShapes Go.ChangeAt
open Go.ChangeMaps (open_string shut_string)
def r0I {H:Type}{enc:TypeId×Value->H}{P:Program}{r:Reach}{b0:Nat}{w:World}{t e:TypeId}{v:Value}{d:DataW H}{p:List MemPlace}(ht:P.underlying t=some (.slice e))(he:P.underlying e=some (.int .i64))(hc:P.cellsOf e=1)
 (hv:Value.okWide P w r b0 t v) (h:DataW.Trod enc P w 0 (fun _=>true) true t v d p):∃ l,Row w v (zs l)/\∀ x∈l,-9223372036854775808<=x/\x<=9223372036854775807:=by
 obtain⟨a0,len,cap,rfl⟩:=okWide_slice ht hv;obtain⟨fuel,hf⟩:=h;rcases open_ints ht he hc hf with ⟨hcs,-⟩ | ⟨a,len',cap',ss,hcs,-,hl,hm,hz,-,hcell,hws⟩
 .simp[Value.cells]at hcs;obtain⟨rfl,rfl,rfl⟩:=hcs;exact⟨[],Row.nil w,by simp⟩
 .simp[Value.cells]at hcs;obtain⟨rfl,rfl,rfl⟩:=hcs;simp at hz;refine⟨ss.take len,⟨some a,cap,?_,?_,hm,fun i x hx=>?_⟩,fun x hx=>(Lit.wf_int_iff .i64 x).1 (hws x (Iu hx))⟩
  .rw[zs_length,M6 (by omega)]
  .rw[zs_length,M6 (by omega)];exact hl
  .have hi:=(U4.1 hx).1;rw[zs_length,M6 (by omega)]at hi;obtain⟨b,off,spot⟩:=a;have hspot:spot=none:=by
    have h0:=hcell 0 (by omega);simpa[Addr.add]using World.cell?_spot h0
   subst hspot;have hc2:=hcell i (by omega);rw[Go.WideShapes.add_plain]at hc2;refine⟨b,off,rfl,Ey w _ hc2,?_⟩;rw[hc2,<- hx];simp only[zs,Et,Cd];rw[J3 (by omega),Z3];obtain⟨y,hy⟩:∃ y,ss[i]?=some y:=⟨_,Q0 (by omega)⟩;rw[hy]
   rfl
end
end Go.Proofs.YtfkpfpobmobnbaaGreatDoor
namespace Go.Proofs
open Go.Shelf
def Tryz.laysC172_ren:Go.Shelf.Ren:=⟨fun | 172=>163 | 244=>227 | 245=>228 | 247=>290 | 279=>291 | 280=>292 | 281=>293 | 282=>294 | 287=>328 | 316=>329 | 171=>64 | 205=>330 | 321=>346 | 322=>347 | 243=>166 | 246=>230 | 283=>295 | 284=>296 | 285=>297 | 286=>298 | 129=>240 | 317=>331 | 318=>332 | 319=>333 | 320=>334 | 337=>348 | 338=>349 | n=>n,fun | 9=>9 | 3=>3 | 75=>169 | 76=>170 | 4=>4 | 5=>5 | 167=>278 | 37=>210 | 0=>0 | 85=>279 | 2=>2 | 168=>281 | 53=>161 | 175=>299 | 46=>174 | 210=>315 | 127=>306 | 145=>336 | 143=>334 | 21=>21 | 171=>284 | 173=>286 | 212=>319 | 51=>224 | 20=>20 | 213=>320 | 232=>344 | 233=>345 | 80=>192 | n=>n,fun | 15=>0 | 16=>1 | 17=>2 | 18=>6 | 19=>7 | n=>n⟩
theorem Tryz.laysC172:Go.Proofs.LaysC.n172 Tryz.prog Tryz.laysC172_ren:={
 mixed:=by kernel_rfl
 f129:=qj Jq (by kernel_rfl)
 f171:=qj Tryz.func64 (by kernel_rfl)
 f172:=qj Tryz.func163 (by kernel_rfl)
 f205:=qj Tryz.func330 (by kernel_rfl)
 f243:=qj Tryz.func166 (by kernel_rfl)
 f244:=qj Tryz.func227 (by kernel_rfl)
 f245:=qj Tryz.func228 (by kernel_rfl)
 f246:=qj Tryz.func230 (by kernel_rfl)
 f247:=qj Tryz.func290 (by kernel_rfl)
 f279:=qj Tryz.func291 (by kernel_rfl)
 f280:=qj Tryz.func292 (by kernel_rfl)
 f281:=qj Tryz.func293 (by kernel_rfl)
 f282:=qj Tryz.func294 (by kernel_rfl)
 f283:=qj Nc (by kernel_rfl)
 f284:=qj Nd (by kernel_rfl)
 f285:=qj Nf (by kernel_rfl)
 f286:=qj Tryz.func298 (by kernel_rfl)
 f287:=qj Tryz.func328 (by kernel_rfl)
 f316:=qj Tryz.func329 (by kernel_rfl)
 f317:=qj Ng (by kernel_rfl)
 f318:=qj Nh (by kernel_rfl)
 f319:=qj Tryz.func333 (by kernel_rfl)
 f320:=qj Tryz.func334 (by kernel_rfl)
 f321:=qj Tryz.func346 (by kernel_rfl)
 f322:=qj Tryz.func347 (by kernel_rfl)
 f337:=qj Tryz.func348 (by kernel_rfl)
 f338:=qj Tryz.func349 (by kernel_rfl)
 t0:=Eg
 a0:=Hl
 z0:=Gv
 v0:=Ez
 t2:=Lu
 a2:=Tryz.isAgg2
 z2:=Tryz.sizeOf2
 v2:=Mp
 t3:=H9
 a3:=Ff
 z3:=Ec
 v3:=Cn
 t4:=Bf
 a4:=Fg
 z4:=El
 v4:=Co
 t5:=Bx
 a5:=Gq
 z5:=Fr
 v5:=Do
 t9:=Ax
 a9:=Fh
 z9:=Em
 v9:=Cp
 t20:=Im
 a20:=Ni
 z20:=Mc
 v20:=Jg
 t21:=Ku
 a21:=Tryz.isAgg21
 z21:=Tryz.sizeOf21
 v21:=Ls
 t37:=Dl
 a37:=In
 z37:=Hu
 v37:=Gl
 t46:=Dj
 a46:=Gd
 z46:=Fp
 v46:=Dv
 t51:=Ed
 a51:=Gz
 z51:=Gh
 v51:=Ep
 t53:=Dk
 a53:=Gw
 z53:=Gg
 v53:=Eo
 t75:=Ic
 a75:=Tryz.isAgg169
 z75:=Tryz.sizeOf169
 v75:=Kv
 t76:=Tryz.underlying170
 a76:=Tryz.isAgg170
 z76:=Tryz.sizeOf170
 v76:=Tryz.zeroValue170
 t85:=Tryz.underlying279
 a85:=Tryz.isAgg279
 z85:=Tryz.sizeOf279
 v85:=Tryz.zeroValue279
 t127:=Jv
 a127:=Tryz.isAgg306
 z127:=Tryz.sizeOf306
 v127:=Kw
 t143:=Tryz.underlying334
 a143:=Tryz.isAgg334
 z143:=Tryz.sizeOf334
 v143:=Tryz.zeroValue334
 t145:=Tryz.underlying336
 a145:=Tryz.isAgg336
 z145:=Tryz.sizeOf336
 v145:=Tryz.zeroValue336
 t167:=Tryz.underlying278
 a167:=Tryz.isAgg278
 z167:=Tryz.sizeOf278
 v167:=Tryz.zeroValue278
 t168:=Tryz.underlying281
 a168:=Tryz.isAgg281
 z168:=Tryz.sizeOf281
 v168:=Tryz.zeroValue281
 t171:=Gx
 a171:=Tryz.isAgg284
 z171:=Tryz.sizeOf284
 v171:=Kx
 t173:=Jw
 a173:=Tryz.isAgg286
 z173:=Tryz.sizeOf286
 v173:=Ky
 t175:=Tryz.underlying299
 a175:=Tryz.isAgg299
 z175:=Tryz.sizeOf299
 v175:=Tryz.zeroValue299
 t210:=Tryz.underlying315
 a210:=Tryz.isAgg315
 z210:=Tryz.sizeOf315
 v210:=Tryz.zeroValue315
 t212:=Gy
 a212:=Md
 z212:=Li
 v212:=Io
 t213:=Jy
 a213:=Tryz.isAgg320
 z213:=Tryz.sizeOf320
 t232:=Jz
 a232:=Tryz.isAgg344
 z232:=Tryz.sizeOf344
 v232:=Kz
 t233:=Ka
 a233:=Tryz.isAgg345
 z233:=Tryz.sizeOf345
 v233:=La
 g15:=by kernel_rfl
 g16:=by kernel_rfl
 g17:=by kernel_rfl
 g18:=by kernel_rfl
 g19:=by kernel_rfl
 t80:=Tryz.underlying192
 a80:=Tryz.isAgg192
 z80:=Tryz.sizeOf192
 v80:=Tryz.zeroValue192
 i0:=by kernel_rfl
 i2:=by kernel_rfl
 i3:=by kernel_rfl
 i4:=by kernel_rfl
 i5:=by kernel_rfl
 i9:=by kernel_rfl
 i20:=by kernel_rfl
 i21:=by kernel_rfl
 i37:=by kernel_rfl
 i46:=by kernel_rfl
 i51:=by kernel_rfl
 i53:=by kernel_rfl
 i75:=by kernel_rfl
 i76:=by kernel_rfl
 i80:=by kernel_rfl
 i85:=by kernel_rfl
 i127:=by kernel_rfl
 i143:=by kernel_rfl
 i145:=by kernel_rfl
 i167:=by kernel_rfl
 i168:=by kernel_rfl
 i171:=by kernel_rfl
 i173:=by kernel_rfl
 i175:=by kernel_rfl
 i210:=by kernel_rfl
 i212:=by kernel_rfl
 i232:=by kernel_rfl
 i233:=by kernel_rfl
 m15:=by kernel_rfl
 m16:=by kernel_rfl
 m17:=by kernel_rfl
 m18:=by kernel_rfl
 m19:=by kernel_rfl
 c0:=by kernel_rfl
 c2:=by kernel_rfl
 c3:=by kernel_rfl
 c4:=by kernel_rfl
 c5:=by kernel_rfl
 c9:=by kernel_rfl
 c20:=by kernel_rfl
 c21:=by kernel_rfl
 c37:=by kernel_rfl
 c46:=by kernel_rfl
 c51:=by kernel_rfl
 c53:=by kernel_rfl
 c75:=by kernel_rfl
 c76:=by kernel_rfl
 c80:=by kernel_rfl
 c85:=by kernel_rfl
 c127:=by kernel_rfl
 c143:=by kernel_rfl
 c145:=by kernel_rfl
 c167:=by kernel_rfl
 c168:=by kernel_rfl
 c171:=by kernel_rfl
 c173:=by kernel_rfl
 c175:=by kernel_rfl
 c210:=by kernel_rfl
 c212:=by kernel_rfl
 c213:=by kernel_rfl
 c232:=by kernel_rfl
 c233:=by kernel_rfl }
def Tryz.lays172_ren:Go.Shelf.Ren:=⟨fun | 172=>163 | 244=>227 | 245=>228 | 247=>290 | 279=>291 | 280=>292 | 281=>293 | 282=>294 | 287=>328 | 316=>329 | 171=>64 | 205=>330 | 321=>346 | 322=>347 | 243=>166 | 246=>230 | 283=>295 | 284=>296 | 285=>297 | 286=>298 | 129=>240 | 317=>331 | 318=>332 | 319=>333 | 320=>334 | 337=>348 | 338=>349 | n=>n,fun | 9=>9 | 3=>3 | 75=>169 | 76=>170 | 4=>4 | 5=>5 | 167=>278 | 37=>210 | 0=>0 | 85=>279 | 2=>2 | 168=>281 | 53=>161 | 175=>299 | 46=>174 | 210=>315 | 127=>306 | 145=>336 | 143=>334 | 21=>21 | 171=>284 | 173=>286 | 212=>319 | 51=>224 | 20=>20 | 213=>320 | 232=>344 | 233=>345 | 80=>192 | n=>n,fun | 15=>0 | 16=>1 | 17=>2 | 18=>6 | 19=>7 | n=>n⟩
theorem Tryz.lays172:Go.Proofs.Lays.n172 Tryz.prog Tryz.lays172_ren:={
 mixed:=by kernel_rfl
 f129:=qj Jq (by kernel_rfl)
 f171:=qj Tryz.func64 (by kernel_rfl)
 f172:=qj Tryz.func163 (by kernel_rfl)
 f205:=qj Tryz.func330 (by kernel_rfl)
 f243:=qj Tryz.func166 (by kernel_rfl)
 f244:=qj Tryz.func227 (by kernel_rfl)
 f245:=qj Tryz.func228 (by kernel_rfl)
 f246:=qj Tryz.func230 (by kernel_rfl)
 f247:=qj Tryz.func290 (by kernel_rfl)
 f279:=qj Tryz.func291 (by kernel_rfl)
 f280:=qj Tryz.func292 (by kernel_rfl)
 f281:=qj Tryz.func293 (by kernel_rfl)
 f282:=qj Tryz.func294 (by kernel_rfl)
 f283:=qj Nc (by kernel_rfl)
 f284:=qj Nd (by kernel_rfl)
 f285:=qj Nf (by kernel_rfl)
 f286:=qj Tryz.func298 (by kernel_rfl)
 f287:=qj Tryz.func328 (by kernel_rfl)
 f316:=qj Tryz.func329 (by kernel_rfl)
 f317:=qj Ng (by kernel_rfl)
 f318:=qj Nh (by kernel_rfl)
 f319:=qj Tryz.func333 (by kernel_rfl)
 f320:=qj Tryz.func334 (by kernel_rfl)
 f321:=qj Tryz.func346 (by kernel_rfl)
 f322:=qj Tryz.func347 (by kernel_rfl)
 f337:=qj Tryz.func348 (by kernel_rfl)
 f338:=qj Tryz.func349 (by kernel_rfl)
 t0:=Eg
 a0:=Hl
 z0:=Gv
 v0:=Ez
 t2:=Lu
 a2:=Tryz.isAgg2
 z2:=Tryz.sizeOf2
 v2:=Mp
 t3:=H9
 a3:=Ff
 z3:=Ec
 v3:=Cn
 t4:=Bf
 a4:=Fg
 z4:=El
 v4:=Co
 t5:=Bx
 a5:=Gq
 z5:=Fr
 v5:=Do
 t9:=Ax
 a9:=Fh
 z9:=Em
 v9:=Cp
 t20:=Im
 a20:=Ni
 z20:=Mc
 v20:=Jg
 t21:=Ku
 a21:=Tryz.isAgg21
 z21:=Tryz.sizeOf21
 v21:=Ls
 t37:=Dl
 a37:=In
 z37:=Hu
 v37:=Gl
 t46:=Dj
 a46:=Gd
 z46:=Fp
 v46:=Dv
 t51:=Ed
 a51:=Gz
 z51:=Gh
 v51:=Ep
 t53:=Dk
 a53:=Gw
 z53:=Gg
 v53:=Eo
 t75:=Ic
 a75:=Tryz.isAgg169
 z75:=Tryz.sizeOf169
 v75:=Kv
 t76:=Tryz.underlying170
 a76:=Tryz.isAgg170
 z76:=Tryz.sizeOf170
 v76:=Tryz.zeroValue170
 t85:=Tryz.underlying279
 a85:=Tryz.isAgg279
 z85:=Tryz.sizeOf279
 v85:=Tryz.zeroValue279
 t127:=Jv
 a127:=Tryz.isAgg306
 z127:=Tryz.sizeOf306
 v127:=Kw
 t143:=Tryz.underlying334
 a143:=Tryz.isAgg334
 z143:=Tryz.sizeOf334
 v143:=Tryz.zeroValue334
 t145:=Tryz.underlying336
 a145:=Tryz.isAgg336
 z145:=Tryz.sizeOf336
 v145:=Tryz.zeroValue336
 t167:=Tryz.underlying278
 a167:=Tryz.isAgg278
 z167:=Tryz.sizeOf278
 v167:=Tryz.zeroValue278
 t168:=Tryz.underlying281
 a168:=Tryz.isAgg281
 z168:=Tryz.sizeOf281
 v168:=Tryz.zeroValue281
 t171:=Gx
 a171:=Tryz.isAgg284
 z171:=Tryz.sizeOf284
 v171:=Kx
 t173:=Jw
 a173:=Tryz.isAgg286
 z173:=Tryz.sizeOf286
 v173:=Ky
 t175:=Tryz.underlying299
 a175:=Tryz.isAgg299
 z175:=Tryz.sizeOf299
 v175:=Tryz.zeroValue299
 t210:=Tryz.underlying315
 a210:=Tryz.isAgg315
 z210:=Tryz.sizeOf315
 v210:=Tryz.zeroValue315
 t212:=Gy
 a212:=Md
 z212:=Li
 v212:=Io
 t213:=Jy
 a213:=Tryz.isAgg320
 z213:=Tryz.sizeOf320
 t232:=Jz
 a232:=Tryz.isAgg344
 z232:=Tryz.sizeOf344
 v232:=Kz
 t233:=Ka
 a233:=Tryz.isAgg345
 z233:=Tryz.sizeOf345
 v233:=La
 g15:=by kernel_rfl
 g16:=by kernel_rfl
 g17:=by kernel_rfl
 g18:=by kernel_rfl
 g19:=by kernel_rfl }
theorem Tryz.strconv_Atoi (s:ByteArray)(n:Int)(hl:s.size<=18)(h:Lib.atoi s.data.toList=some n)(w:World):
 Calls Tryz.prog 163 #[.string s] w fun e w'=>e=.returned (.tuple #[.int .i64 n,.nilIface])/\∃ t,w'=Lib.bytesWorld w 5 t:=Any.strconv_Atoi Tryz.lays172 s n hl h w
end Go.Proofs
namespace Go.Proofs.YtfkpfpobmobnbaaGreatDoor
open Go.Proofs.Tryz Go.RowKit
open Go.Lib (decDigits nDigits)
def t0K (n:Nat):Value:=.string ⟨(decDigits n).toArray⟩
def k0I (n:Nat):Int:=if 4000<nDigits n then 5 else 0
def q0Z {n:Nat}(h:4000<nDigits n):k0I n=5:=by rw[k0I,J3 h]
def x0N {n:Nat}(h:¬ 4000<nDigits n):k0I n=0:=by rw[k0I,J2 h]
def u0s {a b:Value}{x y:Int}{k:IntKind}(h1:a=b)(h2:x=y):Ending.returned (.tuple #[a,.int k x])=.returned (.tuple #[b,.int k y]):=by rw[h1,h2]
def a0f (n:Nat):ByteArray:=⟨(decDigits n).toArray⟩
def b0s (n:Nat):t0K n=.string (a0f n):=rfl
def a0y (n:Nat):(a0f n).size=nDigits n:=by
 unfold a0f ByteArray.size;simp[I9]
def a0t (n:Nat):(a0f n).data.toList=decDigits n:=by simp[a0f]
def Mr:=@Nat.pow_mul
def j0z {n L:Nat}(h:(limbs n).length<=L)(hL:0<L):nDigits n<=9*L:=by
 refine a0l (by omega) ?_;have:=a0g.1 h;rwa[show (1000000000:Nat)=10 ^ 9 by rfl,<- Mr]at this
def l0z (s t:List UInt8):Int:=if c0i s=0/\c0i t=0 then b0g (dv s) (dv t) else 0
def cW (s:ByteArray):ByteArray:=⟨(Lib.cut s.data.toList [47]).1.toArray⟩
def cB (s:ByteArray):ByteArray:=⟨(Lib.cut s.data.toList [47]).2.1.toArray⟩
def cS (s:ByteArray):Bool:=(Lib.cut s.data.toList [47]).2.2
def iM (s:ByteArray):Bool:=Lib.hasPrefix s.data.toList [45]
def iD (s:ByteArray):ByteArray:=⟨(Lib.trimPrefix s.data.toList [45]).toArray⟩
def fB (s:ByteArray):Bool:=d0e s.data.toList
def bN (s:ByteArray):Nat:=dv s.data.toList
def iB (s:ByteArray):Bool:=fB (iD s) && !(iM s && decide (iD s=⟨#[48]⟩))
def qD (s:ByteArray):ByteArray:=if cS s=true then cB s else ⟨#[49]⟩
def qB (s:ByteArray):Bool:=iB (cW s) && (!cS s || (decide (iD (cW s)≠⟨#[48]⟩) && fB (cB s) && decide (cB s≠⟨#[48]⟩) && decide (cB s≠⟨#[49]⟩)))
def qL (s:ByteArray):Bool:=decide (4000<(iD (cW s)).size) || decide (4000<(qD s).size)
def qG (s:ByteArray):Bool:=cS s && !decide (Nat.gcd (bN (iD (cW s))) (bN (qD s))=1)
def qE (s:ByteArray):Int:=if qB s=false then 3 else if qL s=true then 5 else if qG s=true then 3 else 0
def j0W {l:List UInt8}(h:allDig l){L:Nat}(hl:l.length<=9*L):(limbs (dv l)).length<=L:=by
 refine a0g.2 (J7 (v0I h) ?_);refine J0 (J6 (by omega) hl) ?_;rw[show (1000000000:Nat)=10 ^ 9 by rfl,<- Mr];exact O4 _
def f0u {s:ByteArray}(h:fB s=true):allDig s.data.toList:=(a0W.1 h).2.2
def d0q {s:ByteArray}(h:iB s=true):fB (iD s)=true:=by
 unfold iB at h;simp only[Aa]at h;exact h.1
def c0o {s:ByteArray}(h:qB s=true):iB (cW s)=true:=by
 unfold qB at h;simp only[Aa]at h;exact h.1
def Av:=@Bool.or_eq_true
def By:=@Bool.not_eq_true'
def j0t {s:ByteArray}(h:qB s=true):fB (qD s)=true:=by
 unfold qB at h;simp only[Aa,Av,By]at h;unfold qD;rcases h.2 with h2 | h2
 .rw[h2];rfl
 .split
  .exact h2.1.1.2
  .rfl
def c1N {s:ByteArray}(h1:qB s=true)(h2:qL s=false)(h3:qG s=false):qE s=0:=by simp[qE,h1,h2,h3]
def j0s {s:ByteArray}(h:qE s=0):qB s=true/\qL s=false/\qG s=false:=by
 unfold qE at h;cases h1:qB s<;>cases h2:qL s<;>cases h3:qG s<;>simp[h1,h2,h3]at h |-
def Bh:=@Array.length_toList
def An:=@List.size_toArray
def k0c (s:ByteArray):(cW s).size<=s.size:=by
 have e:s.data.toList.length=s.size:=Bh;unfold cW Lib.cut
 split<;>simp only[ByteArray.size,An,Ba]<;>(simp only[ByteArray.size]at e;omega)
def m0V (s:ByteArray):(cB s).size<=s.size:=by
 have e:s.data.toList.length=s.size:=Bh;unfold cB Lib.cut
 split
 .simp only[ByteArray.size,An,Af];simp only[ByteArray.size]at e;omega
 .exact K5 _
def s0q (s:ByteArray):(iD s).size<=s.size:=by
 have e:s.data.toList.length=s.size:=Bh;unfold iD Lib.trimPrefix
 split<;>simp only[ByteArray.size,An,Af]<;>(simp only[ByteArray.size]at e;omega)
def Oo:=@Nat.succ_le_succ
def r0t (s:ByteArray):(qD s).size<=s.size+1:=by
 have:=m0V s;unfold qD
 split
 .omega
 .exact Oo (K5 _)
section
open Go.Shelf Go.Lib
def c1D:List UInt8:=[48,49,50,51,52,53,54,55,56,57]
def Bk:=@Bool.eq_iff_iff
def Fa:=@UInt8.toNat_inj
def n0X (b:UInt8):c1D.contains b=i0c b:=by
 rw[Bk,List.contains_iff_mem,a0U];simp only[c1D,Ck,<- Fa,List.not_mem_nil,or_false];simp;omega
def Oq:=@List.mem_reverse
def n0f {l cs:List UInt8}:trimS l cs = [] ↔ ∀ b∈l,cs.contains b=true:=by
 have key:∀ m:List UInt8,m.dropWhile (cs.contains ·) = [] ↔ ∀ b∈m,cs.contains b=true:=by
  intro m
  induction m with
  | nil=>simp
  | cons x r ih=>
   by_cases hx:cs.contains x=true
   .rw[List.dropWhile_cons_of_pos hx,ih];simp at hx;simp[hx]
   .rw[List.dropWhile_cons_of_neg hx];simp at hx;simp[hx]
 unfold trimS trimLeftS trimRightS;rw[key]
 constructor
 .intro h;have h2:l.reverse.dropWhile (cs.contains ·) = []:=by
   cases hm:l.reverse.dropWhile (cs.contains ·) with
   | nil=>rfl
   | cons x r=>
    exfalso
    have hx:cs.contains x=true:=h x (by rw[hm];simp);have:=List.head?_dropWhile_not (cs.contains ·) l.reverse;rw[hm]at this;simp only[List.head?_cons]at this;rw[hx]at this;cases this
  rw[key]at h2;exact fun b hb=>h2 b (Oq.2 hb)
 .intro h b hb;have:b∈l.reverse:=by
   have hs:=List.dropWhile_sublist (l:=l.reverse) (cs.contains ·);exact hs.subset (Oq.1 hb)
  exact h b (Oq.1 this)
def Bz:=@List.all_eq_true
def Jb:=@Decidable.byContradiction
def l0l {b:UInt8}{r:List UInt8}(h:¬ (b=48/\r ≠ [])):d0e (b::r)=(trimS (b::r) c1D).isEmpty:=by
 have e:(trimS (b::r) c1D).isEmpty=(b::r).all i0c:=by
  rw[Bk,List.isEmpty_iff,n0f,Bz];exact⟨fun h x hx=>(n0X x) ▸ h x hx,fun h x hx=>(n0X x).symm ▸ h x hx⟩
 rw[e,d0e];have:((b::r) == [48] || (b::r).head? != some 48)=true:=by
  by_cases hb:b=48
  .have hr:r = []:=Jb fun hr=>h ⟨hb,hr⟩
   subst hb;subst hr;rfl
  .simp[hb]
 rw[this];simp
def s0C {c:UInt8}{r:List UInt8}:d0e (48::c::r)=false:=by simp[d0e]
def p0N:∀ (j:Nat) b,(⟨#[48,49,50,51,52,53,54,55,56,57]⟩:ByteArray).data.toList[j]?=some b->b.toNat<128:=ascii_of_all (by decide)
def b1t (w:World)(s:ByteArray)(hs:s.size<=100000000):
 qb 251 #[.string s] w (.bool (d0e s.data.toList)):=by
 obtain⟨⟨l⟩⟩:=s;simp only[ByteArray.size,An]at hs;cases l with
 | nil=>
  go_enter func251,ntmps251;go_wp2_with fail;go_ret
  exact⟨rfl,J4 _ _⟩
 | cons b r=>
  have hix:(ByteArray.mk ⟨b::r⟩)[0]'(by simp[ByteArray.size])=b:=rfl;have htr:=fun w=>Tryz.strings_Trim ⟨⟨b::r⟩⟩ ⟨#[48,49,50,51,52,53,54,55,56,57]⟩ w (by simp only[ByteArray.size,An];omega) (by decide) p0N
  have HTR:=hid htr;clear htr;by_cases hb:b=48
  .cases r with
   | nil=>
    subst hb;go_enter func251,ntmps251
    go_wp2_with (first
     | (go_at_call 204;refine nj (HTR.out _) fun w' hbw=>?_)
     | fail)
    go_ret
    refine⟨?_,hbw⟩;rw[l0l (by simp)]
    rfl
   | cons c r=>
    subst hb;go_enter func251,ntmps251;go_wp2_with fail;go_ret
    refine⟨?_,J4 _ _⟩;rw[s0C]
    rfl
  .have hb1:(b==48)=false:=by simpa using hb
   have hb2:¬ ((b.toNat:Int)=48):=fun e=>hb (by apply Fa.1;simp;omega)
   have hb3:((b.toNat:Int) != 48)=true:=by simpa using hb2
   go_enter func251,ntmps251
   go_wp2_with (first
    | (go_at_call 204;refine nj (HTR.out _) fun w' hbw=>?_)
    | fail)
   go_ret
   refine⟨?_,hbw⟩;rw[l0l (by simp[hb])]
   rfl
end
section
open Go.Shelf
def M5:=@beq_eq_false_iff_ne
def Cy:=@Go.Lib.toList_data
def Kc:=@ByteArray.ext
theorem a0O {d:ByteArray}{l:List UInt8}(h:¬ d=⟨l.toArray⟩):(d.toList==l)=false:=by
 rw[M5];intro e;apply h
 have e2:d.data.toList=l:=by rw[<- e];exact (Cy d).symm
 apply Kc
 rw[<- e2]
def l0f (w:World)(s:ByteArray)(hs:s.size<=100000000):
 Calls prog 251 #[.string s] w fun e w'=>e=.returned (.bool (fB s))/\Below w.heap.size w w':=b1t w s hs
def b1r (w:World)(s:ByteArray):
 Calls prog 308 #[.string s,.string ⟨#[45]⟩] w fun e w'=>e=.returned (.tuple #[.string (iD s),.bool (iM s)])/\w'=w:=Tryz.strings_CutPrefix s ⟨#[45]⟩ w
theorem gn{α:Sort _}(x:α):∃ y,x=y:=⟨_,rfl⟩
def l0p (w:World)(s:ByteArray)(hs:s.size<=100000000):
 qb 250 #[.string s] w (.tuple #[.bool (iM s),.string (iD s),.bool (iB s)]):=by
 have HI:=hid (show iB s=(fB (iD s) && !(iM s && decide (iD s=⟨#[48]⟩))) from rfl);have hsz:=s0q s;obtain⟨m,hm⟩:=gn (iM s);obtain⟨d,hd⟩:=gn (iD s);obtain⟨f,hf⟩:=gn (fB d);rw[hm,hd,hf]at HI;rw[HI.out,hm,hd];rw[hd]at hsz;have HC:=hid (b1r w s);rw[hm,hd]at HC;have HF:=fun W=>hid (l0f W d (by omega))
 rw[hf]at HF;clear HI hm hd hf;have run:∀ r:Bool,(f && !(m && decide (d=⟨#[48]⟩)))=r->qb 250 #[.string s] w (.tuple #[.bool m,.string d,.bool r]):=by
  intro r hr;rcases Decidable.em (d=⟨#[48]⟩) with rfl | h0
  .simp only[decide_true,Bool.and_true]at hr;subst hr;cases f<;>cases m
   all_goals
    go_enter func250,ntmps250
    go_wp2_with (first
     | (go_at_call 308;refine HC.out.mono ?_;rintro e w' ⟨rfl,rfl⟩)
     | (go_at_call 251;refine ny (HF _) fun w' hbw=>?_)
     | fail)
    go_ret3
    exact⟨rfl,hbw⟩
  have h48:=a0O (l:=[48]) h0;simp only[h0,decide_false,Bool.and_false,Bool.not_false,Bool.and_true]at hr;subst hr;cases f<;>cases m
  all_goals
   go_enter func250,ntmps250
   go_wp2_with (first
    | (go_at_call 308;refine HC.out.mono ?_;rintro e w' ⟨rfl,rfl⟩)
    | (go_at_call 251;refine ny (HF _) fun w' hbw=>?_)
    | fail)
   go_ret3
   exact⟨rfl,hbw⟩
 exact run _ rfl
def f0Q (w:World)(s:ByteArray)(hs:s.size<=100000000):
 qb 282 #[.string s] w (.int .i64 (c0i s.data.toList)):=by
 have hsz:s.data.toList.length=s.size:=Bh;by_cases hf:d0e s.data.toList=true
 focus
  by_cases hl:4000<s.size
  focus
   rw[l0q (a0W.1 hf) (by omega)];have q0:decide ((4000:Int)<(s.size:Int))=true:=by simp;omega
   have HF:=fun W=>hid (l0f W s hs)
   rw[show fB s=true from hf]at HF;clear hf hl hsz
  rotate_left
  focus
   rw[f0V (a0W.1 hf) (by omega)];have q0:decide ((4000:Int)<(s.size:Int))=false:=by simp;omega
   have HF:=fun W=>hid (l0f W s hs)
   rw[show fB s=true from hf]at HF;clear hf hl hsz
 rotate_left 2
 focus
  rw[f0v (fun h=>hf (a0W.2 h))];have HF:=fun W=>hid (l0f W s hs)
  rw[show fB s=false from by unfold fB;simpa using hf]at HF;clear hf hsz
 all_goals
  go_enter func282,ntmps282
  go_wp2_with (first
   | (go_at_call 251;refine ny (HF _) fun w' hbw=>?_)
   | fail)
  go_ret
  exact⟨rfl,hbw⟩
end
def i0e (k:IntKind)(n:Nat)(e:Ending)(w':World):Prop:=∃ v,e=.returned v/\IsN k w' v n
def z0R (k:IntKind)(a:Option Addr)(c n:Nat)(e:Ending)(w':World):Prop:=∃ m,e=.returned (.slice a m c)/\IsN k w' (.slice a m c) n
def t0G (k:IntKind)(q r:Nat)(e:Ending)(w':World):Prop:=∃ v u,e=.returned (.tuple #[v,u])/\IsN k w' v q/\IsN k w' u r
def j0I:(prog.info? 3).map (fun i=>(i.zero,i.size,i.bytes))=some (some (.int .i64 0),1,8):=by kernel_rfl
def g0v {k:IntKind}{w:World}{a:Option Addr}{n c m:Nat}{l:List Nat}(h:Row w (.slice a n c) (b0p k l))(hs:Sm l)(hm:m<=l.length)(hz:∀ j x,m<=j->l[j]?=some x->x=0)(hl:∀ x,0<m->l[m-1]?=some x->x≠0):
 IsN k w (.slice a m c) (val l):=by
 have hn:=h.len;rw[ints_length]at hn;have:=h.cut (m:=m) (by omega);rw[d0J,i0A hs hm hz hl]at this;exact this
def c0V (w:World)(a:Option Addr)(c:Nat)(l:List Nat)(hs:Sm l)(h:Row w (.slice a l.length c) (b0p .i64 l)):
 Calls prog 222 #[.slice a l.length c] w fun e w'=>z0R .i64 a c (val l) e w'/\w=w':=by
 obtain⟨a',c',e,h1,h2,h3⟩:=h.openI;simp at e;obtain⟨rfl,rfl⟩:=e;obtain⟨H,H3,HS⟩:=zg h h3 hs;clear h h3 hs;go_enter func222,ntmps222;go_wp2_with fail
 go_loop [0] (fun u=>∃ m:Nat,m<=l.length/\u=.slice a m c/\Hid (∀ j x,m<=j->l[j]?=some x->x=0)) (fun u=>match u with | .slice _ m _=>m | _=>0)
 case atStart=>exact⟨l.length,O4 _,rfl,fun j x hj hx=>by have:=(U4.1 hx).1;omega⟩
 case round=>
  obtain⟨m,hm,rfl,hz⟩:=hrel;rcases H8 m with h0 | h0
  .subst h0;go_wp2_with fail;go_ret
   exact⟨⟨_,rfl,g0v H.out HS.out hm hz.out (fun x h=>absurd h (by omega))⟩,rfl⟩
  .obtain⟨x,hx⟩:∃ x,l[m-1]?=some x:=⟨_,Q0 (by omega)⟩;obtain⟨g,o,rfl,hg,hc⟩:=H3.out (m-1) _ hx;have HX:=hid hx;clear hx;rcases H8 x with hx0 | hx0
   .have hb:((x:Int)==0)=true:=by simp[hx0]
    have HX0:=hid hx0;clear hx0;go_wp2_with fail;go_round
    case rel=>
     exact⟨m-1,by omega,by go_num,fun j y hj hy=>by
      by_cases e:j=m-1
      .subst e;have:=HX.out;rw[hy]at this;cases this;exact HX0.out
      .exact hz.out j y (by omega) hy⟩
    case measure=>simp;omega
   .have hb:((x:Int)==0)=false:=by simp;omega
    go_wp2_with fail;go_ret
    exact⟨⟨_,rfl,g0v H.out HS.out hm hz.out (fun y _ hy=>by have:=HX.out;rw[hy]at this;cases this;omega)⟩,rfl⟩
def m0k (w:World)(v:Value)(l:List Nat)(hs:Sm l)(h:Row w v (b0p .i64 l)):
 Calls prog 222 #[v] w fun e w'=>i0e .i64 (val l) e w'/\w=w':=by
 obtain⟨a,c,rfl,h1,h2,h3⟩:=h.openI;exact (c0V w a c l hs h).mono fun e w' ⟨⟨m,he,hi⟩,hw⟩=>⟨⟨_,he,hi⟩,hw⟩
def RetFr (B:Nat)(k:IntKind)(n:Nat)(e:Ending)(w':World):Prop:=∃ v,e=.returned v/\IsN k w' v n/\∀ g,v.ownBlock=some g->B<=g
theorem RetFr.ret {B:Nat}{k:IntKind}{n:Nat}{e:Ending}{w':World}(h:RetFr B k n e w'):i0e k n e w':=by
 obtain⟨v,h1,h2,-⟩:=h;exact⟨v,h1,h2⟩
def g0K:(prog.info? 161).map (fun i=>(i.zero,i.size,i.bytes))=some (some (.int .u64 0),1,8):=by kernel_rfl
def Mf:=@Go.run_make_row'
def Fy:=@Go.Proofs.Tryz.underlying124
def g0I (n:Nat)(hn:n<=3000000)(W:World):(Instr.makeSlice 124 (.int .i64 (n:Int)) (.int .i64 (n:Int))).run prog W=.ok (.slice (some ⟨W.heap.size,0,none⟩) n n) (W.alloc (.cells (madeCells #[.int .u64 0] n) 161)):=
 Mf (P:=prog) 124 161 (.int .u64 0) 8 Fy (by kernel_rfl) rfl .i64 .i64 n (by omega) (by omega) W
def l0e (w:World)(a:Option Addr)(c:Nat)(l:List Nat)(hs:Sm l)(h:Row w (.slice a l.length c) (b0p .u64 l)):
 Calls prog 254 #[.slice a l.length c] w fun e w'=>z0R .u64 a c (val l) e w'/\w=w':=by
 obtain⟨a',c',e,h1,h2,h3⟩:=h.openI;simp at e;obtain⟨rfl,rfl⟩:=e;obtain⟨H,H3,HS⟩:=zg h h3 hs;clear h h3 hs;go_enter func254,ntmps254;go_wp2_with fail
 go_loop [0] (fun u=>∃ m:Nat,m<=l.length/\u=.slice a m c/\Hid (∀ j x,m<=j->l[j]?=some x->x=0)) (fun u=>match u with | .slice _ m _=>m | _=>0)
 case atStart=>exact⟨l.length,O4 _,rfl,fun j x hj hx=>by have:=(U4.1 hx).1;omega⟩
 case round=>
  obtain⟨m,hm,rfl,hz⟩:=hrel;rcases H8 m with h0 | h0
  .subst h0;go_wp2_with fail;go_ret
   exact⟨⟨_,rfl,g0v H.out HS.out hm hz.out (fun x h=>absurd h (by omega))⟩,rfl⟩
  .obtain⟨x,hx⟩:∃ x,l[m-1]?=some x:=⟨_,Q0 (by omega)⟩;obtain⟨g,o,rfl,hg,hc⟩:=H3.out (m-1) _ hx;have HX:=hid hx;clear hx;rcases H8 x with hx0 | hx0
   .have hb:((x:Int)==0)=true:=by simp[hx0]
    have HX0:=hid hx0;clear hx0;go_wp2_with fail;go_round
    case rel=>
     exact⟨m-1,by omega,by go_num,fun j y hj hy=>by
      by_cases e:j=m-1
      .subst e;have:=HX.out;rw[hy]at this;cases this;exact HX0.out
      .exact hz.out j y (by omega) hy⟩
    case measure=>simp;omega
   .have hb:((x:Int)==0)=false:=by simp;omega
    go_wp2_with fail;go_ret
    exact⟨⟨_,rfl,g0v H.out HS.out hm hz.out (fun y _ hy=>by have:=HX.out;rw[hy]at this;cases this;omega)⟩,rfl⟩
def w0H (w:World)(v:Value)(l:List Nat)(hs:Sm l)(h:Row w v (b0p .u64 l)):
 Calls prog 254 #[v] w fun e w'=>i0e .u64 (val l) e w'/\w=w':=by
 obtain⟨a,c,rfl,h1,h2,h3⟩:=h.openI;exact (l0e w a c l hs h).mono fun e w' ⟨⟨m,he,hi⟩,hw⟩=>⟨⟨_,he,hi⟩,hw⟩
def x0g (l:List Nat):∃ m,m<=l.length/\(∀ j x,m<=j->l[j]?=some x->x=0)/\(∀ x,0<m->l[m-1]?=some x->x≠0):=by
 suffices H:∀ k,k<=l.length->(∀ j x,k<=j->l[j]?=some x->x=0)->∃ m,m<=l.length/\(∀ j x,m<=j->l[j]?=some x->x=0)/\(∀ x,0<m->l[m-1]?=some x->x≠0) from
  H l.length nr (fun j x hj hx=>by have:=(U4.1 hx).1;omega)
 intro k
 induction k with
 | zero=>exact fun _ h=>⟨0,K5 _,h,fun x h0=>absurd h0 (by omega)⟩
 | succ k ih=>
  intro hk h;by_cases h0:l[k]?=some 0
  .refine ih (by omega) (fun j x hj hx=>?_);by_cases e:j=k
   .subst e;rw[h0]at hx;cases hx;rfl
   .exact h j x (by omega) hx
  .exact⟨k+1,hk,h,fun x _ hx e=>h0 (by simpa[e]using hx)⟩
def i0h {l:List Nat}(hs:Sm l):(limbs (val l)).length<=l.length/\l.take (limbs (val l)).length=limbs (val l):=by
 obtain⟨m,h1,h2,h3⟩:=x0g l;have h:=i0A hs h1 h2 h3;have hm:(limbs (val l)).length=m:=by rw[<- h,M6 h1]
 rw[hm];exact⟨h1,h⟩
def i0X {k:IntKind}{w:World}{a:Option Addr}{c:Nat}{l:List Nat}(hs:Sm l)(h:Row w (.slice a l.length c) (b0p k l)):IsN k w (.slice a (limbs (val l)).length c) (val l):=by
 obtain⟨h1,h2⟩:=i0h hs;have:=h.cut h1;rw[d0J,h2]at this;exact this
def f0q (w:World)(a:Option Addr)(c:Nat)(l:List Nat)(hs:Sm l)(h:Row w (.slice a l.length c) (b0p .u64 l)):
 Calls prog 254 #[.slice a l.length c] w fun e w'=>e=.returned (.slice a (limbs (val l)).length c)/\w'=w:=
 (l0e w a c l hs h).mono fun e w' ⟨⟨m,he,hi⟩,hw⟩=>⟨by rw[he];have:=hi.len.1;rw[ints_length]at this;rw[this],hw.symm⟩
def m0u {n m:Nat}{s:List Nat}(h:limbs n=s++limbs m)(hm:0<m):limbs n=(s ++ [m%1000000000])++limbs (m / 1000000000):=by
 rw[h,b0y hm,Au];rfl
def Dx:=@Go.info_parts
def Cq:=@Go.World.ownsRow_nil
def Cz:=@List.append_nil
def Dz:=@Go.wpList_append_own
def Eu:=@Go.cell_one_new
def c1C (w:World)(n:Nat)(hn:n<18446744073709551616):Calls prog 197 #[.int .u64 n] w fun e w'=>i0e .u64 n e w'/\Below w.heap.size w w':=by
 obtain⟨i0,hi,hz0,hz1,hz2⟩:=Dx g0K;have HN:=hid hn;have hn2:(n:Int)<=18446744073709551615:=by omega
 clear hn;go_enter func197,ntmps197;go_wp2_with fail
 go_loopw [0,3] (fun nn o wr=>∃ (s:List Nat) (m:Nat),nn=.int .u64 m/\s.length<=3/\m<=n/\Hid (m=0\/s.length=0\/(s.length=1/\m<18446744074)\/(s.length=2/\m<19))/\Hid (limbs n=s++limbs m)/\Hid (wr.ownsRow w.heap.size 161 1 o s.length (b0p .u64 s))/\Hid (Below w.heap.size w wr)) (fun nn _ _=>(intOf nn).toNat)
 case atStart=>exact⟨[],n,rfl,by simp,O4 _,.inr (.inl rfl),rfl,Cq _ _ _ _,J4 _ _⟩
 case round=>
  obtain⟨s,m,rfl,hs,hmn,hc,hl,hO,hB⟩:=hrel;obtain⟨ao,co,rfl⟩:=b0l hO.out;rcases H8 m with h0 | h0
  .subst h0;go_wp2_with fail;go_ret
   exact⟨⟨_,rfl,g0F hO.out (by have:=hl.out;rw[limbs_zero,Cz]at this;exact this.symm)⟩,hB.out⟩
  .have HL:=hid (m0u hl.out h0);have hs2:s.length<=2:=by rcases hc.out with h | h | h | h<;>omega
   have HC:=hid (show m / 1000000000=0\/(s ++ [m%1000000000]).length=0\/((s ++ [m%1000000000]).length=1/\m / 1000000000<18446744074)\/((s ++ [m%1000000000]).length=2/\m / 1000000000<19) from by
    have:=HN.out;rw[J5,U8];rcases hc.out with h | h | h | h<;>omega)
   go_wp2_with (at_builtin;refine Dz _ rfl _ _ 124 rfl w.heap.size 161 i0 (.int .u64 0) 1 8 Fy hi hz0 hz1 hz2 rfl (by decide) _ s.length _ rfl (hO.out.alloc _) ⟨wr.heap.size,0,none⟩ 1 1 [.int .u64 ((m:Int)%1000000000)] rfl rfl (Eu wr (.int .u64 ((m:Int)%1000000000)) 161) (by simp[Value.oneCell']) (by unfold maxLen;omega) (by omega) (by have:=hB.out.size;simp;omega) ?_;intro v' w3 hown3 hgrow3 _;have HO3:=hid hown3;have HG3:=hid hgrow3;clear hown3 hgrow3)
   obtain⟨n1,n2⟩:=f0k (z:=m%1000000000) hO.out hB.out HO3.out HG3.out;obtain⟨N1,N2⟩:=zu n1 n2;clear n1 n2 HO3 HG3;obtain⟨a3,k3,rfl⟩:=b0l N1.out;go_wp2_with fail;go_roundw
   case rel=>exact⟨s ++ [m%1000000000],m / 1000000000,by go_num,by simp<;>omega,by omega,HC,HL,N1,N2⟩
   case measure=>simp[intOf]<;>omega
end Go.Proofs.YtfkpfpobmobnbaaGreatDoor
