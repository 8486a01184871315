/- Texts that the proof rests on, merged: Base, Limb, LimbOps, Words, Sh, Sh2, Dec, DecW, F, LayL, CdA, Q, QW, Krw, Sx1, Sx2, Sx3, QT, Num. -/
import Derived.WalkKit
import Derived.WalkSpells
import Derived.WalkLawsBesides
import Derived.LoopN
import Derived.StillTailTactics
import Derived.Deep.QuietTactic
import Derived.BigQuiet
import Derived.Deep.Draws
import Derived.Maps.AppendAt
import Derived.Deep.OwnRows
import Derived.Shelf.Small.Wraps
import Derived.Shelf.Strings.BuilderK
import Derived.Shelf.Pu.ParseUintPublic10
import Derived.Shelf.Strconv.Itoa3
import Derived.Shelf.Strings.SlTrimAscii
import Derived.Shelf.Strings.Shaped
import Derived.Ground.NamesProg
import Derived.Ground.MpProg
import Derived.Test.YtlimaehdmcnjaaaGreatDoorProg
import Derived.Lib.ItoaNum
import Derived.Lib.Atoi
import Derived.Lib.AppendIntMem
import Derived.Test.YtlimaehdmcnjaaaGreatDoorTie
import Derived.Test.YtlimaehdmcnjaaaGreatDoorCards
import Derived.ProofKit
import Derived.OpenShut
import Derived.ShutString
import Derived.Lib.SmallJoins
import Derived.LaidMore
import Derived.Lay
import Derived.Deep.DeepHandedRow
import Derived.JoinedCond
import Derived.SevenTiedAt
import Derived.Shelf.Vars
import Derived.SliceStrings
import Derived.ChangeSlices
import Derived.Lib.IndexMore
import Derived.Lib.Strings
set_option linter.unusedVariables false
set_option linter.unusedSimpArgs false
set_option linter.unusedSectionVars false
set_option maxRecDepth 100000
set_option maxHeartbeats 8000000
namespace Go.Proofs.YtlimaehdmcnjaaaGreatDoor
open Go.RowKit
theorem hid {p:Prop}(h:p):Hid p:=h
def Blk (w:World)(b:Nat)(cs:Array Value)(t:TypeId):Prop:=w.heap[b]?=some (.cells cs t (0,0))
theorem Blk.lt {w:World}{b:Nat}{cs:Array Value}{t:TypeId}(h:Blk w b cs t):b<w.heap.size:=by
 unfold Blk at h;rcases Nat.lt_or_ge b w.heap.size with h' | h'
 ·exact h'
 ·rw[Array.getElem?_eq_none h']at h;cases h
theorem Blk.cell {w:World}{b:Nat}{cs:Array Value}{t:TypeId}(h:Blk w b cs t)(i:Nat):w.cell? ⟨b,i,none⟩=cs[i]? := by
 unfold Blk at h;simp[World.cell?,h]
theorem Blk.free {w:World}{b:Nat}{cs:Array Value}{t:TypeId}(h:Blk w b cs t)(i:Nat):w.frozen? ⟨b,i,none⟩=false:=by
 unfold Blk at h;simp[World.frozen?,h]
theorem Blk.new (w:World)(cs:Array Value)(t:TypeId):Blk (w.alloc (.cells cs t)) w.heap.size cs t:=by
 show (w.heap.push _)[w.heap.size]? = _
 simp
theorem Blk.made (w:World)(cs:Array Value)(t:TypeId){n:Nat}(h:n=w.heap.size):Blk (w.alloc (.cells cs t)) n cs t:=h ▸ Blk.new w cs t
theorem Blk.below {w w':World}{b B:Nat}{cs:Array Value}{t:TypeId}(h:Blk w b cs t)(hb:Below B w w')(hB:b<B):Blk w' b cs t:=by
 unfold Blk at *;rw[hb.block b hB];exact h
theorem Blk.call {w w':World}{b:Nat}{cs:Array Value}{t:TypeId}(h:Blk w b cs t)(hb:Below w.heap.size w w'):Blk w' b cs t:=h.below hb h.lt
theorem Blk.alloc {w:World}{b:Nat}{cs:Array Value}{t:TypeId}(h:Blk w b cs t)(o:Obj):Blk (w.alloc o) b cs t:=h.call ((Below.refl _ _).alloc (Nat.le_refl _) o)
theorem Blk.drew {w:World}{b:Nat}{cs:Array Value}{t:TypeId}(h:Blk w b cs t):Blk w.drew b cs t:=h
theorem Blk.drewN {w:World}{b:Nat}{cs:Array Value}{t:TypeId}(h:Blk w b cs t)(n:Nat):Blk (w.drewN n) b cs t:=h
theorem Blk.set {w:World}{b:Nat}{cs:Array Value}{t:TypeId}(h:Blk w b cs t)(i:Nat)(v:Value):Blk (w.setCell ⟨b,i,none⟩ v) b (cs.setIfInBounds i v) t:=by
 unfold Blk at *;simp[World.setCell,Array.getElem?_modify,h]
theorem Blk.other {w:World}{b:Nat}{cs:Array Value}{t:TypeId}(h:Blk w b cs t){a:Addr}(ha:a.block≠b)(v:Value):Blk (w.setCell a v) b cs t:=by
 unfold Blk at *;simp[World.setCell,Array.getElem?_modify,ha,h]
theorem Blk.grown {w w':World}{b:Nat}{cs:Array Value}{t:TypeId}{row:Option Nat}(h:Blk w b cs t)(hg:w.grownBy w' row)(hne:row≠some b):Blk w' b cs t:=by
 have hl:=h.lt;unfold Blk at *;rw[hg.block b hl (fun e=>hne e.symm)];exact h
theorem e0o {P:Program}{id:Nat}{Q:Exit→Act→World→Prop}{a:Act}{w:World}{l:List Oper}(n:Nat)(hm:P.follows .mixedOrders=true)(hB:Region.lexTailB .any l.toArray n=true)
 (h:wpStill P l.toArray w.drew (fun a'=>wpList P l.toArray Q (l.drop n) a' w.drew) (l.take n) a):(Code.region id l.toArray true).wp P Q a w:=wp_region_still_tail n hm hB h
structure Keep2 (w w':World)(b:Nat)(r:Option Nat):Prop where
 os:w'.os=w.os
 tape:w'.tape=w.tape
 output:w'.output=w.output
 size:w.heap.size≤w'.heap.size
 block:∀ k,k<w.heap.size→k≠b→some k≠r→w'.heap[k]?=w.heap[k]?
theorem Keep2.refl (w:World)(b:Nat)(r:Option Nat):Keep2 w w b r:=⟨rfl,rfl,rfl,Nat.le_refl _,fun _ _ _ _=>rfl⟩
theorem Keep2.trans {w w1 w2:World}{b:Nat}{r r':Option Nat}(h:Keep2 w w1 b r)(k:Keep2 w1 w2 b r')(hr:∀ x,r'=some x→r=some x∨w.heap.size≤x):Keep2 w w2 b r:=
 ⟨k.os.trans h.os,k.tape.trans h.tape,k.output.trans h.output,Nat.le_trans h.size k.size,fun i hi hb hne=>by
  rw[k.block i (Nat.lt_of_lt_of_le hi h.size) hb (fun e=>?_)]
  ·exact h.block i hi hb hne
  ·rcases hr i e.symm with e' | e'
   ·exact hne e'.symm
   ·omega⟩
theorem Keep2.set {w w1:World}{b:Nat}{r:Option Nat}(h:Keep2 w w1 b r){a:Addr}(ha:a.block=b∨some a.block=r∨w.heap.size≤a.block)(v:Value):Keep2 w (w1.setCell a v) b r:=
 ⟨h.os,h.tape,h.output,by simpa[World.setCell]using h.size,fun i hi hb hne=>by
  have:i≠a.block:=fun e=>by
   rcases ha with e' | e' | e'
   ·exact hb (e.trans e')
   ·exact hne (by rw[e];exact e')
   ·omega
  rw[Below.heap_setCell _ _ _ _ this];exact h.block i hi hb hne⟩
theorem Keep2.blk {w w1:World}{b:Nat}{r:Option Nat}(h:Keep2 w w1 b r){k:Nat}{cs:Array Value}{t:TypeId}(hk:Blk w k cs t)(hb:k≠b)(hr:some k≠r):Blk w1 k cs t:=by
 have hl:=hk.lt;unfold Blk at *;rw[h.block k hl hb hr];exact hk
theorem Keep2.below {w w1:World}{b:Nat}{r:Option Nat}(h:Keep2 w w1 b r){B:Nat}(hB:B≤w.heap.size)(hb:B≤b)(hr:∀ x,r=some x→B≤x):Below B w w1:=
 ⟨h.os,h.tape,h.output,h.size,fun k hk=>h.block k (by omega) (by omega) (fun e=>by have:=hr k e.symm;omega)⟩
theorem j0A {w w1:World}{base:Nat}{e:TypeId}{size:Nat}{v:Value}{n:Nat}{xs:List Value}(hv:w.ownsRow base e size v n xs){B:Nat}(h:Below B w w1)(hB:∀ k,v.ownBlock=some k→k<B):w1.ownsRow base e size v n xs:=by
 refine⟨hv.1,?_⟩;rcases hv.2 with hn | ⟨g,cap,cur,rfl,hbs,hgg,rest⟩
 ·exact .inl hn
 ·refine .inr ⟨g,cap,cur,rfl,hbs,?_,rest⟩;rw[h.block g (hB g (by simp[Value.ownBlock]))];exact hgg
theorem p0n {w:World}{base:Nat}{e:TypeId}{size:Nat}{v:Value}{n:Nat}{xs:List Value}(hv:w.ownsRow base e size v n xs):∀ k,v.ownBlock=some k→k<w.heap.size:=fun k hk=>(hv.lt k hk).2
theorem b0q {w w1:World}{base:Nat}{e:TypeId}{size:Nat}{v:Value}{n:Nat}{xs:List Value}(hv:w.ownsRow base e size v n xs)(h:Below w.heap.size w w1):w1.ownsRow base e size v n xs:=j0A hv h (p0n hv)
theorem Keep2.grown {w w1 w2:World}{b:Nat}{r row:Option Nat}(h:Keep2 w w1 b r)(hg:w1.grownBy w2 row)(hr:∀ k,row=some k→k=b∨some k=r∨w.heap.size≤k):Keep2 w w2 b r:=
 ⟨hg.os.trans h.os,hg.tape.trans h.tape,hg.output.trans h.output,Nat.le_trans h.size hg.size,fun i hi hb hne=>by
  rw[hg.block i (Nat.lt_of_lt_of_le hi h.size) (fun e=>by
   rcases hr i e.symm with e' | e' | e'
   ·exact hb e'
   ·exact hne e'
   ·omega)]
  exact h.block i hi hb hne⟩
end Go.Proofs.YtlimaehdmcnjaaaGreatDoor
namespace Go.Proofs.YtlimaehdmcnjaaaGreatDoor
def val:List Nat→Nat
 | []=>0
 | x::l=>x+1000000000*val l
def Sm (l:List Nat):Prop:=∀ x∈l,x<1000000000
theorem Sm.nil:Sm []:=fun _ h=>by cases h
theorem Sm.cons {x:Nat}{l:List Nat}(hx:x<1000000000)(h:Sm l):Sm (x::l):=fun y hy=>by
 rcases List.mem_cons.1 hy with rfl | hy
 ·exact hx
 ·exact h y hy
theorem Sm.head {x:Nat}{l:List Nat}(h:Sm (x::l)):x<1000000000:=h x (List.mem_cons_self ..)
theorem Sm.tail {x:Nat}{l:List Nat}(h:Sm (x::l)):Sm l:=fun y hy=>h y (List.mem_cons_of_mem _ hy)
theorem Sm.append {l k:List Nat}(h:Sm l)(h':Sm k):Sm (l++k):=fun y hy=>(List.mem_append.1 hy).elim (h y) (h' y)
theorem Sm.take {l:List Nat}(h:Sm l)(i:Nat):Sm (l.take i):=fun y hy=>h y (List.mem_of_mem_take hy)
theorem Sm.drop {l:List Nat}(h:Sm l)(i:Nat):Sm (l.drop i):=fun y hy=>h y (List.mem_of_mem_drop hy)
theorem Sm.get {l:List Nat}(h:Sm l){i x:Nat}(hx:l[i]?=some x):x<1000000000:=h x (List.mem_of_getElem? hx)
theorem Sm.getD {l:List Nat}(h:Sm l)(i:Nat):l.getD i 0<1000000000:=by
 rw[List.getD_eq_getElem?_getD];cases hx:l[i]? with
 | none=>simp
 | some x=>exact h.get hx
theorem Sm.set {l:List Nat}(h:Sm l)(i:Nat){x:Nat}(hx:x<1000000000):Sm (l.set i x):=fun y hy=>by
 rcases List.mem_or_eq_of_mem_set hy with hy | rfl
 ·exact h y hy
 ·exact hx
theorem Sm.zeros (n:Nat):Sm (List.replicate n 0):=fun y hy=>by rw[List.eq_of_mem_replicate hy];omega
@[simp] theorem val_nil:val []=0:=rfl
theorem a0F (x:Nat)(l:List Nat):val (x::l)=x+1000000000*val l:=rfl
theorem a0U (l k:List Nat):val (l++k)=val l+1000000000 ^ l.length*val k:=by
 induction l with
 | nil=>simp
 | cons x l ih=>
  rw[List.cons_append,a0F,ih,a0F,List.length_cons,Nat.pow_succ,Nat.mul_add,Nat.add_assoc,Nat.mul_comm (1000000000 ^ l.length) 1000000000,Nat.mul_assoc]
theorem c0f {l:List Nat}(h:Sm l):val l<1000000000 ^ l.length:=by
 induction l with
 | nil=>simp
 | cons x l ih=>
  have h1:=ih h.tail;have h2:=h.head;rw[a0F,List.length_cons,Nat.pow_succ];omega
theorem b0o (n:Nat):val (List.replicate n 0)=0:=by
 induction n with
 | zero=>rfl
 | succ n ih=>rw[List.replicate_succ,a0F,ih]
theorem b0u {l:List Nat}{i x:Nat}(h:l[i]?=some x):val (l.take (i+1))=val (l.take i)+1000000000 ^ i*x:=by
 have hi:i<l.length:=(List.getElem?_eq_some_iff.1 h).1;have hx:l[i]=x:=(List.getElem?_eq_some_iff.1 h).2;rw[List.take_succ_eq_append_getElem hi,a0U,List.length_take_of_le (by omega),hx];simp[a0F]
theorem b0p (l:List Nat)(i:Nat)(h:i≤l.length):val l=val (l.take i)+1000000000 ^ i*val (l.drop i):=by
 have:=a0U (l.take i) (l.drop i);rw[List.take_append_drop,List.length_take_of_le h]at this;exact this
theorem b0v {l:List Nat}{i x:Nat}(h:l[i]?=some x):val (l.drop i)=x+1000000000*val (l.drop (i+1)):=by
 have hi:i<l.length:=(List.getElem?_eq_some_iff.1 h).1;have hx:l[i]=x:=(List.getElem?_eq_some_iff.1 h).2;rw[List.drop_eq_getElem_cons hi,a0F,hx]
theorem h0n {l:List Nat}{i x:Nat}(h:l[i]?=some x)(y:Nat):val (l.set i y)+1000000000 ^ i*x=val l+1000000000 ^ i*y:=by
 induction l generalizing i with
 | nil=>simp at h
 | cons z l ih=>
  cases i with
  | zero=>
   simp at h;subst h;simp[a0F];omega
  | succ i=>
   have:=ih (i:=i) (by simpa using h);rw[List.set_cons_succ,a0F,a0F,Nat.pow_succ,Nat.mul_comm (1000000000 ^ i) 1000000000,Nat.mul_assoc,Nat.mul_assoc];omega
def limbs (n:Nat):List Nat:=if h:n=0 then [] else n%1000000000::limbs (n / 1000000000)
termination_by n
decreasing_by omega
@[simp] theorem limbs_zero:limbs 0 = []:=by rw[limbs];simp
theorem b0a {n:Nat}(h:0<n):limbs n=n%1000000000::limbs (n / 1000000000):=by rw[limbs,dif_neg (by omega)]
theorem a0p (n:Nat):val (limbs n)=n:=by
 induction n using Nat.strongRecOn with
 | _ n ih=>
  rcases Nat.eq_zero_or_pos n with rfl | h
  ·simp
  ·rw[b0a h,a0F,ih _ (by omega)];omega
theorem a0j (n:Nat):Sm (limbs n):=by
 induction n using Nat.strongRecOn with
 | _ n ih=>
  rcases Nat.eq_zero_or_pos n with rfl | h
  ·rw[limbs_zero];exact Sm.nil
  ·rw[b0a h];exact Sm.cons (by omega) (ih _ (by omega))
theorem a0Q {n:Nat}:limbs n = []↔n=0:=by
 constructor
 ·intro h;have:=a0p n;rw[h]at this;exact this.symm
 ·rintro rfl;exact limbs_zero
theorem f0T {l:List Nat}(h:Sm l)(hl:∀ x,l.getLast? = some x→x≠0):limbs (val l)=l:=by
 induction l with
 | nil=>simp
 | cons x l ih=>
  have ht:limbs (val l)=l:=by
   refine ih h.tail fun y hy=>hl y ?_
   cases l with
   | nil=>cases hy
   | cons z l=>rw[List.getLast?_cons_cons];exact hy
  have hx:=h.head;have hp:0<val (x::l):=by
   rw[a0F];cases l with
   | nil=>have:=hl x rfl;omega
   | cons z l=>
    have:val (z::l)≠0:=fun e=>by rw[e]at ht;simp at ht
    omega
  rw[b0a hp,a0F];rw[show (x+1000000000*val l)%1000000000=x by omega,show (x+1000000000*val l) / 1000000000=val l by omega,ht]
theorem c0w (n:Nat):∀ x,(limbs n).getLast? = some x→x≠0:=by
 induction n using Nat.strongRecOn with
 | _ n ih=>
  intro x hx;rcases Nat.eq_zero_or_pos n with rfl | h
  ·simp at hx
  ·rw[b0a h]at hx;rcases Nat.eq_zero_or_pos (n / 1000000000) with h0 | h0
   ·rw[h0,limbs_zero]at hx;simp at hx;omega
   ·rw[b0a h0,List.getLast?_cons_cons,← b0a h0]at hx;exact ih _ (by omega) x hx
theorem f0m {l:List Nat}(h:Sm l){m:Nat}(hm:m≤l.length)(hz:∀ j x,m≤j→l[j]?=some x→x=0)(hl:∀ x,0<m→l[m-1]?=some x→x≠0):l.take m=limbs (val l):=by
 have hd:l.drop m=List.replicate (l.length-m) 0:=by
  rw[List.eq_replicate_iff];refine⟨by simp,fun x hx=>?_⟩;obtain⟨j,hj⟩:=List.getElem?_of_mem hx;rw[List.getElem?_drop]at hj;exact hz _ x (by omega) hj
 have hv:val l=val (l.take m):=by
  have:=b0p l m hm;rw[hd,b0o]at this;omega
 rw[hv];refine (f0T (h.take m) fun x hx=>?_).symm;rw[List.getLast?_eq_getElem?,List.length_take_of_le hm,List.getElem?_take]at hx
 split at hx
 ·exact hl x (by omega) hx
 ·cases hx
theorem a0e {n k:Nat}:(limbs n).length≤k↔n<1000000000 ^ k:=by
 induction k generalizing n with
 | zero=>simp[a0Q]
 | succ k ih=>
  rcases Nat.eq_zero_or_pos n with rfl | h
  ·simp[Nat.pow_pos]
  ·rw[b0a h,List.length_cons,Nat.add_le_add_iff_right,ih,Nat.pow_succ];rw[Nat.div_lt_iff_lt_mul (by omega)]
theorem a0L {n k:Nat}:k<(limbs n).length↔1000000000 ^ k≤n:=by
 have:=a0e (n:=n) (k:=k);omega
theorem a0h {a b:Nat}(h:a≤b):(limbs a).length≤(limbs b).length:=
 a0e.2 (Nat.lt_of_le_of_lt h (a0e.1 (Nat.le_refl _)))
theorem b0J {a b:Nat}(h:(limbs a).length<(limbs b).length):a<b:=
 Nat.lt_of_not_le fun k=>by have:=a0h k;omega
theorem k0i {l k:List Nat}(hl:Sm l)(hlen:l.length=k.length){i x y:Nat}(hx:l[i]?=some x)(hy:k[i]?=some y)(hd:l.drop (i+1)=k.drop (i+1))(hxy:x<y):val l<val k:=by
 have hi:i<l.length:=(List.getElem?_eq_some_iff.1 hx).1;rw[b0p l i (by omega),b0p k i (by omega),b0v hx,b0v hy,hd];have h1:=c0f (hl.take i);rw[List.length_take_of_le (by omega)]at h1;have h2:x+1000000000*val (k.drop (i+1))+1≤y+1000000000*val (k.drop (i+1)):=by omega
 have h3:=Nat.mul_le_mul_left (1000000000 ^ i) h2;rw[Nat.mul_add]at h3;omega
theorem e0y:limbs 1 = [1]:=by rw[b0a (by omega)];simp
theorem b0Y {n:Nat}(h0:0<n)(h:n<1000000000):limbs n = [n]:=by
 rw[b0a h0,Nat.mod_eq_of_lt h,Nat.div_eq_of_lt h,limbs_zero]
theorem d0k {a b:Nat}(h:limbs a=limbs b):a=b:=by rw[← a0p a,h,a0p]
theorem a0m (l:List Nat)(i:Nat):val (l.take (i+1))=val (l.take i)+1000000000 ^ i*l.getD i 0:=by
 rw[List.getD_eq_getElem?_getD];cases h:l[i]? with
 | some x=>rw[b0u h];rfl
 | none=>
  have:l.length≤i:=List.getElem?_eq_none_iff.1 h;rw[List.take_of_length_le (by omega),List.take_of_length_le this];simp
theorem g0q (p s:Nat):p*(s%1000000000)+p*1000000000*(s / 1000000000)=p*s:=by
 rw[Nat.mul_assoc,← Nat.mul_add,Nat.mod_add_div]
theorem c0s (s:List Nat)(z:Nat):val (s ++ [z])=val s+1000000000 ^ s.length*z:=by
 rw[a0U];simp[a0F]
theorem j0h {s a b:List Nat}{i c:Nat}(hl:s.length=i)(h:val s+1000000000 ^ i*c=val (a.take i)+val (b.take i)):
 val (s ++ [(a.getD i 0+c+b.getD i 0)%1000000000])+1000000000 ^ (i+1)*((a.getD i 0+c+b.getD i 0) / 1000000000)=val (a.take (i+1))+val (b.take (i+1)):=by
 rw[c0s,hl,a0m,a0m,Nat.pow_succ];have:=g0q (1000000000 ^ i) (a.getD i 0+c+b.getD i 0);generalize 1000000000 ^ i=p at *
 rw[Nat.mul_add,Nat.mul_add]at this;omega
theorem a0B {l:List Nat}{i:Nat}(h:l.length≤i):val (l.take i)=val l:=by rw[List.take_of_length_le h]
theorem m0K {s a b:List Nat}{i c z c':Nat}(hl:s.length=i)(h:val (a.take i)+1000000000 ^ i*c=val s+val (b.take i))
 (hz:a.getD i 0+1000000000*c'=z+c+b.getD i 0):val (a.take (i+1))+1000000000 ^ (i+1)*c'=val (s ++ [z])+val (b.take (i+1)):=by
 rw[c0s,hl,a0m,a0m,Nat.pow_succ];generalize 1000000000 ^ i=p at *
 have:=congrArg (p * ·) hz;simp only[Nat.mul_add]at this;rw[Nat.mul_assoc];omega
theorem o0G {s a b:List Nat}{c:Nat}(hs:Sm s)(hl:s.length=a.length)(hb:b.length≤a.length)(h:val (a.take a.length)+1000000000 ^ a.length*c=val s+val (b.take a.length))(hle:val b≤val a):val s=val a-val b:=by
 rw[List.take_of_length_le (Nat.le_refl _),List.take_of_length_le hb]at h;have h1:=c0f hs;rw[hl]at h1;rcases c with _ | c
 ·omega
 ·rw[Nat.mul_add]at h;generalize 1000000000 ^ a.length*c=q at *
  omega
theorem i0F {o:List Nat}{m old x y c:Nat}(h:o[m]?=some old):
 val (o.set m ((old+x*y+c)%1000000000))+1000000000 ^ (m+1)*((old+x*y+c) / 1000000000)=val o+1000000000 ^ m*c+1000000000 ^ m*(x*y):=by
 have h1:=h0n h ((old+x*y+c)%1000000000);have h2:=g0q (1000000000 ^ m) (old+x*y+c);rw[Nat.pow_succ];generalize 1000000000 ^ m=p at *
 rw[Nat.mul_add,Nat.mul_add]at h2;omega
theorem c0h {old x y c:Nat}(h1:old<1000000000)(h2:x<1000000000)(h3:y<1000000000)(h4:c<1000000000):old+x*y+c<1000000000*1000000000∧x*y≤999999999*999999999:=by
 have:x*y≤999999999*999999999:=Nat.mul_le_mul (by omega) (by omega);omega
theorem l0f {b:List Nat}{V o o' c c' i k x y:Nat}(hy:b.getD k 0=y)(h:o+1000000000 ^ (i+k)*c=V+1000000000 ^ i*x*val (b.take k))
 (hs:o'+1000000000 ^ (i+k+1)*c'=o+1000000000 ^ (i+k)*c+1000000000 ^ (i+k)*(x*y)):
 o'+1000000000 ^ (i+(k+1))*c'=V+1000000000 ^ i*x*val (b.take (k+1)):=by
 rw[a0m,hy,Nat.mul_add];have e:1000000000 ^ i*x*(1000000000 ^ k*y)=1000000000 ^ (i+k)*(x*y):=by
  rw[Nat.pow_add,Nat.mul_assoc,Nat.mul_assoc,Nat.mul_left_comm x]
 rw[e,← Nat.add_assoc];omega
theorem j0n {Q A x d r:Nat}(h:A=d*Q+r):
 x+1000000000*A=d*((r*1000000000+x) / d+1000000000*Q)+(r*1000000000+x)%d:=by
 subst h;have:=Nat.div_add_mod (r*1000000000+x) d;rw[Nat.mul_add,Nat.mul_add,Nat.mul_left_comm d 1000000000 Q];omega
theorem m0O {x d r:Nat}(hd:0<d)(hr:r<d)(hx:x<1000000000):(r*1000000000+x) / d<1000000000:=by
 rw[Nat.div_lt_iff_lt_mul hd];have:r*1000000000+1000000000≤d*1000000000:=by
  rw[← Nat.succ_mul];exact Nat.mul_le_mul_right _ hr
 rw[Nat.mul_comm 1000000000 d];omega
theorem k0v {A d Q r:Nat}(h:A=d*Q+r)(hr:r<d):Q=A / d∧r=A%d:=by
 have hd:0<d:=by omega
 constructor
 ·rw[h,Nat.mul_add_div hd,Nat.div_eq_of_lt hr];rfl
 ·rw[h,Nat.mul_add_mod,Nat.mod_eq_of_lt hr]
theorem h0N {s:List Nat}(h:Sm s)(hge:s ≠ []→1000000000 ^ (s.length-1)≤val s):limbs (val s)=s:=by
 refine f0T h fun x hx e=>?_
 subst e;have hne:s ≠ []:=fun e=>by subst e;cases hx
 obtain⟨t,b,rfl⟩:∃ t b,s=t ++ [b]:=⟨s.dropLast,s.getLast hne,(List.dropLast_concat_getLast hne).symm⟩;rw[List.getLast?_append]at hx;simp at hx;subst hx;have h1:=hge hne;have h2:=c0f (fun y hy=>h y (List.mem_append_left _ hy):Sm t);rw[c0s]at h1;simp at h1;omega
theorem i0I {n:Nat}(h:limbs n ≠ []):1000000000 ^ ((limbs n).length-1)≤n:=by
 have:0<(limbs n).length:=List.length_pos_iff.2 h;exact a0L.1 (by omega)
structure PlusI (a b:Nat)(s:List Nat)(c:Nat):Prop where
 sm:Sm s
 c1:c≤1
 eq:val s+1000000000 ^ s.length*c=val ((limbs a).take s.length)+val ((limbs b).take s.length)
 last:s.length≤(limbs a).length∨s.length≤(limbs b).length∨1000000000 ^ (s.length-1)≤val s
theorem PlusI.start (a b:Nat):PlusI a b [] 0:=⟨Sm.nil,by omega,by simp,.inl (Nat.zero_le _)⟩
theorem PlusI.next {a b c:Nat}{s:List Nat}(h:PlusI a b s c)(hc:s.length<(limbs a).length∨s.length<(limbs b).length∨0<c):
 PlusI a b (s ++ [((limbs a).getD s.length 0+c+(limbs b).getD s.length 0)%1000000000]) (((limbs a).getD s.length 0+c+(limbs b).getD s.length 0) / 1000000000):=by
 have h1:=(a0j a).getD s.length;have h2:=(a0j b).getD s.length;have h3:=h.c1;refine⟨h.sm.append (Sm.cons (by omega) Sm.nil),by omega,?_,?_⟩
 ·have:=j0h (i:=s.length) rfl h.eq;rw[List.length_append,List.length_singleton];exact this
 ·rw[List.length_append,List.length_singleton];rcases hc with hc | hc | hc
  ·exact .inl (by omega)
  ·exact .inr (.inl (by omega))
  ·by_cases h4:s.length+1≤(limbs a).length
   ·exact .inl h4
   ·by_cases h5:s.length+1≤(limbs b).length
    ·exact .inr (.inl h5)
    ·have e1:(limbs a).getD s.length 0=0:=by rw[List.getD_eq_getElem?_getD,List.getElem?_eq_none (by omega)];rfl
     have e2:(limbs b).getD s.length 0=0:=by rw[List.getD_eq_getElem?_getD,List.getElem?_eq_none (by omega)];rfl
     rw[e1,e2,c0s,show (0+c+0)%1000000000=1 by omega];simp
theorem PlusI.done {a b c:Nat}{s:List Nat}(h:PlusI a b s c)(ha:¬ s.length<(limbs a).length)(hb:¬ s.length<(limbs b).length)(hc:c=0):s=limbs (a+b):=by
 subst hc;have he:=h.eq;rw[a0B (by omega),a0B (by omega),a0p,a0p,Nat.mul_zero,Nat.add_zero]at he;have:=h0N h.sm fun hne=>by
  rcases h.last with h1 | h1 | h1
  ·have e:s.length=(limbs a).length:=by omega
   have:=i0I (n:=a) (fun e'=>hne (List.eq_nil_of_length_eq_zero (by rw[e,e'];rfl)));rw[e];omega
  ·have e:s.length=(limbs b).length:=by omega
   have:=i0I (n:=b) (fun e'=>hne (List.eq_nil_of_length_eq_zero (by rw[e,e'];rfl)));rw[e];omega
  ·exact h1
 rw[← he,this]
def b0e (a b:Nat):Int:=if a<b then -1 else if b<a then 1 else 0
theorem b0t {a b:Nat}(h:a<b):b0e a b = -1:=by rw[b0e,if_pos h]
theorem b0M {a b:Nat}(h:b<a):b0e a b=1:=by rw[b0e,if_neg (by omega),if_pos h]
theorem c0O {a:Nat}:b0e a a=0:=by rw[b0e,if_neg (by omega),if_neg (by omega)]
theorem d0h {a b i x y:Nat}(hl:(limbs a).length=(limbs b).length)(hx:(limbs a)[i]?=some x)(hy:(limbs b)[i]?=some y)(hd:(limbs a).drop (i+1)=(limbs b).drop (i+1))(h:x<y):a<b:=by
 have:=k0i (a0j a) hl hx hy hd h;rwa[a0p,a0p]at this
theorem d0O {l k:List Nat}{i x:Nat}(hx:l[i]?=some x)(hy:k[i]?=some x)(hd:l.drop (i+1)=k.drop (i+1)):l.drop i=k.drop i:=by
 obtain⟨h1,h2⟩:=List.getElem?_eq_some_iff.1 hx;obtain⟨h3,h4⟩:=List.getElem?_eq_some_iff.1 hy;rw[List.drop_eq_getElem_cons h1,List.drop_eq_getElem_cons h3,h2,h4,hd]
structure MinusI (a b:Nat)(s:List Nat)(c:Nat):Prop where
 sm:Sm s
 c1:c≤1
 eq:val ((limbs a).take s.length)+1000000000 ^ s.length*c=val s+val ((limbs b).take s.length)
theorem MinusI.start (a b:Nat):MinusI a b [] 0:=⟨Sm.nil,by omega,by simp⟩
theorem MinusI.next {a b c z c':Nat}{s:List Nat}(h:MinusI a b s c)(hz:(limbs a).getD s.length 0+1000000000*c'=z+c+(limbs b).getD s.length 0)(h1:z<1000000000)(h2:c'≤1):MinusI a b (s ++ [z]) c':=by
 refine⟨h.sm.append (Sm.cons h1 Sm.nil),h2,?_⟩;have:=m0K (i:=s.length) rfl h.eq hz;rw[List.length_append,List.length_singleton];exact this
theorem MinusI.done {a b c:Nat}{s:List Nat}(h:MinusI a b s c)(hl:s.length=(limbs a).length)(hle:b≤a):val s=a-b:=by
 have he:=h.eq;rw[hl]at he;have:=o0G h.sm hl (a0h hle) he (by rw[a0p,a0p];exact hle);rwa[a0p,a0p]at this
structure MulI (a b:Nat)(i:Nat)(o:List Nat):Prop where
 sm:Sm o
 len:o.length=(limbs a).length+(limbs b).length
 eq:val o=val ((limbs a).take i)*b
 hi:∀ j,i+(limbs b).length≤j→o.getD j 0=0
structure MulJ (a b i x k c:Nat)(o:List Nat):Prop where
 sm:Sm o
 len:o.length=(limbs a).length+(limbs b).length
 c1:c<1000000000
 eq:val o+1000000000 ^ (i+k)*c=val ((limbs a).take i)*b+1000000000 ^ i*x*val ((limbs b).take k)
 hi:∀ j,i+(limbs b).length≤j→o.getD j 0=0
theorem MulI.start (a b:Nat):MulI a b 0 (List.replicate ((limbs a).length+(limbs b).length) 0):=
 ⟨Sm.zeros _,by simp,by rw[b0o];simp,fun j _=>by
  rw[List.getD_eq_getElem?_getD,List.getElem?_replicate];split<;>rfl⟩
theorem MulI.enter {a b i x:Nat}{o:List Nat}(h:MulI a b i o):MulJ a b i x 0 0 o:=⟨h.sm,h.len,by omega,by rw[h.eq];simp,h.hi⟩
theorem MulJ.next {a b i x k c old y:Nat}{o:List Nat}(h:MulJ a b i x k c o)(hx:(limbs a)[i]?=some x)(hy:(limbs b)[k]?=some y)(ho:o[i+k]?=some old):
 MulJ a b i x (k+1) ((old+x*y+c) / 1000000000) (o.set (i+k) ((old+x*y+c)%1000000000)):=by
 have hb:=c0h (h.sm.get ho) ((a0j a).get hx) ((a0j b).get hy) h.c1;refine⟨h.sm.set _ (by omega),by rw[List.length_set,h.len],?_,?_,fun j hj=>?_⟩
 ·rw[Nat.div_lt_iff_lt_mul (by omega)];exact hb.1
 ·have hk:k<(limbs b).length:=(List.getElem?_eq_some_iff.1 hy).1;exact l0f (b:=limbs b) (by rw[List.getD_eq_getElem?_getD,hy];rfl) h.eq (i0F ho)
 ·have hk:k<(limbs b).length:=(List.getElem?_eq_some_iff.1 hy).1;have:=h.hi j hj;rw[List.getD_eq_getElem?_getD]at this ⊢;rw[List.getElem?_set_ne (by omega)];exact this
theorem MulJ.leave {a b i x c:Nat}{o:List Nat}(h:MulJ a b i x (limbs b).length c o)(hx:(limbs a)[i]?=some x):MulI a b (i+1) (o.set (i+(limbs b).length) c):=by
 have hi:i<(limbs a).length:=(List.getElem?_eq_some_iff.1 hx).1;have ho:o[i+(limbs b).length]?=some 0:=by
  have h1:=h.hi (i+(limbs b).length) (Nat.le_refl _);have h2:i+(limbs b).length<o.length:=by rw[h.len];omega
  rw[List.getD_eq_getElem?_getD,List.getElem?_eq_getElem h2]at h1;rw[List.getElem?_eq_getElem h2];simpa using h1
 refine⟨h.sm.set _ h.c1,by rw[List.length_set,h.len],?_,fun j hj=>?_⟩
 ·have h1:=h0n ho c;have h2:=h.eq;rw[a0B (Nat.le_refl _),a0p]at h2;rw[b0u hx,Nat.add_mul];omega
 ·have:=h.hi j (by omega);rw[List.getD_eq_getElem?_getD]at this ⊢;rw[List.getElem?_set_ne (by omega)];exact this
theorem MulI.done {a b:Nat}{o:List Nat}(h:MulI a b (limbs a).length o):val o=a*b:=by
 rw[h.eq,a0B (Nat.le_refl _),a0p]
structure SmallI (a d j r:Nat)(o:List Nat):Prop where
 sm:Sm o
 len:o.length=(limbs a).length
 rd:r<d
 eq:val ((limbs a).drop j)=d*val (o.drop j)+r
theorem SmallI.start {a d:Nat}(hd:0<d):SmallI a d (limbs a).length 0 (List.replicate (limbs a).length 0):=
 ⟨Sm.zeros _,by simp,hd,by rw[List.drop_of_length_le (Nat.le_refl _),List.drop_of_length_le (by simp)];simp⟩
theorem SmallI.next {a d j r x:Nat}{o:List Nat}(h:SmallI a d (j+1) r o)(hx:(limbs a)[j]?=some x):
 SmallI a d j ((r*1000000000+x)%d) (o.set j ((r*1000000000+x) / d)):=by
 have hd:0<d:=by have:=h.rd;omega
 have hj:j<o.length:=by rw[h.len];exact (List.getElem?_eq_some_iff.1 hx).1
 refine⟨h.sm.set _ (m0O hd h.rd ((a0j a).get hx)),by rw[List.length_set,h.len],Nat.mod_lt _ hd,?_⟩;have h1:(o.set j ((r*1000000000+x) / d))[j]?=some ((r*1000000000+x) / d):=List.getElem?_set_self hj;rw[b0v hx,b0v h1,List.drop_set_of_lt (by omega)];exact j0n h.eq
theorem SmallI.done {a d r:Nat}{o:List Nat}(h:SmallI a d 0 r o):val o=a / d∧r=a%d:=by
 have he:=h.eq;rw[List.drop_zero,List.drop_zero,a0p]at he;exact k0v he h.rd
structure ScaleI (a d i c:Nat)(o:List Nat):Prop where
 sm:Sm o
 len:o.length=(limbs a).length+1
 c1:c<1000000000
 eq:val o+1000000000 ^ i*c=val ((limbs a).take i)*d
 hi:∀ j,i≤j→o.getD j 0=0
theorem ScaleI.start (a d:Nat):ScaleI a d 0 0 (List.replicate ((limbs a).length+1) 0):=
 ⟨Sm.zeros _,by simp,by omega,by rw[b0o];simp,fun j _=>by
  rw[List.getD_eq_getElem?_getD,List.getElem?_replicate];split<;>rfl⟩
theorem g0d {o:List Nat}{i j z:Nat}(h:∀ j,i≤j→o.getD j 0=0)(hj:i+1≤j):(o.set i z).getD j 0=0:=by
 have:=h j (by omega);rw[List.getD_eq_getElem?_getD]at this ⊢;rw[List.getElem?_set_ne (by omega)];exact this
theorem i0O {o:List Nat}{i:Nat}(h:∀ j,i≤j→o.getD j 0=0)(hi:i<o.length):o[i]?=some 0:=by
 have h1:=h i (Nat.le_refl _);rw[List.getD_eq_getElem?_getD,List.getElem?_eq_getElem hi]at h1;rw[List.getElem?_eq_getElem hi];simpa using h1
theorem ScaleI.next {a d i c x:Nat}{o:List Nat}(h:ScaleI a d i c o)(hd:d<1000000000)(hx:(limbs a)[i]?=some x):
 ScaleI a d (i+1) ((x*d+c) / 1000000000) (o.set i ((x*d+c)%1000000000)):=by
 have hi:i<(limbs a).length:=(List.getElem?_eq_some_iff.1 hx).1;have ho:=i0O h.hi (by rw[h.len];omega);have hb:=c0h (old:=0) (by omega) ((a0j a).get hx) hd h.c1;refine⟨h.sm.set _ (by omega),by rw[List.length_set,h.len],?_,?_,fun j hj=>g0d h.hi hj⟩
 ·rw[Nat.div_lt_iff_lt_mul (by omega)];omega
 ·have h1:=i0F (x:=x) (y:=d) (c:=c) ho;rw[Nat.zero_add]at h1;have h2:=h.eq;rw[b0u hx,Nat.add_mul,Nat.mul_assoc];omega
theorem ScaleI.done {a d c:Nat}{o:List Nat}(h:ScaleI a d (limbs a).length c o):val (o.set (limbs a).length c)=a*d∧Sm (o.set (limbs a).length c)∧(o.set (limbs a).length c).length=(limbs a).length+1:=by
 have ho:=i0O h.hi (by rw[h.len];omega);have h1:=h0n ho c;have h2:=h.eq;rw[a0B (Nat.le_refl _),a0p]at h2;exact⟨by omega,h.sm.set _ h.c1,by rw[List.length_set,h.len]⟩
open Go.RowKit
theorem a0G {k:IntKind}{a b:Int}(h:a=b):Ending.returned (.int k a)=.returned (.int k b):=by rw[h]
theorem o0X {v:Value}{k:IntKind}{a b:Int}(h:a=b):Ending.returned (.tuple #[v,.int k a])=.returned (.tuple #[v,.int k b]):=by rw[h]
theorem i0s {a b:Bool}(h:a=b):Ending.returned (.bool a)=.returned (.bool b):=by rw[h]
theorem a0i {B:Nat}{a w:World}(h:Below B a w)(n:Nat):Below B a (w.drewN n):=⟨h.os,h.tape,h.output,h.size,h.block⟩
theorem a0a {w w1 w2:World}(h:Below w.heap.size w w1)(k:Below w1.heap.size w1 w2):Below w.heap.size w w2:=h.trans (k.mono h.size)
theorem Addr.add_lit (g o j:Nat):(⟨g,o,none⟩:Addr).add j=⟨g,o+j,none⟩:=by
 unfold Addr.add
 split
 ·rename_i e;subst e;rfl
 ·rfl
theorem a0z {w:World}{a:Addr}{v:Value}(h:w.cell? a=some v):a.block<w.heap.size:=World.block_lt_of_cell? w a h
structure Row (w:World)(v:Value)(xs:List Value):Prop where
 ex:∃ a c,v=.slice a xs.length c∧xs.length≤c∧c≤maxLen∧∀ i x,xs[i]?=some x→∃ g o,a=some ⟨g,o,none⟩∧g<w.heap.size∧w.cell? ⟨g,o+i,none⟩=some x
theorem Row.nil (w:World):Row w (.slice none 0 0) []:=⟨none,0,rfl,Nat.le_refl _,Nat.zero_le _,fun i x h=>by simp at h⟩
theorem Row.call {w w':World}{v:Value}{xs:List Value}(h:Row w v xs)(hb:Below w.heap.size w w'):Row w' v xs:=by
 obtain⟨a,c,rfl,h1,h2,h3⟩:=h.ex;refine⟨a,c,rfl,h1,h2,fun i x hx=>?_⟩;obtain⟨g,o,e,hg,hc⟩:=h3 i x hx;exact⟨g,o,e,Nat.lt_of_lt_of_le hg hb.size,(hb.cell (p:=⟨g,o+i,none⟩) hg).trans hc⟩
theorem Row.drewN {w:World}{v:Value}{xs:List Value}(h:Row w v xs)(k:Nat):Row (w.drewN k) v xs:=⟨h.ex⟩
theorem Row.drew {w:World}{v:Value}{xs:List Value}(h:Row w v xs):Row w.drew v xs:=⟨h.ex⟩
theorem Row.of_owns {w:World}{base n:Nat}{e:TypeId}{v:Value}{xs:List Value}(h:w.ownsRow base e 1 v n xs):Row w v xs:=by
 have hn:n=xs.length:=by have:=h.1;omega
 subst hn;refine⟨?_⟩;have hh:=h;rcases h.2 with ⟨rfl,h0⟩ | ⟨g,cap,cur,rfl,hb,hg,h1,h2,h3,h4⟩
 ·exact⟨none,0,by rw[h0],by omega,by unfold maxLen;omega,fun i x hx=>by have:=(List.getElem?_eq_some_iff.1 hx).1;omega⟩
 ·refine⟨some ⟨g,0,none⟩,cap,rfl,h1,h2,fun i x hx=>⟨g,0,rfl,(Array.getElem?_eq_some_iff.1 hg).1,?_⟩⟩;have:=hh.cells rfl i x hx;rwa[Addr.add_lit]at this
theorem Row.of_blk {w:World}{b n:Nat}{cs:Array Value}{t:TypeId}{xs:List Value}(h:Blk w b cs t)(hn:xs.length=n)(hm:n≤maxLen)(hx:∀ (i:Nat) (x:Value),xs[i]?=some x→cs[i]?=some x){c:Nat}(hc:n≤c)(hcm:c≤maxLen):Row w (.slice (some ⟨b,0,none⟩) n c) xs:=by
 subst hn;exact⟨_,c,rfl,hc,hcm,fun i x hi=>⟨b,0,rfl,h.lt,by rw[Nat.zero_add,h.cell];exact hx i x hi⟩⟩
theorem Row.cut {w:World}{a:Option Addr}{n c m:Nat}{xs:List Value}(h:Row w (.slice a n c) xs)(hm:m≤n):Row w (.slice a m c) (xs.take m):=by
 obtain⟨a',c',e,h1,h2,h3⟩:=h.ex;simp at e;obtain⟨rfl,rfl,rfl⟩:=e;refine⟨a,c,by rw[List.length_take_of_le hm],by rw[List.length_take_of_le hm];omega,h2,fun i x hx=>?_⟩;rw[List.getElem?_take]at hx
 split at hx
 ·exact h3 i x hx
 ·cases hx
theorem Row.len {w:World}{a:Option Addr}{n c:Nat}{xs:List Value}(h:Row w (.slice a n c) xs):n=xs.length∧n≤c∧c≤maxLen:=by
 obtain⟨a',c',e,h1,h2,h3⟩:=h.ex;simp at e;obtain⟨rfl,rfl,rfl⟩:=e;exact⟨rfl,h1,h2⟩
theorem Row.at {w:World}{a:Option Addr}{n c:Nat}{xs:List Value}(h:Row w (.slice a n c) xs){i:Nat}{x:Value}(hx:xs[i]?=some x):∃ g o,a=some ⟨g,o,none⟩∧g<w.heap.size∧w.cell? ⟨g,o+i,none⟩=some x:=by
 obtain⟨a',c',e,h1,h2,h3⟩:=h.ex;simp at e;obtain⟨rfl,rfl,rfl⟩:=e;exact h3 i x hx
def ints (k:IntKind)(l:List Nat):List Value:=l.map fun (x:Nat)=>Value.int k (x:Int)
@[simp] theorem ints_length (k:IntKind) (l:List Nat):(ints k l).length=l.length:=by simp[ints]
theorem c0y {k:IntKind}{l:List Nat}{i x:Nat}(h:l[i]?=some x):(ints k l)[i]?=some (.int k (x:Int)):=by simp[ints,h]
theorem c0k (k:IntKind)(l:List Nat)(m:Nat):(ints k l).take m=ints k (l.take m):=by simp[ints,List.map_take]
theorem h0U (k:IntKind)(l m:List Nat):ints k (l++m)=ints k l++ints k m:=by simp[ints]
theorem d0n (k:IntKind)(l:List Nat)(i x:Nat):(ints k l).set i (.int k (x:Int))=ints k (l.set i x):=by simp[ints,List.map_set]
theorem Row.openI {k:IntKind}{w:World}{v:Value}{l:List Nat}(h:Row w v (ints k l)):∃ a c,v=.slice a l.length c∧l.length≤c∧c≤9223372036854775807∧∀ (i x:Nat),l[i]?=some x→∃ g o,a=some ⟨g,o,none⟩∧g<w.heap.size∧w.cell? ⟨g,o+i,none⟩=some (.int k (x:Int)):=by
 obtain⟨a,c,rfl,h1,h2,h3⟩:=h.ex;rw[ints_length]at *;exact⟨a,c,rfl,h1,by unfold maxLen at h2;omega,fun i x hx=>h3 i _ (c0y hx)⟩
def IsN (k:IntKind)(w:World)(v:Value)(n:Nat):Prop:=Row w v (ints k (limbs n))
theorem IsN.call {k:IntKind}{w w':World}{v:Value}{n:Nat}(h:IsN k w v n)(hb:Below w.heap.size w w'):IsN k w' v n:=Row.call h hb
theorem IsN.openI {k:IntKind}{w:World}{v:Value}{n:Nat}(h:IsN k w v n):∃ a c,v=.slice a (limbs n).length c∧(limbs n).length≤c∧c≤9223372036854775807∧∀ (i x:Nat),(limbs n)[i]?=some x→∃ g o,a=some ⟨g,o,none⟩∧g<w.heap.size∧w.cell? ⟨g,o+i,none⟩=some (.int k (x:Int)):=Row.openI h
theorem IsN.zero (k:IntKind)(w:World):IsN k w (.slice none 0 0) 0:=by
 unfold IsN;rw[limbs_zero];exact Row.nil w
theorem a0y {k:IntKind}{w wr w3:World}{t:TypeId}{v v3:Value}{s:List Nat}{z:Nat}{o:Obj}(hO:wr.ownsRow w.heap.size t 1 v s.length (ints k s))(hB:Below w.heap.size w wr)
 (h3:w3.ownsRow w.heap.size t 1 v3 (s.length+1) (ints k s ++ [.int k (z:Int)])) (hg:(wr.alloc o).grownBy w3 v.ownBlock):
 w3.ownsRow w.heap.size t 1 v3 (s ++ [z]).length (ints k (s ++ [z]))∧Below w.heap.size w w3:=by
 refine⟨by rw[h0U,List.length_append];exact h3,?_⟩;have h1:Below w.heap.size w (wr.alloc o):=hB.alloc hB.size o;refine h1.trans ⟨hg.os,hg.tape,hg.output,hg.size,fun i hi=>hg.block i (by have:=h1.size;omega) (fun e=>?_)⟩;have:=(hO.lt i e.symm).1;omega
theorem c0u {k:IntKind}{w:World}{base:Nat}{t:TypeId}{v:Value}{s:List Nat}{n:Nat}(h:w.ownsRow base t 1 v s.length (ints k s))(hs:s=limbs n):IsN k w v n:=by
 subst hs;exact Row.of_owns h
theorem a0x {l:List Nat}{i x:Nat}(h:l[i]?=some x):l.getD i 0=x:=by rw[List.getD_eq_getElem?_getD,h];rfl
theorem a0H {l:List Nat}{i:Nat}(h:l.length≤i):l.getD i 0=0:=by rw[List.getD_eq_getElem?_getD,List.getElem?_eq_none h];rfl
theorem a0t {w:World}{base:Nat}{e:TypeId}{size:Nat}{v:Value}{n:Nat}{xs:List Value}(h:w.ownsRow base e size v n xs):∃ a c,v=.slice a n c:=by
 rcases h.2 with ⟨rfl,rfl⟩ | ⟨g,cap,cur,rfl,_⟩
 ·exact⟨_,_,rfl⟩
 ·exact⟨_,_,rfl⟩
def Arr (k:IntKind)(t:TypeId)(w:World)(g:Nat)(l:List Nat):Prop:=Blk w g (ints k l).toArray t
theorem Arr.cell {k:IntKind}{t:TypeId}{w:World}{g:Nat}{l:List Nat}(h:Arr k t w g l){i x:Nat}(hx:l[i]?=some x):w.cell? ⟨g,i,none⟩=some (.int k (x:Int)):=by
 rw[Blk.cell h,List.getElem?_toArray];exact c0y hx
theorem Arr.free {k:IntKind}{t:TypeId}{w:World}{g:Nat}{l:List Nat}(h:Arr k t w g l)(i:Nat):w.frozen? ⟨g,i,none⟩=false:=Blk.free h i
theorem Arr.lt {k:IntKind}{t:TypeId}{w:World}{g:Nat}{l:List Nat}(h:Arr k t w g l):g<w.heap.size:=Blk.lt h
theorem Arr.set {k:IntKind}{t:TypeId}{w:World}{g:Nat}{l:List Nat}(h:Arr k t w g l)(i x:Nat):Arr k t (w.setCell ⟨g,i,none⟩ (.int k (x:Int))) g (l.set i x):=by
 have:=Blk.set h i (.int k (x:Int));unfold Arr;rw[← d0n];simpa using this
theorem Arr.call {k:IntKind}{t:TypeId}{w w':World}{g:Nat}{l:List Nat}(h:Arr k t w g l)(hb:Below w.heap.size w w'):Arr k t w' g l:=Blk.call h hb
theorem Arr.drewN {k:IntKind}{t:TypeId}{w:World}{g:Nat}{l:List Nat}(h:Arr k t w g l)(n:Nat):Arr k t (w.drewN n) g l:=h
theorem Arr.row {k:IntKind}{t:TypeId}{w:World}{g:Nat}{l:List Nat}(h:Arr k t w g l){n c:Nat}(hn:n≤l.length)(hc:n≤c)(hm:c≤maxLen):Row w (.slice (some ⟨g,0,none⟩) n c) (ints k (l.take n)):=by
 refine Row.of_blk h (by rw[ints_length,List.length_take_of_le hn]) (by omega) (fun i x hx=>?_) hc hm;rw[← c0k,List.getElem?_take]at hx
 split at hx
 ·rw[List.getElem?_toArray];exact hx
 ·cases hx
theorem f0l (k:IntKind)(n:Nat):madeCells #[.int k 0] n=(ints k (List.replicate n 0)).toArray:=by
 apply Array.ext_getElem?
 intro i;unfold madeCells ints;by_cases hi:i<n<;>simp[hi,Nat.mod_one]
theorem Arr.made (w:World)(k:IntKind)(t:TypeId)(n:Nat):Arr k t (w.alloc (.cells (madeCells #[.int k 0] n) t)) w.heap.size (List.replicate n 0):=by
 rw[f0l];exact Blk.new w _ t
theorem a0A {B:Nat}{a w:World}(h:Below B a w){g i:Nat}(hg:B≤g)(v:Value):Below B a (w.setCell ⟨g,i,none⟩ v):=h.setCell hg v
def ArrN (k:IntKind)(t:TypeId)(w:World)(g:Nat)(l:List Nat)(m:Nat)(x:Int):Prop:=Blk w g ((ints k l).toArray.setIfInBounds m (.int k x)) t
theorem Arr.setN {k:IntKind}{t:TypeId}{w:World}{g:Nat}{l:List Nat}(h:Arr k t w g l)(m:Nat)(x:Int):ArrN k t (w.setCell ⟨g,m,none⟩ (.int k x)) g l m x:=Blk.set h m _
theorem ArrN.drewN {k:IntKind}{t:TypeId}{w:World}{g m:Nat}{x:Int}{l:List Nat}(h:ArrN k t w g l m x)(n:Nat):ArrN k t (w.drewN n) g l m x:=h
theorem ArrN.free {k:IntKind}{t:TypeId}{w:World}{g m:Nat}{x:Int}{l:List Nat}(h:ArrN k t w g l m x)(i:Nat):w.frozen? ⟨g,i,none⟩=false:=Blk.free h i
theorem ArrN.cell {k:IntKind}{t:TypeId}{w:World}{g m:Nat}{x:Int}{l:List Nat}(h:ArrN k t w g l m x){i y:Nat}(hi:i≠m)(hy:l[i]?=some y):w.cell? ⟨g,i,none⟩=some (.int k (y:Int)):=by
 rw[Blk.cell h,Array.getElem?_setIfInBounds_ne (fun e=>hi e.symm),List.getElem?_toArray];exact c0y hy
theorem ArrN.self {k:IntKind}{t:TypeId}{w:World}{g m:Nat}{x:Int}{l:List Nat}(h:ArrN k t w g l m x)(hm:m<l.length):w.cell? ⟨g,m,none⟩=some (.int k x):=by
 rw[Blk.cell h,Array.getElem?_setIfInBounds_self_of_lt (by simpa using hm)]
theorem ArrN.set {k:IntKind}{t:TypeId}{w:World}{g m:Nat}{x:Int}{l:List Nat}(h:ArrN k t w g l m x){i:Nat}(hi:i≠m)(z:Nat):ArrN k t (w.setCell ⟨g,i,none⟩ (.int k (z:Int))) g (l.set i z) m x:=by
 have:=Blk.set h i (.int k (z:Int));unfold ArrN;rw[← d0n,show ((ints k l).set i (.int k (z:Int))).toArray=(ints k l).toArray.setIfInBounds i (.int k (z:Int)) by simp,Array.setIfInBounds_comm _ _ hi];exact this
theorem ArrN.back {k:IntKind}{t:TypeId}{w:World}{g m:Nat}{x:Int}{l:List Nat}(h:ArrN k t w g l m x)(z:Nat):Arr k t (w.setCell ⟨g,m,none⟩ (.int k (z:Int))) g (l.set m z):=by
 have:=Blk.set h m (.int k (z:Int));unfold Arr;rw[← d0n];simpa using this
theorem d0p {a w:World}{r:Option Nat}(h:a.grownBy w r)(n:Nat):a.grownBy (w.drewN n) r:=⟨h.os,h.tape,h.output,h.size,h.block⟩
theorem c0d {a w:World}{g:Nat}(h:a.grownBy w (some g))(i:Nat)(v:Value):a.grownBy (w.setCell ⟨g,i,none⟩ v) (some g):=
 ⟨h.os,h.tape,h.output,by simpa[World.setCell]using h.size,fun j hj hne=>(Below.heap_setCell w _ v j (fun e=>hne (by rw[e]))).trans (h.block j hj hne)⟩
theorem c0b {a w:World}{g:Nat}(h:a.grownBy w (some g)){p:Addr}{x:Value}(hc:a.cell? p=some x)(hne:p.block≠g):w.cell? p=some x:=
 (World.cell?_of_block (h.block p.block (a0z hc) (fun e=>hne (by injection e)))).trans hc
theorem Row.gb {w w':World}{gv o n c g:Nat}{xs:List Value}(h:Row w (.slice (some ⟨gv,o,none⟩) n c) xs)(hg:w.grownBy w' (some g))(hne:gv≠g):Row w' (.slice (some ⟨gv,o,none⟩) n c) xs:=by
 have hl:=h.len;obtain⟨rfl,h1,h2⟩:=hl;refine⟨_,c,rfl,h1,h2,fun i x hx=>?_⟩;obtain⟨g',o',e,hg',hc⟩:=h.at hx;simp at e;obtain⟨rfl,rfl⟩:=e;exact⟨gv,o,rfl,Nat.lt_of_lt_of_le hg' hg.size,c0b hg hc hne⟩
theorem Arr.gb {k:IntKind}{t:TypeId}{w w':World}{g g':Nat}{l:List Nat}(h:Arr k t w g l)(hg:w.grownBy w' (some g'))(hne:g≠g'):Arr k t w' g l:=Blk.grown h hg (fun e=>hne (by injection e with e;exact e.symm))
theorem n0V {B:Nat}{a w w':World}{g:Nat}(h:Below B a w)(hB:B≤w.heap.size)(hg:w.grownBy w' (some g))(hge:B≤g):Below B a w':=
 h.trans ⟨hg.os,hg.tape,hg.output,hg.size,fun i hi=>hg.block i (by omega) (fun e=>by injection e;omega)⟩
theorem IsN.inj {k:IntKind}{w:World}{v:Value}{m n:Nat}(h:IsN k w v m)(h':IsN k w v n):m=n:=by
 obtain⟨a,c,rfl,h1,h2,h3⟩:=h.openI;obtain⟨a',c',e,k1,k2,k3⟩:=h'.openI;simp at e;obtain⟨rfl,hl,rfl⟩:=e;refine d0k (List.ext_getElem hl fun i hi hi'=>?_);obtain⟨g,o,rfl,hg,hc⟩:=h3 i _ (List.getElem?_eq_getElem hi);obtain⟨g',o',e,hg',hc'⟩:=k3 i _ (List.getElem?_eq_getElem hi');simp at e;obtain⟨rfl,rfl⟩:=e;rw[hc]at hc';simp at hc';omega
noncomputable def n0s (k:IntKind)(w:World)(v:Value):Nat:=open Classical in if h:∃ n,IsN k w v n then Classical.choose h else 0
theorem e0a {k:IntKind}{w:World}{v:Value}{n:Nat}(h:IsN k w v n):n0s k w v=n:=by
 have hx:∃ n,IsN k w v n:=⟨n,h⟩;unfold n0s;rw[dif_pos hx];exact (Classical.choose_spec hx).inj h
end Go.Proofs.YtlimaehdmcnjaaaGreatDoor
namespace Go.Proofs
open Go.Shelf
def Tryz.lays160_ren:Go.Shelf.Ren:=⟨fun | 160=>170 | 232=>195 | 231=>194 | 227=>196 | 234=>198 | 233=>197 | 236=>200 | 235=>199 | 228=>215 | 271=>218 | 151=>217 | 197=>216 | 120=>226 | 152=>225 | 260=>224 | 137=>227 | 119=>228 | 224=>212 | 225=>211 | 217=>210 | 266=>222 | n=>n,fun | 9=>9 | 4=>4 | 3=>3 | 5=>5 | 117=>219 | 116=>218 | 0=>0 | 124=>222 | 21=>21 | 105=>237 | 46=>118 | 119=>245 | 139=>248 | 138=>247 | n=>n,fun | 3=>6 | 4=>7 | n=>n⟩
theorem Tryz.lays160:Go.Proofs.Lays.n160 Tryz.prog Tryz.lays160_ren:={
 mixed:=by kernel_rfl
 f119:=Tryz.func228.trans (congrArg some (by kernel_rfl))
 f120:=Tryz.func226.trans (congrArg some (by kernel_rfl))
 f137:=Tryz.func227.trans (congrArg some (by kernel_rfl))
 f151:=Tryz.func217.trans (congrArg some (by kernel_rfl))
 f152:=Tryz.func225.trans (congrArg some (by kernel_rfl))
 f160:=Tryz.func170.trans (congrArg some (by kernel_rfl))
 f197:=Tryz.func216.trans (congrArg some (by kernel_rfl))
 f217:=Tryz.func210.trans (congrArg some (by kernel_rfl))
 f224:=Tryz.func212.trans (congrArg some (by kernel_rfl))
 f225:=Tryz.func211.trans (congrArg some (by kernel_rfl))
 f227:=Tryz.func196.trans (congrArg some (by kernel_rfl))
 f228:=Tryz.func215.trans (congrArg some (by kernel_rfl))
 f231:=Tryz.func194.trans (congrArg some (by kernel_rfl))
 f232:=Tryz.func195.trans (congrArg some (by kernel_rfl))
 f233:=Tryz.func197.trans (congrArg some (by kernel_rfl))
 f234:=Tryz.func198.trans (congrArg some (by kernel_rfl))
 f235:=Tryz.func199.trans (congrArg some (by kernel_rfl))
 f236:=Tryz.func200.trans (congrArg some (by kernel_rfl))
 f260:=Tryz.func224.trans (congrArg some (by kernel_rfl))
 f266:=Tryz.func222.trans (congrArg some (by kernel_rfl))
 f271:=Tryz.func218.trans (congrArg some (by kernel_rfl))
 t0:=Tryz.underlying0
 a0:=Tryz.isAgg0
 z0:=Tryz.sizeOf0
 v0:=Tryz.zeroValue0
 t3:=Tryz.underlying3
 a3:=Tryz.isAgg3
 z3:=Tryz.sizeOf3
 v3:=Tryz.zeroValue3
 t4:=Tryz.underlying4
 a4:=Tryz.isAgg4
 z4:=Tryz.sizeOf4
 v4:=Tryz.zeroValue4
 t5:=Tryz.underlying5
 a5:=Tryz.isAgg5
 z5:=Tryz.sizeOf5
 v5:=Tryz.zeroValue5
 t9:=Tryz.underlying9
 a9:=Tryz.isAgg9
 z9:=Tryz.sizeOf9
 v9:=Tryz.zeroValue9
 t21:=Tryz.underlying21
 a21:=Tryz.isAgg21
 z21:=Tryz.sizeOf21
 v21:=Tryz.zeroValue21
 t46:=Tryz.underlying118
 a46:=Tryz.isAgg118
 z46:=Tryz.sizeOf118
 v46:=Tryz.zeroValue118
 t105:=Tryz.underlying237
 a105:=Tryz.isAgg237
 z105:=Tryz.sizeOf237
 v105:=Tryz.zeroValue237
 t116:=Tryz.underlying218
 a116:=Tryz.isAgg218
 z116:=Tryz.sizeOf218
 t117:=Tryz.underlying219
 a117:=Tryz.isAgg219
 z117:=Tryz.sizeOf219
 v117:=Tryz.zeroValue219
 t119:=Tryz.underlying245
 a119:=Tryz.isAgg245
 z119:=Tryz.sizeOf245
 t124:=Tryz.underlying222
 a124:=Tryz.isAgg222
 z124:=Tryz.sizeOf222
 v124:=Tryz.zeroValue222
 t138:=Tryz.underlying247
 a138:=Tryz.isAgg247
 z138:=Tryz.sizeOf247
 v138:=Tryz.zeroValue247
 t139:=Tryz.underlying248
 a139:=Tryz.isAgg248
 z139:=Tryz.sizeOf248
 v139:=Tryz.zeroValue248
 g3:=by kernel_rfl
 g4:=by kernel_rfl }
open Go.RowKit in
theorem Tryz.strings_Trim (s cutset:ByteArray)(w:World)(hs:s.size≤9223372036854775807)(hcs:cutset.size<4294967281)(hascii:∀ (j:Nat) b,cutset.data.toList[j]?=some b→b.toNat<128):
 Calls Tryz.prog 170 #[.string s,.string cutset] w fun e w'=>e=.returned (.string ⟨(Lib.trimS s.data.toList cutset.data.toList).toArray⟩)∧Below w.heap.size w w':=Any.strings_Trim_laid Tryz.lays160 (by kernel_rfl) s cutset w hs hcs hascii
def Tryz.laysPu14_ren:Go.Shelf.Ren:=⟨fun | 14=>171 | 16=>181 | 17=>116 | 19=>202 | 20=>203 | 21=>157 | 22=>158 | 23=>159 | 24=>160 | 25=>182 | 27=>184 | 26=>183 | 28=>204 | 29=>219 | 30=>187 | 31=>188 | 32=>189 | 33=>190 | 35=>142 | 34=>206 | 36=>207 | 37=>208 | 38=>209 | 39=>220 | 40=>221 | n=>n,fun | 9=>9 | 3=>3 | 22=>122 | 24=>89 | 25=>190 | 4=>4 | 34=>176 | 5=>5 | 36=>118 | 37=>136 | 0=>0 | 39=>179 | 21=>21 | 44=>205 | 47=>185 | 50=>229 | 48=>227 | 2=>2 | 52=>210 | 55=>212 | 59=>232 | 60=>161 | 20=>20 | 61=>233 | 65=>243 | 66=>244 | 67=>94 | n=>n,fun | 0=>0 | 1=>1 | 2=>2 | 3=>4 | 4=>5 | n=>n⟩
theorem Tryz.laysPu14:Go.Proofs.LaysPu.n14 Tryz.prog Tryz.laysPu14_ren:={
 mixed:=by kernel_rfl
 f14:=Tryz.func171.trans (congrArg some (by kernel_rfl))
 f16:=Tryz.func181.trans (congrArg some (by kernel_rfl))
 f17:=Tryz.func116.trans (congrArg some (by kernel_rfl))
 f19:=Tryz.func202.trans (congrArg some (by kernel_rfl))
 f20:=Tryz.func203.trans (congrArg some (by kernel_rfl))
 f21:=Tryz.func157.trans (congrArg some (by kernel_rfl))
 f22:=Tryz.func158.trans (congrArg some (by kernel_rfl))
 f23:=Tryz.func159.trans (congrArg some (by kernel_rfl))
 f24:=Tryz.func160.trans (congrArg some (by kernel_rfl))
 f25:=Tryz.func182.trans (congrArg some (by kernel_rfl))
 f26:=Tryz.func183.trans (congrArg some (by kernel_rfl))
 f27:=Tryz.func184.trans (congrArg some (by kernel_rfl))
 f28:=Tryz.func204.trans (congrArg some (by kernel_rfl))
 f29:=Tryz.func219.trans (congrArg some (by kernel_rfl))
 f30:=Tryz.func187.trans (congrArg some (by kernel_rfl))
 f31:=Tryz.func188.trans (congrArg some (by kernel_rfl))
 f32:=Tryz.func189.trans (congrArg some (by kernel_rfl))
 f33:=Tryz.func190.trans (congrArg some (by kernel_rfl))
 f34:=Tryz.func206.trans (congrArg some (by kernel_rfl))
 f35:=Tryz.func142.trans (congrArg some (by kernel_rfl))
 f36:=Tryz.func207.trans (congrArg some (by kernel_rfl))
 f37:=Tryz.func208.trans (congrArg some (by kernel_rfl))
 f38:=Tryz.func209.trans (congrArg some (by kernel_rfl))
 f39:=Tryz.func220.trans (congrArg some (by kernel_rfl))
 f40:=Tryz.func221.trans (congrArg some (by kernel_rfl))
 t0:=Tryz.underlying0
 a0:=Tryz.isAgg0
 z0:=Tryz.sizeOf0
 v0:=Tryz.zeroValue0
 i0:=by kernel_rfl
 t2:=Tryz.underlying2
 a2:=Tryz.isAgg2
 z2:=Tryz.sizeOf2
 v2:=Tryz.zeroValue2
 i2:=by kernel_rfl
 t3:=Tryz.underlying3
 a3:=Tryz.isAgg3
 z3:=Tryz.sizeOf3
 v3:=Tryz.zeroValue3
 i3:=by kernel_rfl
 t4:=Tryz.underlying4
 a4:=Tryz.isAgg4
 z4:=Tryz.sizeOf4
 v4:=Tryz.zeroValue4
 i4:=by kernel_rfl
 t5:=Tryz.underlying5
 a5:=Tryz.isAgg5
 z5:=Tryz.sizeOf5
 v5:=Tryz.zeroValue5
 i5:=by kernel_rfl
 t9:=Tryz.underlying9
 a9:=Tryz.isAgg9
 z9:=Tryz.sizeOf9
 v9:=Tryz.zeroValue9
 i9:=by kernel_rfl
 t20:=Tryz.underlying20
 a20:=Tryz.isAgg20
 z20:=Tryz.sizeOf20
 v20:=Tryz.zeroValue20
 i20:=by kernel_rfl
 t21:=Tryz.underlying21
 a21:=Tryz.isAgg21
 z21:=Tryz.sizeOf21
 v21:=Tryz.zeroValue21
 i21:=by kernel_rfl
 t22:=Tryz.underlying122
 a22:=Tryz.isAgg122
 z22:=Tryz.sizeOf122
 v22:=Tryz.zeroValue122
 i22:=by kernel_rfl
 t24:=Tryz.underlying89
 a24:=Tryz.isAgg89
 z24:=Tryz.sizeOf89
 v24:=Tryz.zeroValue89
 i24:=by kernel_rfl
 t25:=Tryz.underlying190
 a25:=Tryz.isAgg190
 z25:=Tryz.sizeOf190
 v25:=Tryz.zeroValue190
 i25:=by kernel_rfl
 t34:=Tryz.underlying176
 a34:=Tryz.isAgg176
 z34:=Tryz.sizeOf176
 v34:=Tryz.zeroValue176
 i34:=by kernel_rfl
 c34:=by kernel_rfl
 t36:=Tryz.underlying118
 a36:=Tryz.isAgg118
 z36:=Tryz.sizeOf118
 v36:=Tryz.zeroValue118
 i36:=by kernel_rfl
 t37:=Tryz.underlying136
 a37:=Tryz.isAgg136
 z37:=Tryz.sizeOf136
 v37:=Tryz.zeroValue136
 i37:=by kernel_rfl
 t39:=Tryz.underlying179
 a39:=Tryz.isAgg179
 z39:=Tryz.sizeOf179
 v39:=Tryz.zeroValue179
 i39:=by kernel_rfl
 t44:=Tryz.underlying205
 a44:=Tryz.isAgg205
 z44:=Tryz.sizeOf205
 v44:=Tryz.zeroValue205
 i44:=by kernel_rfl
 t47:=Tryz.underlying185
 a47:=Tryz.isAgg185
 z47:=Tryz.sizeOf185
 v47:=Tryz.zeroValue185
 i47:=by kernel_rfl
 t48:=Tryz.underlying227
 a48:=Tryz.isAgg227
 z48:=Tryz.sizeOf227
 v48:=Tryz.zeroValue227
 i48:=by kernel_rfl
 t50:=Tryz.underlying229
 a50:=Tryz.isAgg229
 z50:=Tryz.sizeOf229
 v50:=Tryz.zeroValue229
 i50:=by kernel_rfl
 t52:=Tryz.underlying210
 a52:=Tryz.isAgg210
 z52:=Tryz.sizeOf210
 v52:=Tryz.zeroValue210
 i52:=by kernel_rfl
 t55:=Tryz.underlying212
 a55:=Tryz.isAgg212
 z55:=Tryz.sizeOf212
 v55:=Tryz.zeroValue212
 i55:=by kernel_rfl
 t59:=Tryz.underlying232
 a59:=Tryz.isAgg232
 z59:=Tryz.sizeOf232
 v59:=Tryz.zeroValue232
 i59:=by kernel_rfl
 t60:=Tryz.underlying161
 a60:=Tryz.isAgg161
 z60:=Tryz.sizeOf161
 v60:=Tryz.zeroValue161
 i60:=by kernel_rfl
 t61:=Tryz.underlying233
 a61:=Tryz.isAgg233
 z61:=Tryz.sizeOf233
 t65:=Tryz.underlying243
 a65:=Tryz.isAgg243
 z65:=Tryz.sizeOf243
 v65:=Tryz.zeroValue243
 i65:=by kernel_rfl
 t66:=Tryz.underlying244
 a66:=Tryz.isAgg244
 z66:=Tryz.sizeOf244
 v66:=Tryz.zeroValue244
 i66:=by kernel_rfl
 t67:=Tryz.underlying94
 a67:=Tryz.isAgg94
 z67:=Tryz.sizeOf94
 v67:=Tryz.zeroValue94
 i67:=by kernel_rfl
 g0:=by kernel_rfl
 m0:=by kernel_rfl
 g1:=by kernel_rfl
 m1:=by kernel_rfl
 g2:=by kernel_rfl
 m2:=by kernel_rfl
 g3:=by kernel_rfl
 m3:=by kernel_rfl
 g4:=by kernel_rfl
 m4:=by kernel_rfl }
theorem Tryz.strconv_ParseUint (s:ByteArray)(hmax:s.size≤9223372036854775806)(u:Nat)(h:Lib.parseUintB 64 s.data.toList=.ok u)(w:World):
 Calls Tryz.prog 171 #[.string s,.int .i64 10,.int .i64 64] w fun e w'=>e=.returned (.tuple #[.int .u64 u,.nilIface])∧(w'=w∨w'=Lib.bytesWorld w 5 s):=Any.strconv_ParseUint_10_at64_ok Tryz.laysPu14 s hmax u h w
def Tryz.lays169_ren:Go.Shelf.Ren:=⟨fun | 169=>121 | n=>n,fun | 70=>135 | 9=>9 | 0=>0 | 72=>138 | 37=>136 | 127=>185 | 3=>3 | 5=>5 | n=>n,fun | n=>n⟩
theorem Tryz.lays169:Go.Proofs.Lays.n169 Tryz.prog Tryz.lays169_ren:={
 mixed:=by kernel_rfl
 f169:=Tryz.func121.trans (congrArg some (by kernel_rfl))
 t0:=Tryz.underlying0
 a0:=Tryz.isAgg0
 z0:=Tryz.sizeOf0
 v0:=Tryz.zeroValue0
 t3:=Tryz.underlying3
 a3:=Tryz.isAgg3
 z3:=Tryz.sizeOf3
 v3:=Tryz.zeroValue3
 t9:=Tryz.underlying9
 a9:=Tryz.isAgg9
 z9:=Tryz.sizeOf9
 v9:=Tryz.zeroValue9
 t37:=Tryz.underlying136
 a37:=Tryz.isAgg136
 z37:=Tryz.sizeOf136
 v37:=Tryz.zeroValue136
 t70:=Tryz.underlying135
 a70:=Tryz.isAgg135
 z70:=Tryz.sizeOf135
 v70:=Tryz.zeroValue135
 t72:=Tryz.underlying138
 a72:=Tryz.isAgg138
 z72:=Tryz.sizeOf138
 v72:=Tryz.zeroValue138
 t127:=Tryz.underlying185
 a127:=Tryz.isAgg185
 z127:=Tryz.sizeOf185
 v127:=Tryz.zeroValue185 }
theorem Tryz.builder_extra9:Builder.Extra Tryz.prog Tryz.lays169_ren:={
 sizeBuilder:=by kernel_rfl
 liesBuilder:=by kernel_rfl
 t5:=Tryz.underlying5
 a5:=Tryz.isAgg5
 z5:=Tryz.sizeOf5
 v5:=Tryz.zeroValue5
 infoByte:=by kernel_rfl
 cellsByte:=by kernel_rfl
 sizeByte:=by kernel_rfl
 neB5:=by decide }
open Go.RowKit in
theorem Tryz.builder_String (B b:Nat)(l:List UInt8)(w:World)(h:Lib.IsBuilderF 138 5 B b (Lib.byteCells l) w)(hBw:B≤w.heap.size):
 Calls Tryz.prog 121 #[.pointer (some ⟨b,0,none⟩)] w fun e w'=>e=.returned (.string ⟨l.toArray⟩)∧(Lib.IsBuilderF 138 5 B b (Lib.byteCells l) w'∧Below B w w'∧Lib.OthersKept 5 (some b) w w'):=Any.Builder_String_any_k Tryz.lays169 Tryz.builder_extra9 B b l w h hBw
def Tryz.lays103_ren:Go.Shelf.Ren:=⟨fun | 103=>169 | 210=>193 | 206=>214 | n=>n,fun | 9=>9 | 4=>4 | 24=>187 | 3=>3 | n=>n,fun | n=>n⟩
theorem Tryz.lays103:Go.Proofs.Lays.n103 Tryz.prog Tryz.lays103_ren:={
 mixed:=by kernel_rfl
 f103:=Tryz.func169.trans (congrArg some (by kernel_rfl))
 f206:=Tryz.func214.trans (congrArg some (by kernel_rfl))
 f210:=Tryz.func193.trans (congrArg some (by kernel_rfl))
 t3:=Tryz.underlying3
 a3:=Tryz.isAgg3
 z3:=Tryz.sizeOf3
 v3:=Tryz.zeroValue3
 t4:=Tryz.underlying4
 a4:=Tryz.isAgg4
 z4:=Tryz.sizeOf4
 v4:=Tryz.zeroValue4
 t9:=Tryz.underlying9
 a9:=Tryz.isAgg9
 z9:=Tryz.sizeOf9
 v9:=Tryz.zeroValue9
 t24:=Tryz.underlying187
 a24:=Tryz.isAgg187
 z24:=Tryz.sizeOf187
 v24:=Tryz.zeroValue187 }
theorem Tryz.strings_CutPrefix (s p:ByteArray)(w:World):
 Calls Tryz.prog 169 #[.string s,.string p] w fun e w'=>e=.returned (.tuple #[.string ⟨(Lib.trimPrefix s.data.toList p.data.toList).toArray⟩,.bool (Lib.hasPrefix s.data.toList p.data.toList)])∧w'=w:=Any.strings_CutPrefix Tryz.lays103 s p w
def Tryz.lays283_ren:Go.Shelf.Ren:=⟨fun | 283=>187 | n=>n,fun | 3=>3 | 9=>9 | 4=>4 | n=>n,fun | n=>n⟩
theorem Tryz.lays283:Go.Proofs.Lays.n283 Tryz.prog Tryz.lays283_ren:={
 mixed:=by kernel_rfl
 f283:=Tryz.func187.trans (congrArg some (by kernel_rfl))
 t3:=Tryz.underlying3
 a3:=Tryz.isAgg3
 z3:=Tryz.sizeOf3
 v3:=Tryz.zeroValue3
 t4:=Tryz.underlying4
 a4:=Tryz.isAgg4
 z4:=Tryz.sizeOf4
 v4:=Tryz.zeroValue4
 t9:=Tryz.underlying9
 a9:=Tryz.isAgg9
 z9:=Tryz.sizeOf9
 v9:=Tryz.zeroValue9 }
theorem Tryz.strconv_small (i:Nat)(h:i<100)(w:World):
 Calls Tryz.prog 187 #[.int .i64 i] w fun e w'=>e=.returned (.string ⟨(Lib.decDigits i).toArray⟩)∧w'=w:=Any.internal_strconv_small Tryz.lays283 i h w
def Tryz.laysM284_ren:Go.Shelf.Ren:=⟨fun | 284=>188 | 129=>142 | 317=>206 | 318=>207 | n=>n,fun | 53=>122 | 3=>3 | 212=>232 | 0=>0 | 4=>4 | 46=>118 | 5=>5 | 9=>9 | n=>n,fun | 17=>2 | n=>n⟩
theorem Tryz.laysM284:Go.Proofs.LaysM.n284 Tryz.prog Tryz.laysM284_ren:={
 mixed:=by kernel_rfl
 f129:=Tryz.func142.trans (congrArg some (by kernel_rfl))
 f284:=Tryz.func188.trans (congrArg some (by kernel_rfl))
 f317:=Tryz.func206.trans (congrArg some (by kernel_rfl))
 f318:=Tryz.func207.trans (congrArg some (by kernel_rfl))
 t0:=Tryz.underlying0
 a0:=Tryz.isAgg0
 z0:=Tryz.sizeOf0
 v0:=Tryz.zeroValue0
 t3:=Tryz.underlying3
 a3:=Tryz.isAgg3
 z3:=Tryz.sizeOf3
 v3:=Tryz.zeroValue3
 t4:=Tryz.underlying4
 a4:=Tryz.isAgg4
 z4:=Tryz.sizeOf4
 v4:=Tryz.zeroValue4
 t5:=Tryz.underlying5
 a5:=Tryz.isAgg5
 z5:=Tryz.sizeOf5
 v5:=Tryz.zeroValue5
 t9:=Tryz.underlying9
 a9:=Tryz.isAgg9
 z9:=Tryz.sizeOf9
 v9:=Tryz.zeroValue9
 t46:=Tryz.underlying118
 a46:=Tryz.isAgg118
 z46:=Tryz.sizeOf118
 v46:=Tryz.zeroValue118
 t53:=Tryz.underlying122
 a53:=Tryz.isAgg122
 z53:=Tryz.sizeOf122
 v53:=Tryz.zeroValue122
 t212:=Tryz.underlying232
 a212:=Tryz.isAgg232
 z212:=Tryz.sizeOf232
 v212:=Tryz.zeroValue232
 g17:=by kernel_rfl
 i0:=by kernel_rfl
 i3:=by kernel_rfl
 i4:=by kernel_rfl
 i5:=by kernel_rfl
 i9:=by kernel_rfl
 i46:=by kernel_rfl
 i53:=by kernel_rfl
 i212:=by kernel_rfl
 m17:=by kernel_rfl }
theorem Tryz.strconv_numDigits (u : Nat) (h1 : 1 ≤ u) (h2 : u < 18446744073709551616) (w : World) (htab : Lib.TabIs Tryz.prog w "internal/strconv.uint64pow10" .u64 Lib.pow10Tab) :
 Calls Tryz.prog 188 #[.int .u64 u] w fun e w'=>e=.returned (.int .i64 (Lib.nDigits u))∧w'=w:=Any.internal_strconv_numDigits Tryz.laysM284 u h1 h2 w htab
def Tryz.lays285_ren:Go.Shelf.Ren:=⟨fun | 285=>189 | n=>n,fun | 37=>136 | 53=>122 | 3=>3 | 4=>4 | 51=>161 | 9=>9 | 5=>5 | 0=>0 | n=>n,fun | n=>n⟩
theorem Tryz.lays285:Go.Proofs.Lays.n285 Tryz.prog Tryz.lays285_ren:={
 mixed:=by kernel_rfl
 f285:=Tryz.func189.trans (congrArg some (by kernel_rfl))
 t0:=Tryz.underlying0
 a0:=Tryz.isAgg0
 z0:=Tryz.sizeOf0
 v0:=Tryz.zeroValue0
 t3:=Tryz.underlying3
 a3:=Tryz.isAgg3
 z3:=Tryz.sizeOf3
 v3:=Tryz.zeroValue3
 t4:=Tryz.underlying4
 a4:=Tryz.isAgg4
 z4:=Tryz.sizeOf4
 v4:=Tryz.zeroValue4
 t5:=Tryz.underlying5
 a5:=Tryz.isAgg5
 z5:=Tryz.sizeOf5
 v5:=Tryz.zeroValue5
 t9:=Tryz.underlying9
 a9:=Tryz.isAgg9
 z9:=Tryz.sizeOf9
 v9:=Tryz.zeroValue9
 t37:=Tryz.underlying136
 a37:=Tryz.isAgg136
 z37:=Tryz.sizeOf136
 v37:=Tryz.zeroValue136
 t51:=Tryz.underlying161
 a51:=Tryz.isAgg161
 z51:=Tryz.sizeOf161
 v51:=Tryz.zeroValue161
 t53:=Tryz.underlying122
 a53:=Tryz.isAgg122
 z53:=Tryz.sizeOf122
 v53:=Tryz.zeroValue122 }
open Go.RowKit Go.Sort in
theorem Tryz.strconv_formatBase10 (blk off cap:Nat)(u:Nat)(d:Array UInt8)(w:World)(hH:Holds (fun (b:UInt8)=>Value.int .u8 (b.toNat:Int)) w blk off d)(hu:u<10 ^ d.size)(hu64:u<18446744073709551616)(hsz:d.size<4611686018427387904):
 Calls Tryz.prog 189 #[.slice (some ⟨blk,off,none⟩) d.size cap,.int .u64 u] w fun e w'=>
  e=.returned (.tuple #[])∧∃ (n v':Nat) (dk:Array UInt8),w'=(putRow (fun (b:UInt8)=>Value.int .u8 (b.toNat:Int)) w blk off dk).drewN n∧Lib.FmtInv d.size u 0 v' dk:=Any.internal_strconv_formatBase10 Tryz.lays285 blk off cap u d w hH hu hu64 hsz
def Tryz.lays166_ren:Go.Shelf.Ren:=⟨fun | 166=>118 | 240=>163 | 276=>186 | n=>n,fun | 0=>0 | 3=>3 | 4=>4 | 5=>5 | 9=>9 | 20=>20 | 37=>136 | 70=>135 | 72=>138 | 75=>89 | 80=>94 | 164=>208 | n=>n,fun | n=>n⟩
theorem Tryz.lays166:Go.Proofs.Lays.n166 Tryz.prog Tryz.lays166_ren:={
 mixed:=by kernel_rfl
 f166:=Tryz.func118.trans (congrArg some (by kernel_rfl))
 f240:=Tryz.func163.trans (congrArg some (by kernel_rfl))
 f276:=Tryz.func186.trans (congrArg some (by kernel_rfl))
 t0:=Tryz.underlying0
 a0:=Tryz.isAgg0
 z0:=Tryz.sizeOf0
 v0:=Tryz.zeroValue0
 t3:=Tryz.underlying3
 a3:=Tryz.isAgg3
 z3:=Tryz.sizeOf3
 v3:=Tryz.zeroValue3
 t4:=Tryz.underlying4
 a4:=Tryz.isAgg4
 z4:=Tryz.sizeOf4
 v4:=Tryz.zeroValue4
 t9:=Tryz.underlying9
 a9:=Tryz.isAgg9
 z9:=Tryz.sizeOf9
 v9:=Tryz.zeroValue9
 t20:=Tryz.underlying20
 a20:=Tryz.isAgg20
 z20:=Tryz.sizeOf20
 v20:=Tryz.zeroValue20
 t37:=Tryz.underlying136
 a37:=Tryz.isAgg136
 z37:=Tryz.sizeOf136
 v37:=Tryz.zeroValue136
 t70:=Tryz.underlying135
 a70:=Tryz.isAgg135
 z70:=Tryz.sizeOf135
 v70:=Tryz.zeroValue135
 t72:=Tryz.underlying138
 a72:=Tryz.isAgg138
 z72:=Tryz.sizeOf138
 v72:=Tryz.zeroValue138
 t75:=Tryz.underlying89
 a75:=Tryz.isAgg89
 z75:=Tryz.sizeOf89
 v75:=Tryz.zeroValue89
 t164:=Tryz.underlying208
 a164:=Tryz.isAgg208
 z164:=Tryz.sizeOf208
 v164:=Tryz.zeroValue208 }
theorem Tryz.builder_extra:Builder.Extra Tryz.prog Tryz.lays166_ren:={
 sizeBuilder:=by kernel_rfl
 liesBuilder:=by kernel_rfl
 t5:=Tryz.underlying5
 a5:=Tryz.isAgg5
 z5:=Tryz.sizeOf5
 v5:=Tryz.zeroValue5
 infoByte:=by kernel_rfl
 cellsByte:=by kernel_rfl
 sizeByte:=by kernel_rfl
 neB5:=by decide }
open Go.RowKit in
theorem Tryz.builder_WriteString (B b:Nat)(bs:List Value)(s:ByteArray)(w:World)(h:Lib.IsBuilderF 138 5 B b bs w)(hlen:bs.length+s.size≤140737488355328)(hBw:B≤w.heap.size):
 Calls Tryz.prog 118 #[.pointer (some ⟨b,0,none⟩),.string s] w fun e w'=>e=.returned (.tuple #[.int .i64 s.size,.nilIface])∧(Lib.BuilderAtF 138 5 B b (.pointer (some ⟨b,0,none⟩)) (bs++Lib.strCells s) w'∧Below B w w'∧Lib.OthersKept 5 (some b) w w'):=Any.Builder_WriteString_k Tryz.lays166 Tryz.builder_extra B b bs s w h hlen hBw
#print axioms Tryz.builder_WriteString
end Go.Proofs
namespace Go.Proofs.YtlimaehdmcnjaaaGreatDoor
open Go.Lib (decDigits nDigits decDigits_length nDigits_small nDigits_big digitVal decFrom decNat)
def e0X (b:UInt8):Bool:=decide (48≤b.toNat∧b.toNat≤57)
theorem a0E {b:UInt8}:e0X b=true↔48≤b.toNat∧b.toNat≤57:=by simp[e0X]
def dv (l:List UInt8):Nat:=l.foldl (fun a b=>10*a+(b.toNat-48)) 0
theorem n0H (l:List UInt8)(a:Nat):l.foldl (fun a b=>10*a+(b.toNat-48)) a=10 ^ l.length*a+dv l:=by
 induction l generalizing a with
 | nil=>simp[dv]
 | cons b l ih=>
  unfold dv;rw[List.foldl_cons,List.foldl_cons,ih,ih (10*0+(b.toNat-48)),List.length_cons,Nat.pow_succ,Nat.mul_add,Nat.mul_assoc,Nat.mul_zero,Nat.zero_add];omega
@[simp] theorem dv_nil:dv []=0:=rfl
theorem b0s (l k:List UInt8):dv (l++k)=10 ^ k.length*dv l+dv k:=by
 unfold dv;rw[List.foldl_append,n0H]
 rfl
theorem g0f (l:List UInt8)(b:UInt8):dv (l ++ [b])=10*dv l+(b.toNat-48):=by
 rw[b0s];simp[dv]
def allDig (l:List UInt8):Prop:=∀ b∈l,e0X b=true
theorem allDig.append {l k:List UInt8}(h:allDig l)(h':allDig k):allDig (l++k):=fun b hb=>(List.mem_append.1 hb).elim (h b) (h' b)
theorem allDig.left {l k:List UInt8}(h:allDig (l++k)):allDig l:=fun b hb=>h b (List.mem_append_left _ hb)
theorem allDig.take {l:List UInt8}(h:allDig l)(i:Nat):allDig (l.take i):=fun b hb=>h b (List.mem_of_mem_take hb)
theorem allDig.drop {l:List UInt8}(h:allDig l)(i:Nat):allDig (l.drop i):=fun b hb=>h b (List.mem_of_mem_drop hb)
theorem a0S {d:Nat}(h:d<10):(UInt8.ofNat (48+d)).toNat=48+d:=by
 rw[UInt8.toNat_ofNat'];omega
theorem e0t {b:UInt8}(h:e0X b=true):UInt8.ofNat (48+(b.toNat-48))=b:=by
 have:=a0E.1 h;rw[show 48+(b.toNat-48)=b.toNat by omega,UInt8.ofNat_toNat]
theorem a0u {u:Nat}(h:u<10):decDigits u = [UInt8.ofNat (48+u)]:=by rw[decDigits,dif_pos h]
theorem a0K {u:Nat}(h:¬ u<10):decDigits u=decDigits (u / 10) ++ [UInt8.ofNat (48+u%10)]:=by rw[decDigits,dif_neg h]
theorem b0g (n:Nat):allDig (decDigits n):=by
 induction n using Nat.strongRecOn with
 | _ n ih=>
  by_cases h:n<10
  ·rw[a0u h];intro b hb;rw[List.mem_singleton.1 hb,a0E,a0S h];omega
  ·rw[a0K h];refine (ih _ (by omega)).append fun b hb=>?_
   rw[List.mem_singleton.1 hb,a0E,a0S (by omega)];omega
theorem b0G (n:Nat):dv (decDigits n)=n:=by
 induction n using Nat.strongRecOn with
 | _ n ih=>
  by_cases h:n<10
  ·rw[a0u h];simp only[dv,List.foldl_cons,List.foldl_nil,a0S h];omega
  ·rw[a0K h,g0f,ih _ (by omega),a0S (by omega)];omega
theorem c0B (n:Nat):decDigits n ≠ []:=by
 by_cases h:n<10
 ·rw[a0u h];simp
 ·rw[a0K h];simp
theorem e0Z (n:Nat):0<(decDigits n).length:=by
 have:=c0B n;cases h:decDigits n with
 | nil=>exact absurd h this
 | cons x l=>simp
theorem c0A:decDigits 0 = [48]:=by rw[a0u (by omega)];rfl
theorem m0f:decDigits 1 = [49]:=by rw[a0u (by omega)];rfl
theorem n0T {n:Nat}(h:0<n):∀ b,(decDigits n).head? = some b→b≠48:=by
 induction n using Nat.strongRecOn with
 | _ n ih=>
  intro b hb;by_cases hn:n<10
  ·rw[a0u hn,List.head?_cons]at hb;injection hb with hb
   rw[← hb];intro e;have:=congrArg UInt8.toNat e;rw[a0S hn]at this;simp at this;omega
  ·rw[a0K hn]at hb;refine ih (n / 10) (by omega) (by omega) b ?_;cases hd:decDigits (n / 10) with
   | nil=>exact absurd hd (c0B _)
   | cons x l=>rw[hd]at hb;simpa using hb
def b0S (l:List UInt8):Prop:=l ≠ []∧(l = [48]∨l.head? ≠ some 48)∧allDig l
theorem f0o (n:Nat):b0S (decDigits n):=by
 refine⟨c0B n,?_,b0g n⟩;rcases Nat.eq_zero_or_pos n with rfl | h
 ·exact .inl c0A
 ·exact .inr fun e=>n0T h 48 e rfl
theorem c0U {l:List UInt8}(h:b0S l):l=decDigits (dv l):=by
 suffices H:∀ (k:Nat) (l:List UInt8),l.length=k→b0S l→l=decDigits (dv l) from H _ l rfl h
 intro k
 induction k with
 | zero=>intro l hl h;exact absurd (List.eq_nil_of_length_eq_zero hl) h.1
 | succ k ih=>
  intro l hl h;obtain⟨t,b,rfl⟩:∃ t b,l=t ++ [b]:=⟨l.dropLast,l.getLast h.1,(List.dropLast_concat_getLast h.1).symm⟩;have hb:e0X b=true:=h.2.2 b (by simp);have hb2:=a0E.1 hb;rw[g0f];cases t with
  | nil=>
   rw[a0u (by simp;omega)];simp[e0t hb]
  | cons x t=>
   have hx:x≠48:=fun e=>by
    subst e;rcases h.2.1 with h2 | h2
    ·simp at h2
    ·exact h2 rfl
   have hf:b0S (x::t):=⟨by simp,.inr (by simpa using hx),h.2.2.left⟩;have ht:=ih (x::t) (by simp at hl;simp;omega) hf;have hp:0<dv (x::t):=Nat.pos_of_ne_zero fun e=>by
    rw[e,c0A]at ht;injection ht with h1 _
    exact hx h1
   generalize hm:dv (x::t)=m at *
   rw[a0K (by omega),show (10*m+(b.toNat-48)) / 10=m by omega,show (10*m+(b.toNat-48))%10=b.toNat-48 by omega,e0t hb,← ht]
theorem j0I {l:List UInt8}:b0S l ↔ ∃ n,l=decDigits n:=⟨fun h=>⟨_,c0U h⟩,fun ⟨n,e⟩=>e ▸ f0o n⟩
theorem n0S {s:List UInt8}{e:Nat}(he:e≤s.length)(h9:9≤e):dv (s.take e)=1000000000*dv (s.take (e-9))+dv ((s.drop (e-9)).take 9):=by
 have h1:s.take e=s.take (e-9)++(s.drop (e-9)).take 9:=by
  conv=>lhs;rw[show e=(e-9)+9 by omega,List.take_add]
 rw[h1,b0s,List.length_take_of_le (by simp;omega)]
theorem p0W {l:List UInt8}(h:allDig l):dv l<10 ^ l.length:=by
 suffices H:∀ (k:Nat) (l:List UInt8),l.length=k→allDig l→dv l<10 ^ k from H _ l rfl h
 intro k
 induction k with
 | zero=>intro l hl _;rw[List.eq_nil_of_length_eq_zero hl];simp
 | succ k ih=>
  intro l hl h;have hne:l ≠ []:=fun e=>by subst e;simp at hl
  obtain⟨t,b,rfl⟩:∃ t b,l=t ++ [b]:=⟨l.dropLast,l.getLast hne,(List.dropLast_concat_getLast hne).symm⟩;have hb:=a0E.1 (h b (by simp));have:=ih t (by simp at hl;omega) h.left;rw[g0f,Nat.pow_succ];omega
def pad (k n:Nat):List UInt8:=List.replicate (k-nDigits n) 48++decDigits n
theorem a0q {n k:Nat}(hk:0<k)(h:n<10 ^ k):nDigits n≤k:=by
 induction k generalizing n with
 | zero=>omega
 | succ k ih=>
  by_cases hn:n<10
  ·rw[nDigits_small hn];omega
  ·rw[nDigits_big hn];have:n / 10<10 ^ k:=by rw[Nat.pow_succ]at h;omega
   have hk':0<k:=Nat.pos_of_ne_zero fun e=>by subst e;simp at this;omega
   have:=ih hk' this;omega
theorem n0m {k n:Nat}(hk:0<k):pad (k+1) n=pad k (n / 10) ++ [UInt8.ofNat (48+n%10)]:=by
 unfold pad;by_cases hn:n<10
 ·rw[nDigits_small hn,a0u hn,Nat.div_eq_of_lt hn,Nat.mod_eq_of_lt hn,nDigits_small (by omega),c0A];have:(48:UInt8)=48:=rfl;rw[show k+1-1=(k-1)+1 by omega,List.replicate_succ']
 ·rw[nDigits_big hn,a0K hn,Nat.add_sub_add_right,List.append_assoc]
theorem p0X (k:Nat):∀ {q r:Nat},0<q→r<10 ^ (k+1)→decDigits (10 ^ (k+1)*q+r)=decDigits q++pad (k+1) r:=by
 induction k with
 | zero=>
  intro q r hq hr;have hr':r<10:=by simpa using hr
  rw[show 10 ^ (0+1)*q+r=10*q+r by simp,a0K (by omega),show (10*q+r) / 10=q by omega,show (10*q+r)%10=r by omega];unfold pad;rw[nDigits_small hr',a0u hr']
  rfl
 | succ k ih=>
  intro q r hq hr;have e:10 ^ (k+1+1)*q=10*(10 ^ (k+1)*q):=by rw[Nat.pow_succ 10 (k+1),Nat.mul_comm _ 10,Nat.mul_assoc]
  have hr':r / 10<10 ^ (k+1):=by rw[Nat.pow_succ]at hr;omega
  have hp:0<10 ^ (k+1)*q:=Nat.mul_pos (Nat.pow_pos (by omega)) hq;have hp10:10≤10*(10 ^ (k+1)*q):=by omega
  rw[e,a0K (by omega),show (10*(10 ^ (k+1)*q)+r) / 10=10 ^ (k+1)*q+r / 10 by omega,show (10*(10 ^ (k+1)*q)+r)%10=r%10 by omega,ih hq hr',List.append_assoc,← n0m (by omega)]
theorem i0Z {q r:Nat}(hq:0<q)(hr:r<1000000000):decDigits (r+1000000000*q)=decDigits q++pad 9 r:=by
 rw[Nat.add_comm];exact p0X 8 hq hr
theorem j0z {r:Nat}(hr:r<1000000000):(pad 9 r).length=9:=by
 have:=a0q (k:=9) (by omega) hr;rw[pad,List.length_append,List.length_replicate,decDigits_length];omega
theorem g0K {q r:Nat}(hq:0<q)(hr:r<1000000000):nDigits (r+1000000000*q)=nDigits q+9:=by
 rw[← decDigits_length,i0Z hq hr,List.length_append,decDigits_length,j0z hr]
theorem m0g {l:List Nat}(h:Sm l){i x:Nat}(hx:l[i]?=some x)(hp:0<val (l.drop (i+1))):decDigits (val (l.drop i))=decDigits (val (l.drop (i+1)))++pad 9 x:=by
 rw[b0v hx,i0Z hp (h.get hx)]
theorem f0Q {l:List Nat}(h:Sm l)(hne:l ≠ [])(hl:∀ x,l.getLast? = some x→x≠0):nDigits (val l)=9*(l.length-1)+nDigits (l.getLast hne):=by
 induction l with
 | nil=>exact absurd rfl hne
 | cons x l ih=>
  cases l with
  | nil=>simp[a0F]
  | cons y l=>
   have hl':∀ x,(y::l).getLast? = some x→x≠0:=fun z hz=>hl z (by rw[List.getLast?_cons_cons];exact hz)
   have hv:0<val (y::l):=Nat.pos_of_ne_zero fun e=>by
    have:=f0T h.tail hl';rw[e]at this;simp at this
   have e:(x::y::l).getLast hne=(y::l).getLast (by simp):=List.getLast_cons (by simp);rw[a0F,g0K hv h.head,ih h.tail (by simp) hl',e];simp only[List.length_cons];omega
theorem j0T {l:List UInt8}(h:allDig l)(a:Nat):decFrom a l=some (10 ^ l.length*a+dv l):=by
 induction l generalizing a with
 | nil=>simp[decFrom]
 | cons b l ih=>
  have hb:=a0E.1 (h b (by simp));have hd:digitVal b=some (b.toNat-48):=by rw[digitVal,if_pos hb]
  have hrest:allDig l:=fun x hx=>h x (List.mem_cons_of_mem _ hx)
  simp only[decFrom,hd];rw[ih hrest,List.length_cons,Nat.pow_succ];have:dv (b::l)=10 ^ l.length*(b.toNat-48)+dv l:=by
   have:=b0s [b] l;rw[show dv [b]=b.toNat-48 by simp[dv]]at this;exact this
  rw[this,Nat.mul_add,Nat.mul_assoc,Nat.mul_comm a 10];simp only[Option.some.injEq];omega
theorem l0X {s:List UInt8}{e:Nat}(he:e≤s.length):dv (s.take e)=1000000000*dv (s.take (e-9))+dv ((s.drop (e-9)).take (e-(e-9))):=by
 by_cases h9:9≤e
 ·rw[n0S he h9,show e-(e-9)=9 by omega]
 ·rw[show e-9=0 by omega];simp
structure ReadI (l:List UInt8)(e:Nat)(s:List Nat):Prop where
 le:e≤l.length
 sm:Sm s
 eq:val s+1000000000 ^ s.length*dv (l.take e)=dv l
theorem ReadI.start (l:List UInt8):ReadI l l.length []:=⟨Nat.le_refl _,Sm.nil,by simp⟩
theorem ReadI.next {l:List UInt8}{e:Nat}{s:List Nat}(h:ReadI l e s)(hd:allDig l):ReadI l (e-9) (s ++ [dv ((l.drop (e-9)).take (e-(e-9)))]):=by
 have hlt:dv ((l.drop (e-9)).take (e-(e-9)))<1000000000:=by
  have h1:=p0W ((hd.drop (e-9)).take (e-(e-9)));have h2:10 ^ ((l.drop (e-9)).take (e-(e-9))).length≤10 ^ 9:=Nat.pow_le_pow_right (by omega) (by simp;omega);omega
 refine⟨by have:=h.le;omega,h.sm.append (Sm.cons hlt Sm.nil),?_⟩;have he:=h.eq;have hc:=l0X h.le;rw[c0s,List.length_append,List.length_singleton,Nat.pow_succ];rw[hc,Nat.mul_add]at he;rw[Nat.mul_assoc];omega
theorem ReadI.done {l:List UInt8}{s:List Nat}(h:ReadI l 0 s):val s=dv l:=by
 have:=h.eq;simpa using this
theorem d0N {l:List UInt8}{i:Nat}{b:UInt8}(h:l[i]?=some b):dv (l.take (i+1))=10*dv (l.take i)+(b.toNat-48):=by
 have hi:i<l.length:=(List.getElem?_eq_some_iff.1 h).1;have hx:l[i]=b:=(List.getElem?_eq_some_iff.1 h).2;rw[List.take_succ_eq_append_getElem hi,g0f,hx]
theorem b0z {s:ByteArray}{i:Nat}(h:i<s.size):s.data.toList[i]?=some s[i]:=by
 have h':i<s.data.size:=h;rw[Array.getElem?_toList,Array.getElem?_eq_getElem h'];rfl
theorem j0a {L:List UInt8}(h:allDig L){a k:Nat}(hk:k≤9):dv ((L.drop a).take k)<1000000000:=by
 have h1:=p0W ((h.drop a).take k);have h2:10 ^ ((L.drop a).take k).length≤10 ^ 9:=Nat.pow_le_pow_right (by omega) (by simp;omega);omega
theorem j0V {L:List UInt8}{a i:Nat}{b:UInt8}(h:L[i]?=some b)(ha:a≤i):dv ((L.drop a).take (i+1-a))=10*dv ((L.drop a).take (i-a))+(b.toNat-48):=by
 rw[show i+1-a=(i-a)+1 by omega];exact d0N (by rw[List.getElem?_drop,show a+(i-a)=i by omega];exact h)
end Go.Proofs.YtlimaehdmcnjaaaGreatDoor
namespace Go.Proofs.YtlimaehdmcnjaaaGreatDoor
open Go.RowKit
open Go.Lib (decDigits nDigits)
def c0G (l:List UInt8):List Value:=l.map fun b=>Value.int .u8 (b.toNat:Int)
@[simp] theorem bytesL_length (l:List UInt8):(c0G l).length=l.length:=by simp[c0G]
theorem j0W {l:List UInt8}{i:Nat}{b:UInt8}(h:l[i]?=some b):(c0G l)[i]?=some (.int .u8 (b.toNat:Int)):=by simp[c0G,h]
def BArr (t:TypeId)(w:World)(g:Nat)(l:List UInt8):Prop:=Blk w g (c0G l).toArray t
theorem BArr.cell {t:TypeId}{w:World}{g:Nat}{l:List UInt8}(h:BArr t w g l){i:Nat}{b:UInt8}(hb:l[i]?=some b):w.cell? ⟨g,i,none⟩=some (.int .u8 (b.toNat:Int)):=by
 rw[Blk.cell h,List.getElem?_toArray];exact j0W hb
theorem BArr.free {t:TypeId}{w:World}{g:Nat}{l:List UInt8}(h:BArr t w g l)(i:Nat):w.frozen? ⟨g,i,none⟩=false:=Blk.free h i
theorem BArr.set {t:TypeId}{w:World}{g:Nat}{l:List UInt8}(h:BArr t w g l)(i:Nat)(b:UInt8):BArr t (w.setCell ⟨g,i,none⟩ (.int .u8 (b.toNat:Int))) g (l.set i b):=by
 have:=Blk.set h i (.int .u8 (b.toNat:Int));unfold BArr;rw[show c0G (l.set i b)=(c0G l).set i (.int .u8 (b.toNat:Int)) by simp[c0G,List.map_set]];simpa using this
theorem BArr.made (w:World)(t:TypeId)(n:Nat):BArr t (w.alloc (.cells (madeCells #[.int .u8 0] n) t)) w.heap.size (List.replicate n 0):=by
 rw[show madeCells #[.int .u8 0] n=(c0G (List.replicate n 0)).toArray from ?_]
 ·exact Blk.new w _ t
 ·apply Array.ext_getElem?
  intro i;unfold madeCells c0G;by_cases hi:i<n<;>simp[hi,Nat.mod_one]
structure WrI (n i:Nat)(bs:List UInt8):Prop where
 len:bs.length=9*(limbs n).length
 dig:allDig (bs.take (9*i))
 eq:dv (bs.take (9*i))=val ((limbs n).drop ((limbs n).length-i))
structure WrJ (n i x k y:Nat)(bs:List UInt8):Prop where
 len:bs.length=9*(limbs n).length
 dig:allDig (bs.take (9*i))
 eq:dv (bs.take (9*i))=val ((limbs n).drop ((limbs n).length-i))
 dig2:allDig ((bs.drop (9*i+k)).take (9-k))
 eq2:dv ((bs.drop (9*i+k)).take (9-k))=x%10 ^ (9-k)
 y:y=x / 10 ^ (9-k)
theorem WrI.start (n:Nat):WrI n 0 (List.replicate (9*(limbs n).length) 0):=
 ⟨by simp,fun b hb=>by simp at hb,by simp⟩
theorem WrI.enter {n i x:Nat}{bs:List UInt8}(h:WrI n i bs):WrJ n i x 9 x bs:=
 ⟨h.len,h.dig,h.eq,fun b hb=>by simp at hb,by simp[Nat.mod_one],by simp⟩
theorem WrJ.next {n i x k y:Nat}{bs:List UInt8}(h:WrJ n i x (k+1) y bs)(hk:k<9)(hi:i<(limbs n).length):WrJ n i x k (y / 10) (bs.set (9*i+k) (UInt8.ofNat (48+y%10))):=by
 have hlt:9*i+k<bs.length:=by rw[h.len];omega
 have e:((bs.set (9*i+k) (UInt8.ofNat (48+y%10))).drop (9*i+k)).take (9-k)=UInt8.ofNat (48+y%10)::(bs.drop (9*i+(k+1))).take (9-(k+1)):=by
  rw[List.drop_eq_getElem_cons (by simpa using hlt),List.drop_set_of_lt (by omega),show 9-k=(9-(k+1))+1 by omega,List.take_succ_cons];simp[Nat.add_assoc]
 have el:((bs.drop (9*i+(k+1))).take (9-(k+1))).length=8-k:=by
  rw[List.length_take,List.length_drop,h.len];omega
 have hp:10 ^ (9-k)=10 ^ (9-(k+1))*10:=by rw[show 9-k=(9-(k+1))+1 by omega,Nat.pow_succ]
 refine⟨by rw[List.length_set,h.len],by rw[List.take_set_of_le (by omega)];exact h.dig,by rw[List.take_set_of_le (by omega)];exact h.eq,?_,?_,?_⟩
 ·rw[e];intro b hb;rcases List.mem_cons.1 hb with rfl | hb
  ·rw[a0E,a0S (by omega)];omega
  ·exact h.dig2 b hb
 ·rw[e,show ∀ (c:UInt8) (t:List UInt8),c::t = [c]++t from fun _ _=>rfl,b0s,el,h.eq2,hp,Nat.mod_mul,← h.y];simp only[dv,List.foldl_cons,List.foldl_nil,a0S (show y%10<10 by omega)];rw[show 8-k=9-(k+1) by omega,show 10*0+(48+y%10-48)=y%10 by omega,Nat.add_comm]
 ·rw[h.y,hp,Nat.div_div_eq_div_mul]
theorem WrJ.leave {n i x y:Nat}{bs:List UInt8}(h:WrJ n i x 0 y bs)(hx:(limbs n)[(limbs n).length-1-i]?=some x)(hi:i<(limbs n).length):WrI n (i+1) bs:=by
 have e:bs.take (9*(i+1))=bs.take (9*i)++(bs.drop (9*i)).take 9:=by rw[show 9*(i+1)=9*i+9 by omega,List.take_add]
 have h2:=h.eq2;have h3:=h.dig2;rw[Nat.add_zero]at h2 h3;have hxl:=(a0j n).get hx;refine⟨h.len,by rw[e];exact h.dig.append h3,?_⟩;have hl:((bs.drop (9*i)).take 9).length=9:=by rw[List.length_take,List.length_drop,h.len];omega
 rw[e,b0s,hl,h.eq,h2,show (limbs n).length-(i+1)=(limbs n).length-1-i by omega,b0v hx,show (limbs n).length-1-i+1=(limbs n).length-i by omega];rw[Nat.mod_eq_of_lt (by omega)];omega
theorem WrI.done {n:Nat}{bs:List UInt8}(h:WrI n (limbs n).length bs):allDig bs∧dv bs=n:=by
 have h1:=h.dig;have h2:=h.eq;rw[List.take_of_length_le (by rw[h.len];exact Nat.le_refl _)]at h1 h2;rw[Nat.sub_self,List.drop_zero,a0p]at h2;exact⟨h1,h2⟩
theorem h0d {l:List UInt8}{r:Nat}(h:l[r]?=some 48):dv (l.drop (r+1))=dv (l.drop r):=by
 obtain⟨h1,h2⟩:=List.getElem?_eq_some_iff.1 h;rw[List.drop_eq_getElem_cons h1,h2,show ∀ (c:UInt8) (t:List UInt8),c::t = [c]++t from fun _ _=>rfl,b0s];simp[dv]
theorem j0l {l:List UInt8}{r n:Nat}(hd:allDig l)(hv:dv (l.drop r)=n)(hr:r<l.length)(h:r+1=l.length∨l[r]? ≠ some 48):l.drop r=decDigits n:=by
 rw[← hv];refine c0U ⟨fun e=>?_,?_,hd.drop r⟩
 ·have:=congrArg List.length e;simp at this;omega
 ·rcases h with h | h
  ·have hl:(l.drop r).length=1:=by simp;omega
   match hm:l.drop r,hl with
   | [c],_=>
    by_cases hc:c=48
    ·left;rw[hc]
    ·right;simpa using hc
  ·right
   rw[List.head?_drop];exact h
def c0c (l:List UInt8):Bool:=!l.isEmpty && (l == [48] || l.head? != some 48) && l.all e0X
theorem b0F {l:List UInt8}:c0c l=true↔b0S l:=by
 unfold c0c b0S allDig;simp[Bool.and_eq_true,and_assoc]
theorem g0W (n:Nat):c0c (decDigits n)=true:=b0F.2 (f0o n)
def c0m (l:List UInt8):Int:=if c0c l=true then (if 4000<l.length then 5 else 0) else 3
theorem e0i {l:List UInt8}(h:¬ b0S l):c0m l=3:=by rw[c0m,if_neg (fun e=>h (b0F.1 e))]
theorem l0W {l:List UInt8}(h:b0S l)(hl:4000<l.length):c0m l=5:=by rw[c0m,if_pos (b0F.2 h),if_pos hl]
theorem p0V {l:List UInt8}(h:b0S l)(hl:¬ 4000<l.length):c0m l=0:=by rw[c0m,if_pos (b0F.2 h),if_neg hl]
theorem h0a {l:List UInt8}:c0m l=0 ↔ ∃ n,l=decDigits n∧nDigits n≤4000:=by
 unfold c0m
 constructor
 ·intro h
  split at h
  ·rename_i hf
   obtain⟨n,rfl⟩:=j0I.1 (b0F.1 hf)
   split at h
   ·omega
   ·exact⟨n,rfl,by rw[← Go.Lib.decDigits_length];omega⟩
  ·omega
 ·rintro⟨n,rfl,hn⟩;rw[if_pos (g0W n),Go.Lib.decDigits_length,if_neg (by omega)]
theorem n0O {n:Nat}(h:nDigits n≤4000):c0m (decDigits n)=0:=h0a.2 ⟨n,rfl,h⟩
end Go.Proofs.YtlimaehdmcnjaaaGreatDoor
namespace Go.Proofs.YtlimaehdmcnjaaaGreatDoor
open Go.RowKit
open Go.Shelf
open Go.Sort
open Go.Lib
structure Lay (w:World):Prop where
 tab : Lib.TabIs Tryz.prog w "internal/strconv.uint64pow10" .u64 Lib.pow10Tab
 max:∃ m,w.cell? ⟨3,0,none⟩=some (.int .i64 m)
theorem Lay.call {w w':World}(h:Lay w)(hb:Below w.heap.size w w'):Lay w':=by
 refine⟨?_,?_⟩
 ·have h:=h.tab;unfold Lib.TabIs World.var? at h ⊢;cases hg : Tryz.prog.globalNamed "internal/strconv.uint64pow10" with
  | none=>simp[hg]at h
  | some g=>
   rw[hg]at h;simp only[Option.bind_some]at h ⊢;have hlt:g<w.heap.size:=by
    rcases Nat.lt_or_ge g w.heap.size with h' | h'
    ·exact h'
    ·rw[Array.getElem?_eq_none h']at h;simp at h
   rw[hb.block g hlt];exact h
 ·obtain⟨m,hm⟩:=h.max;exact⟨m,(hb.cell (World.block_lt_of_cell? w _ hm)).trans hm⟩
theorem j0X (w:World)(k:Nat)(os:Array Obj):Below w.heap.size w (grow (w.drewN k) os):=by
 refine⟨rfl,rfl,rfl,?_,fun i hi=>?_⟩
 ·simp[grow,World.drewN]
 ·simp only[grow,World.drewN];exact Array.getElem?_append_left hi
theorem n0K (w:World)(o:Obj)(dk:Array UInt8)(k:Nat):∃ os,(putRow (fun (b:UInt8)=>Value.int .u8 (b.toNat:Int)) (w.alloc o) w.heap.size 0 dk).drewN k=grow (w.drewN k) os:=by
 rw[alloc_eq_grow];obtain⟨os',_,e⟩:=putRow_grow_new (fun (b:UInt8)=>Value.int .u8 (b.toNat:Int)) w #[o] w.heap.size 0 dk (Nat.le_refl _);exact⟨os',by rw[e];rfl⟩
theorem r0o (w:World)(u:Nat)(hu64:u<18446744073709551616)(htab:Lay w):
 Calls Tryz.prog 164 #[.int .u64 u,.int .i64 10] w fun e w'=>e=.returned (.string ⟨(Lib.decDigits u).toArray⟩)∧Below w.heap.size w w':=by
 by_cases hs:u<100
 ·go_enter Tryz.func164,Tryz.ntmps164;have hw:IntKind.i64.wrap (u:Int)=(u:Int):=IntWalk.i64_in _ ⟨by omega,by omega⟩
  go_wp2_with (first
   | (go_at_call 187;refine (Tryz.strconv_small u hs _).mono ?_;rintro e w' ⟨rfl,rfl⟩)
   | fail)
  go_ret
  exact⟨rfl,Below.refl _ _⟩
 ·have hu1:1≤u:=by omega
  have hnd20:Lib.nDigits u≤20:=by have:=Lib.numDigits_eq u hu1 hu64;split at this<;>omega
  have hb3:Lib.nDigits u≤23:=by omega
  have hal:Tryz.prog.arrayLen 210=24:=by simp[Program.arrayLen,Tryz.underlying210]
  have hsl1:∀ W,(Instr.sliceAt 210 (.pointer (some ⟨w.heap.size,0,none⟩)) none (some (.int .i64 (Lib.nDigits u:Int))) none).run Tryz.prog W=.ok (.slice (some ⟨w.heap.size,0,none⟩) (Lib.nDigits u) 24) W:=fun W=>by
   rw[run_sliceAt_array_h W 210 ⟨w.heap.size,0,none⟩ (by simp[Program.arrayLen,Program.elem,Tryz.underlying210]) .i64 (Lib.nDigits u:Int) (by omega) (by rw[hal];omega)]
   go_simp
  have hH0:=Lib.holds_zero0 w 210 (Lib.nDigits u) (by omega);have hfmt:=Tryz.strconv_formatBase10 w.heap.size 0 24 u (Array.replicate (Lib.nDigits u) 0) (w.alloc (.cells Lib.zeros24 210)) hH0 (by rw[Array.size_replicate];exact Lib.lt_pow_nDigits u) hu64 (by rw[Array.size_replicate];omega);rw[Array.size_replicate]at hfmt;have HH0:=Lib.hid hH0;have HT:Hid (Lay w):=htab;clear hH0 hal htab;go_enter Tryz.func164,Tryz.ntmps164
  go_wp2_with (first
   | (go_at_call 188;refine (Tryz.strconv_numDigits u hu1 hu64 _ (Lib.tabIs_alloc HT.out.tab _)).mono ?_;rintro e w' ⟨rfl,rfl⟩)
   | (go_at_call 189;refine hfmt.mono ?_;rintro e w' ⟨rfl,k,v',dk,rfl,hF⟩
      have hcv:(convert 136 9 (.slice (some ⟨w.heap.size,0,none⟩) (Lib.nDigits u) 24)).run Tryz.prog ((putRow (fun (b:UInt8)=>Value.int .u8 (b.toNat:Int)) (w.alloc (.cells Lib.zeros24 210)) w.heap.size 0 dk).drewN k)=.ok (.string ⟨(Lib.decDigits u).toArray⟩) ((putRow (fun (b:UInt8)=>Value.int .u8 (b.toNat:Int)) (w.alloc (.cells Lib.zeros24 210)) w.heap.size 0 dk).drewN k):=by
       have h:=run_convert_bytes_back (P:=Tryz.prog) ((putRow (fun (b:UInt8)=>Value.int .u8 (b.toNat:Int)) (w.alloc (.cells Lib.zeros24 210)) w.heap.size 0 dk).drewN k) 136 9 5 ⟨w.heap.size,0,none⟩ 24 (Lib.decDigits u) Tryz.underlying136 Tryz.underlying5 Tryz.underlying9 (fun j hj=>by
        rw[Lib.row_is_numeral hF j hj,Lib.add_plain,World.cell?_drewN];exact cell?_putRow (fun (b:UInt8)=>Value.int .u8 (b.toNat:Int)) _ w.heap.size 0 _ dk HH0.out (by rw[hF.size,Array.size_replicate]) j (by rw[hF.size];rw[Lib.decDigits_length]at hj;exact hj))
       rw[Lib.decDigits_length]at h;exact h)
   | fail)
  go_ret
  obtain⟨os,eo⟩:=n0K w (.cells Lib.zeros24 210) dk k;refine⟨rfl,?_⟩;rw[eo];exact j0X w k os
theorem n0z (w:World)(u:Nat)(hu64:u<18446744073709551616)(htab:Lay w):
 Calls Tryz.prog 119 #[.int .u64 u,.int .i64 10] w fun e w'=>e=.returned (.string ⟨(Lib.decDigits u).toArray⟩)∧Below w.heap.size w w':=by
 go_enter Tryz.func119,Tryz.ntmps119
 go_wp2_with (first
  | (go_at_call 164;refine (r0o _ u hu64 htab).mono ?_;rintro e w' ⟨rfl,hb⟩)
  | fail)
 go_ret
 exact⟨rfl,hb⟩
#print axioms n0z
end Go.Proofs.YtlimaehdmcnjaaaGreatDoor
namespace Go.Proofs.YtlimaehdmcnjaaaGreatDoor
open Go.RowKit
open Go.Shelf
theorem q0H : Tryz.prog.globalNamed "internal/strconv.uint64pow10" = some 2 := by kernel_rfl
end Go.Proofs.YtlimaehdmcnjaaaGreatDoor
namespace Go.Proofs.YtlimaehdmcnjaaaGreatDoor
open Go.ChangeShapes
open Go.WideShapes
open Go.ChangeAt
open Go.RowKit
open Go.ChangeMaps (open_string shut_string)
theorem j0x:(Tryz.prog.globals[2]?).map (·.type)=some 232:=by kernel_rfl
theorem h0z:Tryz.prog.cellsOf 232=20:=by kernel_rfl
theorem j0y:Tryz.prog.cellsOf 122=1:=by kernel_rfl
theorem r0n {W:World}(h:laidMetH Tryz.prog Rows.smoothSimplexRow.laid W)(hsh:W.ShapedOpen Tryz.prog):Lay W:=by
 refine⟨?_,?_⟩
 ·rw[MakeChecks.laidMetH_plain _ _ _ (by kernel_rfl)]at h;obtain⟨ps,⟨g0,t0,cs0,f0,p0,q0,hg0,ht0,hv0,hd0,⟨g1,t1,cs1,f1,p1,q1,hg1,ht1,hv1,hd1,⟨g2,t2,cs2,f2,p2,q2,hg2,ht2,hv2,hd2,_,_⟩,_⟩,_⟩,_,_⟩:=h;obtain rfl:=Option.some.inj (q0H.symm.trans hg2);obtain rfl:=Option.some.inj (j0x.symm.trans ht2);have e:(Rows.laid_internal_strconv_uint64pow10:DataW Unit)=Lib.tabData .u64 Lib.pow10Tab:=by kernel_rfl
  have hd:DataW.trod (fun _=>()) Tryz.prog W 0 (fun _=>true) false f2 232 cs2.toList=some (Lib.tabData .u64 Lib.pow10Tab,p2):=by rw[← e];exact hd2
  unfold Lib.TabIs;rw[hv2,← Lib.cells_of_tab Tryz.underlying232 Tryz.underlying122 j0y h0z hd]
 ·exact cell_of_shapedOpen_int (zero:=#[.int .i64 0]) (t:=3) hsh (of_decide_eq_true (by kernel_rfl)) (by kernel_rfl) rfl (by kernel_rfl) (by kernel_rfl) Tryz.underlying3
theorem own:ownKnob Tryz.prog.godebug=none:=by kernel_rfl
theorem l0q:laidOutB Tryz.prog=true:=by kernel_rfl
def q0A (l:List ByteArray):List Value:=l.map Value.string
theorem k0Y {H:Type}{enc:TypeId×Value→H}{P:Program}{r:Reach}{b0:Nat}{w:World}{t e:TypeId}{v:Value}{d:DataW H}{p:List MemPlace}(ht:P.underlying t=some (.slice e))(he:P.underlying e=some .string)(hc:P.cellsOf e=1)
 (hv:Value.okWide P w r b0 t v) (h:DataW.Trod enc P w 0 (fun _=>true) true t v d p):∃ l,Row w v (q0A l)∧∀ x∈l,x.size≤maxLen:=by
 obtain⟨a0,len,cap,rfl⟩:=okWide_slice ht hv;obtain⟨fuel,hf⟩:=h;rcases open_strings ht he hc hf with ⟨hcs,-⟩ | ⟨a,len',cap',ss,hcs,-,hl,hm,hz,-,hcell,hws⟩
 ·simp[Value.cells]at hcs;obtain⟨rfl,rfl,rfl⟩:=hcs;exact⟨[],Row.nil w,by simp⟩
 ·simp[Value.cells]at hcs;obtain⟨rfl,rfl,rfl⟩:=hcs;simp at hz;refine⟨ss.take len,⟨some a,cap,?_,?_,hm,fun i x hx=>?_⟩,fun x hx=>hws x (List.mem_of_mem_take hx)⟩
  ·rw[q0A,List.length_map,List.length_take_of_le (by omega)]
  ·rw[q0A,List.length_map,List.length_take_of_le (by omega)];exact hl
  ·have hi:=(List.getElem?_eq_some_iff.1 hx).1;rw[q0A,List.length_map,List.length_take_of_le (by omega)]at hi;obtain⟨b,off,spot⟩:=a;have hspot:spot=none:=by
    have h0:=hcell 0 (by omega);simpa[Addr.add]using World.cell?_spot h0
   subst hspot;have hc2:=hcell i (by omega);rw[Go.WideShapes.add_plain]at hc2;refine⟨b,off,rfl,World.block_lt_of_cell? w _ hc2,?_⟩;rw[hc2,← hx];simp only[q0A,List.getElem?_map,List.getElem?_take];rw[if_pos (by omega),List.getD_eq_getElem?_getD];obtain⟨y,hy⟩:∃ y,ss[i]?=some y:=⟨_,List.getElem?_eq_getElem (by omega)⟩;rw[hy]
   rfl
end Go.Proofs.YtlimaehdmcnjaaaGreatDoor
namespace Go.Proofs.YtlimaehdmcnjaaaGreatDoor
open Go.RowKit
open Go.Lib (decDigits nDigits)
def sgn (m:Bool)(n:Nat):Int:=if m=true then -(n:Int) else n
theorem b0P (m:Bool)(n:Nat):(sgn m n).natAbs=n:=by cases m<;>simp[sgn]
theorem i0k (m:Bool):sgn m 0=0:=by cases m<;>simp[sgn]
theorem k0x {m:Bool}{n:Nat}(h:0<n):decide (sgn m n<0)=m:=by cases m<;>simp[sgn]<;>omega
theorem g0s (z:Int):sgn (decide (z<0)) z.natAbs=z:=by
 unfold sgn;by_cases h:z<0<;>simp[h]<;>omega
def qmk (m:Bool)(n d:Nat):Rat:=mkRat (sgn m n) d
theorem o0J (m:Bool){n g:Nat}(h:g∣n):sgn m n / (g:Int)=sgn m (n / g):=by
 cases m
 ·simp[sgn]
 ·simp only[sgn,if_true];rw[Int.neg_ediv_of_dvd (Int.natCast_dvd_natCast.2 h)];simp
theorem h0x {m:Bool}{n d:Nat}(hd:0<d):(qmk m n d).num=sgn m (n / Nat.gcd n d):=by
 unfold qmk;rw[Rat.num_mkRat,if_neg (by omega),b0P,Nat.gcd_comm,o0J m (Nat.gcd_dvd_left n d)]
theorem k0O {m:Bool}{n d:Nat}(hd:0<d):(qmk m n d).den=d / Nat.gcd n d:=by
 unfold qmk;rw[Rat.den_mkRat,if_neg (by omega),b0P,Nat.gcd_comm]
theorem i0z (m:Bool)(d:Nat):qmk m 0 d=0:=by unfold qmk;rw[i0k,Rat.zero_mkRat]
theorem n0i (q:Rat):qmk (decide (q.num<0)) q.num.natAbs q.den=q:=by unfold qmk;rw[g0s,Rat.mkRat_self]
structure IsQ (k:IntKind)(w:World)(v:Value)(q:Rat):Prop where
 ex:∃ N D,v=.agg #[.bool (decide (q.num<0)),N,D]∧IsN k w N q.num.natAbs∧IsN k w D q.den
theorem IsQ.call {k:IntKind}{w w':World}{v:Value}{q:Rat}(h:IsQ k w v q)(hb:Below w.heap.size w w'):IsQ k w' v q:=by
 obtain⟨N,D,rfl,h1,h2⟩:=h.ex;exact⟨N,D,rfl,h1.call hb,h2.call hb⟩
theorem IsQ.mk' {k:IntKind}{w:World}{N D:Value}{m:Bool}{n d:Nat}(hn:0<n)(hd:0<d)(h1:IsN k w N (n / Nat.gcd n d))(h2:IsN k w D (d / Nat.gcd n d)):IsQ k w (.agg #[.bool m,N,D]) (qmk m n d):=by
 have hg:0<n / Nat.gcd n d:=Nat.div_pos (Nat.gcd_le_left d hn) (Nat.gcd_pos_of_pos_left d hn);refine⟨N,D,?_,?_,?_⟩
 ·rw[h0x hd,k0x hg]
 ·rw[h0x hd,b0P];exact h1
 ·rw[k0O hd];exact h2
theorem IsQ.zero_ {k:IntKind}{w:World}{N D:Value}(h1:IsN k w N 0)(h2:IsN k w D 1):IsQ k w (.agg #[.bool false,N,D]) 0:=⟨N,D,rfl,h1,h2⟩
def d0Q (k:IntKind)(q:Rat)(e:Ending)(w':World):Prop:=∃ v,e=.returned v∧IsQ k w' v q
def NoInt (cs:Array Value):Prop:=∀ (i:Nat) (k:IntKind) (x:Int),cs[i]? ≠ some (.int k x)
theorem NoInt.three (m:Bool)(a b:Option Addr)(n c n' c':Nat):NoInt #[.bool m,.slice a n c,.slice b n' c']:=by
 intro i k x h;rcases i with _ | _ | _ | i<;>simp at h
theorem IsN.setQ {k:IntKind}{w:World}{v:Value}{n b:Nat}{cs:Array Value}{t:TypeId}(h:IsN k w v n)(hb:Blk w b cs t)(hc:NoInt cs)(j:Nat)(u:Value):IsN k (w.setCell ⟨b,j,none⟩ u) v n:=by
 obtain⟨a,c,rfl,h1,h2,h3⟩:=h.ex;refine⟨a,c,rfl,h1,h2,fun i x hx=>?_⟩;obtain⟨g,o,e,hg,hcell⟩:=h3 i x hx;refine⟨g,o,e,by simpa[World.setCell]using hg,?_⟩;have hne:g≠b:=by
  rintro rfl;rw[hb.cell]at hcell;have:x∈ints k (limbs n):=List.mem_of_getElem? hx;obtain⟨y,_,rfl⟩:=List.mem_map.1 this;exact hc _ _ _ hcell
 rw[← hcell];unfold World.cell?;rw[Below.heap_setCell _ _ _ _ (by simpa using hne)]
theorem b0d {w:World}{b:Nat}{m0:Bool}{a0 b0:Option Addr}{n0 c0 n1 c1:Nat}{t:TypeId}(hb:Blk w b #[.bool m0,.slice a0 n0 c0,.slice b0 n1 c1] t)(m:Bool)(a a':Option Addr)(n c n' c':Nat):
 (∀ (k:IntKind) (v:Value) (x:Nat),IsN k w v x→IsN k (((w.setCell ⟨b,0,none⟩ (.bool m)).setCell ⟨b,1,none⟩ (.slice a n c)).setCell ⟨b,2,none⟩ (.slice a' n' c')) v x) ∧
 Blk (((w.setCell ⟨b,0,none⟩ (.bool m)).setCell ⟨b,1,none⟩ (.slice a n c)).setCell ⟨b,2,none⟩ (.slice a' n' c')) b #[.bool m,.slice a n c,.slice a' n' c'] t:=by
 have h1:=hb.set 0 (.bool m);have h2:=h1.set 1 (.slice a n c);have h3:=h2.set 2 (.slice a' n' c');simp at h1 h2 h3;refine⟨fun k v x h=>?_,h3⟩;exact ((h.setQ hb (NoInt.three _ _ _ _ _ _ _) 0 _).setQ h1 (NoInt.three _ _ _ _ _ _ _) 1 _).setQ h2 (NoInt.three _ _ _ _ _ _ _) 2 _
end Go.Proofs.YtlimaehdmcnjaaaGreatDoor
namespace Go.Proofs.YtlimaehdmcnjaaaGreatDoor
open Go.RowKit
structure KeepK (k:IntKind)(W W':World):Prop where
 size:W.heap.size≤W'.heap.size
 cell:∀ (g o:Nat) (x:Int),W.cell? ⟨g,o,none⟩=some (.int k x)→W'.cell? ⟨g,o,none⟩=some (.int k x)
theorem KeepK.trans {k:IntKind}{W W1 W2:World}(h:KeepK k W W1)(h2:KeepK k W1 W2):KeepK k W W2:=⟨Nat.le_trans h.size h2.size,fun g o x hx=>h2.cell g o x (h.cell g o x hx)⟩
theorem KeepK.isN {k:IntKind}{W W':World}{v:Value}{n:Nat}(h:KeepK k W W')(hn:IsN k W v n):IsN k W' v n:=by
 obtain⟨a,c,rfl,h1,h2,h3⟩:=hn.ex;refine⟨a,c,rfl,h1,h2,fun i x hx=>?_⟩;obtain⟨g,o,e,hg,hc⟩:=h3 i x hx;have hm:x∈ints k (limbs n):=List.mem_of_getElem? hx;obtain⟨y,_,rfl⟩:=List.mem_map.1 hm;exact⟨g,o,e,Nat.lt_of_lt_of_le hg h.size,h.cell g _ _ hc⟩
theorem KeepK.isQ {k:IntKind}{W W':World}{v:Value}{q:Rat}(h:KeepK k W W')(hq:IsQ k W v q):IsQ k W' v q:=by
 obtain⟨N,D,rfl,h1,h2⟩:=hq.ex;exact⟨N,D,rfl,h.isN h1,h.isN h2⟩
theorem KeepK.below {k:IntKind}{W W':World}(hb:Below W.heap.size W W'):KeepK k W W':=⟨hb.size,fun g o x hx=>(hb.cell (p:=⟨g,o,none⟩) (a0z hx)).trans hx⟩
def NoK (k:IntKind)(cs:Array Value):Prop:=∀ (i:Nat) (x:Int),cs[i]? ≠ some (.int k x)
def NoKL (k:IntKind)(cs:List Value):Prop:=∀ x:Int,.int k x ∉ cs
theorem NoK.of {k:IntKind}{cs:Array Value}(h:NoKL k cs.toList):NoK k cs:=fun i x hx=>h x (List.mem_of_getElem? (by rw[Array.getElem?_toList];exact hx))
theorem NoK.list {k:IntKind}{cs:Array Value}(h:NoK k cs):NoKL k cs.toList:=fun x hx=>by
 obtain⟨i,hi⟩:=List.getElem?_of_mem hx;exact h i x (by rw[← Array.getElem?_toList];exact hi)
theorem NoKL.append {k:IntKind}{a b:List Value}(h:NoKL k a)(h2:NoKL k b):NoKL k (a++b):=fun x hx=>(List.mem_append.1 hx).elim (h x) (h2 x)
theorem NoKL.take {k:IntKind}{a:List Value}(h:NoKL k a)(n:Nat):NoKL k (a.take n):=fun x hx=>h x (List.mem_of_mem_take hx)
theorem NoKL.drop {k:IntKind}{a:List Value}(h:NoKL k a)(n:Nat):NoKL k (a.drop n):=fun x hx=>h x (List.mem_of_mem_drop hx)
theorem NoKL.zeros {k:IntKind}{z:Array Value}(h:NoKL k z.toList)(n:Nat):NoKL k (Builtin.zeroCells z n).toList:=fun x hx=>by
 unfold Builtin.zeroCells at hx;rw[Array.toList_map]at hx;obtain⟨i,hi,he⟩:=List.mem_map.1 hx;rw[Array.toList_range,List.mem_range]at hi;have hz:0<z.size:=by
  rcases Nat.eq_zero_or_pos z.size with h0 | h0
  ·rw[h0,Nat.mul_zero]at hi;omega
  ·exact h0
 have hl:i%z.size<z.size:=Nat.mod_lt _ hz;rw[getElem!_pos z _ hl]at he;exact h x (by rw[← he];simp)
theorem NoK.set {k:IntKind}{cs:Array Value}(h:NoK k cs)(j:Nat){u:Value}(hu:∀ x,u ≠ .int k x):NoK k (cs.setIfInBounds j u):=fun i x hx=>by
 rw[Array.getElem?_setIfInBounds]at hx
 split at hx
 ·split at hx
  ·exact hu x (Option.some.inj hx)
  ·cases hx
 ·exact h i x hx
theorem KeepK.grown {k:IntKind}{W W':World}{g:Nat}{cs:Array Value}{t:TypeId}(hB:Blk W g cs t)(hn:NoK k cs)(hg:W.grownBy W' (some g)):KeepK k W W':=by
 refine⟨hg.size,fun g' o x hx=>?_⟩;have hne:g'≠g:=by
  rintro rfl;rw[hB.cell]at hx;exact hn _ _ hx
 exact hg.cell hx (fun e=>hne (Option.some.inj e))
theorem KeepK.grown0 {k:IntKind}{W W':World}(hg:W.grownBy W' none):KeepK k W W':=⟨hg.size,fun g' o x hx=>hg.cell hx (fun e=>by cases e)⟩
theorem KeepK.set {k:IntKind}{W:World}{g:Nat}{cs:Array Value}{t:TypeId}(hB:Blk W g cs t)(hn:NoK k cs)(j:Nat)(u:Value):KeepK k W (W.setCell ⟨g,j,none⟩ u):=by
 refine⟨by simp[World.setCell],fun g' o x hx=>?_⟩;have hne:g'≠g:=by
  rintro rfl;rw[hB.cell]at hx;exact hn _ _ hx
 rw[← hx];unfold World.cell?;rw[Below.heap_setCell _ _ _ _ (by simpa using hne)]
structure KRow (k:IntKind)(t:TypeId)(sz B:Nat)(W:World)(v:Value)(cs:List (List Value)):Prop where
 own:W.ownsRow B t sz v cs.length cs.flatten
 all:∀ c∈cs,c.length=sz
 nok:∀ g,v.ownBlock=some g→∃ cur,Blk W g cur t∧NoK k cur
theorem KRow.nil (k:IntKind)(t:TypeId)(sz B:Nat)(W:World):KRow k t sz B W (.slice none 0 0) []:=⟨World.ownsRow_nil _ _ _ _,fun c hc=>(by cases hc),fun g hg=>by simp[Value.ownBlock]at hg⟩
theorem KRow.keep {k:IntKind}{t:TypeId}{sz B:Nat}{W W':World}{v:Value}{cs:List (List Value)}(h:KRow k t sz B W v cs)(hb:∀ g,v.ownBlock=some g→W'.heap[g]?=W.heap[g]?):KRow k t sz B W' v cs:=by
 refine⟨⟨h.own.1,?_⟩,h.all,fun g hg=>?_⟩
 ·rcases h.own.2 with h0 | ⟨g,cap,cur,rfl,h1,h2,h3⟩
  ·exact .inl h0
  ·exact .inr ⟨g,cap,cur,rfl,h1,(hb g rfl).trans h2,h3⟩
 ·obtain⟨cur,h1,h2⟩:=h.nok g hg;exact⟨cur,(hb g hg).trans h1,h2⟩
theorem KRow.call {k:IntKind}{t:TypeId}{sz B:Nat}{W W':World}{v:Value}{cs:List (List Value)}(h:KRow k t sz B W v cs)(hb:Below W.heap.size W W'):KRow k t sz B W' v cs:=h.keep fun g hg=>hb.block g (h.own.lt g hg).2
theorem KRow.ex {k:IntKind}{t:TypeId}{sz B:Nat}{W:World}{v:Value}{cs:List (List Value)}(h:KRow k t sz B W v cs):∃ a c,v=.slice a cs.length c∧cs.length≤c∧c≤9223372036854775807:=by
 rcases h.own.2 with ⟨rfl,h0⟩ | ⟨g,cap,cur,rfl,h1,h2,h3,h4,h5,h6⟩
 ·exact⟨none,0,by rw[h0],by omega,by omega⟩
 ·exact⟨_,_,rfl,h3,by unfold maxLen at h4;omega⟩
theorem i0Q {cs:List (List Value)}{sz:Nat}:(∀ c∈cs,c.length=sz)→∀ {i j:Nat} {c:List Value} {x:Value},cs[i]?=some c→c[j]?=some x→cs.flatten[i*sz+j]?=some x:=by
 induction cs with
 | nil=>intro _ i j c x hc;simp at hc
 | cons d cs ih=>
  intro h i j c x hc hx;have hd:d.length=sz:=h d (by simp);rw[List.flatten_cons];cases i with
  | zero=>
   simp at hc;subst hc;have:j<d.length:=(List.getElem?_eq_some_iff.1 hx).1;rw[Nat.zero_mul,Nat.zero_add,List.getElem?_append_left this];exact hx
  | succ i=>
   rw[List.getElem?_cons_succ]at hc;rw[Nat.succ_mul,List.getElem?_append_right (by omega),show i*sz+sz+j-d.length=i*sz+j by omega];exact ih (fun c hc=>h c (by simp[hc])) hc hx
theorem n0J {cs:List (List Value)}{sz:Nat}:(∀ c∈cs,c.length=sz)→∀ {i j:Nat} {c:List Value} (u:Value),cs[i]?=some c→j<sz→cs.flatten.set (i*sz+j) u=(cs.set i (c.set j u)).flatten:=by
 induction cs with
 | nil=>intro _ i j c x hc;simp at hc
 | cons d cs ih=>
  intro h i j c u hc hj;have hd:d.length=sz:=h d (by simp);cases i with
  | zero=>
   simp at hc;subst hc;rw[Nat.zero_mul,Nat.zero_add,List.flatten_cons,List.set_append_left _ _ (by omega),List.set_cons_zero,List.flatten_cons]
  | succ i=>
   rw[List.getElem?_cons_succ]at hc;rw[List.flatten_cons,Nat.succ_mul,List.set_append_right _ _ (by omega),show i*sz+sz+j-d.length=i*sz+j by omega,List.set_cons_succ,List.flatten_cons,ih (fun c hc=>h c (by simp[hc])) u hc hj]
theorem KRow.block {k:IntKind}{t:TypeId}{sz B:Nat}{W:World}{v:Value}{cs:List (List Value)}(h:KRow k t sz B W v cs){i:Nat}{c:List Value}(hc:cs[i]?=some c)(h0:0<sz):∃ g cap,v=.slice (some ⟨g,0,none⟩) cs.length cap∧cs.length≤cap∧cap≤9223372036854775807∧B≤g∧g<W.heap.size∧(∀ j,W.frozen? ⟨g,j,none⟩=false):=by
 have hi:i<cs.length:=(List.getElem?_eq_some_iff.1 hc).1;rcases h.own.2 with ⟨rfl,h0⟩ | ⟨g,cap,cur,rfl,h1,h2,h3,h4,h5,h6⟩
 ·omega
 ·exact⟨g,cap,rfl,h3,by unfold maxLen at h4;omega,h1,(Array.getElem?_eq_some_iff.1 h2).1,fun j=>Blk.free h2 j⟩
theorem KRow.cell {k:IntKind}{t:TypeId}{sz B:Nat}{W:World}{cs:List (List Value)}{g n cap:Nat}(h:KRow k t sz B W (.slice (some ⟨g,0,none⟩) n cap) cs){i j:Nat}{c:List Value}{x:Value}(hc:cs[i]?=some c)(hx:c[j]?=some x):W.cell? ⟨g,i*sz+j,none⟩=some x:=by
 have:=h.own.cells rfl _ _ (i0Q h.all hc hx);rwa[Addr.add_lit,Nat.zero_add]at this
theorem KRow.free {k:IntKind}{t:TypeId}{sz B:Nat}{W:World}{cs:List (List Value)}{g n cap:Nat}(h:KRow k t sz B W (.slice (some ⟨g,0,none⟩) n cap) cs)(j:Nat):W.frozen? ⟨g,j,none⟩=false:=by
 obtain⟨cur,h1,-⟩:=h.nok g rfl;exact Blk.free h1 j
theorem KRow.keepSet {k:IntKind}{t:TypeId}{sz B:Nat}{W:World}{cs:List (List Value)}{g n cap:Nat}(h:KRow k t sz B W (.slice (some ⟨g,0,none⟩) n cap) cs)(j:Nat)(u:Value):KeepK k W (W.setCell ⟨g,j,none⟩ u):=by
 obtain⟨cur,h1,h2⟩:=h.nok g rfl;exact KeepK.set h1 h2 j u
theorem KRow.set {k:IntKind}{t:TypeId}{sz B:Nat}{W:World}{cs:List (List Value)}{g n cap:Nat}(h:KRow k t sz B W (.slice (some ⟨g,0,none⟩) n cap) cs){i j:Nat}{c:List Value}(hc:cs[i]?=some c)(hj:j<sz){u:Value}(hu:∀ x,u ≠ .int k x):KRow k t sz B (W.setCell ⟨g,i*sz+j,none⟩ u) (.slice (some ⟨g,0,none⟩) n cap) (cs.set i (c.set j u)):=by
 obtain⟨cur,h1,h2⟩:=h.nok g rfl;have hcl:c.length=sz:=h.all c (List.mem_of_getElem? hc);refine⟨?_,fun d hd=>?_,fun g' hg'=>?_⟩
 ·rw[← n0J h.all u hc hj,List.length_set];rcases h.own.2 with ⟨e1,_⟩ | ⟨g',cap',cur',e1,hb,hg,h3,h4,h5,h6⟩
  ·simp at e1
  ·simp at e1;obtain⟨rfl,e2,rfl⟩:=e1;refine⟨by rw[List.length_set];exact h.own.1,.inr ⟨g,cap,cur'.setIfInBounds (i*sz+j) u,by rw[e2],hb,Blk.set hg _ u,h3,h4,by simpa using h5,?_⟩⟩;rw[Array.toList_setIfInBounds,List.take_set,h6]
 ·rcases List.mem_or_eq_of_mem_set hd with hd | rfl
  ·exact h.all d hd
  ·rw[List.length_set];exact hcl
 ·obtain rfl:g=g':=by simpa[Value.ownBlock]using hg'
  exact⟨_,h1.set _ u,h2.set _ hu⟩
theorem e0n {P:Program}(w:World)(k:IntKind)(base:Nat)(t ty e:TypeId)(i:TypeInfo)(z:Value)(size bytes:Nat)(ht:P.underlying t=some (.slice e))(hi:P.info? e=some i)(hz:i.zero=some z)
 (hsize:i.size=size) (hby:i.bytes=bytes) (hzs:z.cells.size=size) (hsz:0<size) (hzk:NoKL k z.cells.toList) (v:Value) (cs:List (List Value)) (hown:KRow k e size base w v cs)
 (a:Addr) (m c:Nat) (news:List (List Value)) (hl:news.length=m) (hns:∀ d∈news,d.length=size) (hnews:∀ j u,news.flatten[j]?=some u→w.cell? (a.add j)=some u) (h1:∀ u∈news.flatten,u.oneCell'=true) (hnk:NoKL k news.flatten)
 (h63:cs.length+m≤maxLen) (hbytes:(cs.length+m)*bytes≤140737488355328) (hbase:base≤w.heap.size):
 ∃ v' w',(Builtin.append_ #[t,t] ty #[v,.slice (some a) m c]).run P w=.ok v' w'∧KRow k e size base w' v' (cs++news)∧w.grownBy w' v.ownBlock∧KeepK k w w' ∧
  (v'.ownBlock=v.ownBlock∨v'.ownBlock=some w.heap.size):=by
 have hfl:news.flatten.length=m*size:=by
  rw[← hl];clear hnews h1 hnk hl
  induction news with
  | nil=>simp
  | cons d news ih=>rw[List.flatten_cons,List.length_append,ih (fun d hd=>hns d (by simp[hd])),hns d (by simp),List.length_cons,Nat.succ_mul];omega
 obtain⟨v',w',hr,k1,k2,-,k4⟩:=run_append_own_at (P:=P) w base t ty e i z size bytes ht hi hz hsize hby hzs hsz v cs.length cs.flatten hown.own a m c news.flatten hfl hnews h1 h63 hbytes hbase;have keep:KeepK k w w':=by
  cases hv:v.ownBlock with
  | none=>rw[hv]at k2;exact KeepK.grown0 k2
  | some g=>
   obtain⟨cur,q1,q2⟩:=hown.nok g hv;rw[hv]at k2;exact KeepK.grown q1 q2 k2
 have hlen:(cs++news).length=cs.length+m:=by rw[List.length_append,hl]
 refine⟨v',w',hr,⟨by rw[hlen,List.flatten_append];exact k1,fun d hd=>(List.mem_append.1 hd).elim (hown.all d) (hns d),?_⟩,k2,keep,k4⟩;intro g' hg';subst hsize;subst hby
 have hzz:=hzk.zeros;rcases hown.own.2 with ⟨rfl,h0⟩ | ⟨g,cap,cur,rfl,hbg,hg,hnc,hcm,hcs,htake⟩
 ·by_cases hm:m=0
  ·subst hm;have hn:news = []:=List.eq_nil_of_length_eq_zero hl;subst hn
   exfalso
   rcases k1.2 with ⟨e1,_⟩ | ⟨g1,cap1,cur1,e1,_⟩
   ·rw[e1]at hg';simp[Value.ownBlock]at hg'
   ·have hr2:(Builtin.append_ #[t,t] ty #[.slice none 0 0,.slice (some a) 0 c]).run P w=.ok (.slice none 0 0) w:=by
     simp[Builtin.append_,run_underlying ht,sizeOf,typeInfo,hi,Builtin.lenOf,Builtin.firstCells,loadCells,loadCellsFrom]
    rw[hr]at hr2;injection hr2 with q1 q2
    rw[q1]at hg';simp[Value.ownBlock]at hg'
  ·have hr2:=run_append_nil (P:=P) w t ty e i z ht hi hz a m c news.flatten hfl hnews (by omega) (by unfold maxLen at h63;omega) (by rw[h0,Nat.zero_add]at hbytes;omega);rw[hr]at hr2;injection hr2 with q1 q2
   rw[q1]at hg';simp[Value.ownBlock]at hg';subst hg';rw[q2];refine⟨_,heap_alloc_new w.drew _,NoK.of ?_⟩;rw[Array.toList_append];exact hnk.append (hzz _)
 ·by_cases hroom:cs.length+m≤cap
  ·have hfit:cs.length*i.size+news.flatten.length≤cur.size:=by rw[hfl,hcs,← Nat.add_mul];exact Nat.mul_le_mul_right _ hroom
   have hr2:=run_append_room (P:=P) w t ty e i ht hi g cs.length cap cur hg a m c news.flatten hfl hnews h1 hroom hfit;rw[hr]at hr2;injection hr2 with q1 q2
   rw[q1]at hg';simp[Value.ownBlock]at hg';subst hg';rw[q2];refine⟨_,setRow_heap w g cur _ e _ hg,NoK.of ?_⟩;obtain⟨cur2,q3,q4⟩:=hown.nok g rfl;have e2:cur2=cur:=by
    have:=(show w.heap[g]? = _ from q3).symm.trans hg;injection this with this
    injection this
   subst e2;exact ((q4.list.take _).append hnk).append (q4.list.drop _)
  ·have holds:∀ j u,cs.flatten[j]?=some u→w.cell? ((⟨g,0,none⟩:Addr).add j)=some u:=hown.own.cells (g:=g) rfl;have hr2:=run_append_grow (P:=P) w t ty e i z ht hi hz ⟨g,0,none⟩ cs.length cap cs.flatten hown.own.1 holds a m c news.flatten hfl hnews (by omega) (by unfold maxLen at h63;omega) (growslice_fits (by omega) hbytes);rw[hr]at hr2;injection hr2 with q1 q2
   rw[q1]at hg';simp[Value.ownBlock]at hg';subst hg';rw[q2];refine⟨_,heap_alloc_new w.drew _,NoK.of ?_⟩;obtain⟨cur2,q3,q4⟩:=hown.nok g rfl;have e2:cur2=cur:=by
    have:=(show w.heap[g]? = _ from q3).symm.trans hg;injection this with this
    injection this
   subst e2;have hfk:NoKL k cs.flatten:=by rw[← htake];exact q4.list.take _
   rw[Array.toList_append,Array.toList_append];exact (hfk.append hnk).append (hzz _)
theorem a0s {P:Program}(w:World){ops:Array Oper}{rest:List Oper}{o:Oper}{a:Act}{Q:Exit→Act→World→Prop}(k:IntKind)(hgd:o.guard=none)(s x:Operand)(t:TypeId)
 (ho:o.op=.call { callee:=.builtin .append,args:=#[s,x],argTypes:=#[t,t] })
 (base:Nat) (e:TypeId) (i:TypeInfo) (z:Value) (size bytes:Nat) (ht:P.underlying t=some (.slice e)) (hi:P.info? e=some i) (hz:i.zero=some z)
 (hsize:i.size=size) (hby:i.bytes=bytes) (hzs:z.cells.size=size) (hsz:0<size) (hzk:NoKL k z.cells.toList)
 (v:Value) (cs:List (List Value)) (hs:a.eval s=v) (hown:KRow k e size base w v cs)
 (ad:Addr) (m c:Nat) (news:List (List Value)) (hx:a.eval x=.slice (some ad) m c) (hl:news.length=m) (hns:∀ d∈news,d.length=size) (hnews:∀ j u,news.flatten[j]?=some u→w.cell? (ad.add j)=some u) (h1:∀ u∈news.flatten,u.oneCell'=true) (hnk:NoKL k news.flatten)
 (h63:cs.length+m≤maxLen) (hbytes:(cs.length+m)*bytes≤140737488355328) (hbase:base≤w.heap.size)
 (h:∀ v' w',KRow k e size base w' v' (cs++news)→w.grownBy w' v.ownBlock→KeepK k w w'→(v'.ownBlock=v.ownBlock∨v'.ownBlock=some w.heap.size)→wpList P ops Q rest (a.put o.dst v') w'):
 wpList P ops Q (o::rest) a w:=by
 refine wpList_plain hgd fun K hK=>?_
 obtain⟨v',w',hr,h2,h3,h4,h5⟩:=e0n (P:=P) w k base t o.type e i z size bytes ht hi hz hsize hby hzs hsz hzk v cs hown ad m c news hl hns hnews h1 hnk h63 hbytes hbase;unfold Oper.wp execOp;simp only[ho,resolve,invoke,builtin,Sem.run_bind,Sem.run_pure,Result.andThen_ok,List.map_toArray,List.map_cons,List.map_nil,hs,hx,hr];exact hK _ _ (h v' w' h2 h3 h4 h5)
structure QC (k:IntKind)(W:World)(c:List Value)(q:Rat):Prop where
 ex:∃ (a:Option Addr) (n p:Nat) (b:Option Addr) (n' p':Nat),c = [.bool (decide (q.num<0)),.slice a n p,.slice b n' p']∧IsQ k W (.agg #[.bool (decide (q.num<0)),.slice a n p,.slice b n' p']) q
theorem QC.keep {k:IntKind}{W W':World}{c:List Value}{q:Rat}(h:QC k W c q)(hk:KeepK k W W'):QC k W' c q:=by
 obtain⟨a,n,p,b,n',p',rfl,h1⟩:=h.ex;exact⟨a,n,p,b,n',p',rfl,hk.isQ h1⟩
structure QL (k:IntKind)(W:World)(cs:List (List Value))(qs:List Rat):Prop where
 len:cs.length=qs.length
 at_:∀ (i:Nat) (q:Rat),qs[i]?=some q→∃ c,cs[i]?=some c∧QC k W c q
theorem QL.nil (k:IntKind)(W:World):QL k W [] []:=⟨rfl,fun i q h=>by simp at h⟩
theorem QL.keep {k:IntKind}{W W':World}{cs:List (List Value)}{qs:List Rat}(h:QL k W cs qs)(hk:KeepK k W W'):QL k W' cs qs:=⟨h.len,fun i q hq=>by
 obtain⟨c,h1,h2⟩:=h.at_ i q hq;exact⟨c,h1,h2.keep hk⟩⟩
theorem QL.call {k:IntKind}{W W':World}{cs:List (List Value)}{qs:List Rat}(h:QL k W cs qs)(hb:Below W.heap.size W W'):QL k W' cs qs:=h.keep (KeepK.below hb)
theorem QL.snoc {k:IntKind}{W:World}{cs:List (List Value)}{qs:List Rat}(h:QL k W cs qs){c:List Value}{q:Rat}(hc:QC k W c q):QL k W (cs ++ [c]) (qs ++ [q]):=by
 refine⟨by simp[h.len],fun i x hx=>?_⟩;by_cases hi:i<qs.length
 ·rw[List.getElem?_append_left hi]at hx;rw[List.getElem?_append_left (by rw[h.len];exact hi)];exact h.at_ i x hx
 ·have hl:=(List.getElem?_eq_some_iff.1 hx).1;rw[List.length_append,List.length_singleton]at hl;obtain rfl:i=qs.length:=by omega
  rw[List.getElem?_append_right (Nat.le_refl _),Nat.sub_self]at hx;rw[List.getElem?_append_right (by rw[h.len];exact Nat.le_refl _),h.len,Nat.sub_self];obtain rfl:q=x:=by simpa using hx
  exact⟨c,rfl,hc⟩
theorem QL.set {k:IntKind}{W:World}{cs:List (List Value)}{qs:List Rat}(h:QL k W cs qs){c:List Value}{q:Rat}(i:Nat)(hc:QC k W c q):QL k W (cs.set i c) (qs.set i q):=by
 refine⟨by simp[h.len],fun j x hx=>?_⟩;by_cases e:i=j
 ·subst e;have hl:=(List.getElem?_eq_some_iff.1 hx).1;rw[List.length_set]at hl;rw[List.getElem?_set_self hl]at hx;rw[List.getElem?_set_self (by rw[h.len];exact hl),← Option.some.inj hx];exact⟨c,rfl,hc⟩
 ·rw[List.getElem?_set_ne e]at hx;rw[List.getElem?_set_ne e];exact h.at_ j x hx
theorem QL.take {k:IntKind}{W:World}{cs:List (List Value)}{qs:List Rat}(h:QL k W cs qs)(n:Nat):QL k W (cs.take n) (qs.take n):=by
 refine⟨by simp[h.len],fun j x hx=>?_⟩;rw[List.getElem?_take]at hx ⊢
 split at hx
 ·rename_i hj
  rw[if_pos hj];exact h.at_ j x hx
 ·cases hx
end Go.Proofs.YtlimaehdmcnjaaaGreatDoor
namespace Go.Proofs.YtlimaehdmcnjaaaGreatDoor
def rs:List Rat→Rat
 | []=>0
 | a::r=>a+rs r
def ds:List Rat→List Rat→Rat
 | a::r,b::s=>(a-b)*(a-b)+ds r s
 | _,_=>0
theorem a0Y:∀ a b:List Rat,rs (a++b)=rs a+rs b
 | [],b=>by simp[rs];grind
 | x::r,b=>by rw[List.cons_append,rs,a0Y r b,rs];grind
def pos (q:Rat):Rat:=if q<0 then 0 else q
def smA (t:Rat):Nat→Rat→Rat→List Rat→Rat
 | _,_,A,[]=>A
 | k,S,A,x::r=>if x≤(S+x-t) / ((k+1:Nat):Rat) then A else smA t (k+1) (S+x) ((S+x-t) / ((k+1:Nat):Rat)) r
theorem o0u {a:Rat}{k:Nat}:a / ((k+1:Nat):Rat)*((k:Rat)+1)=a:=by
 have h:((k+1:Nat):Rat)=(k:Rat)+1:=by push_cast;rfl
 rw[h];have hk:(0:Rat)≤(k:Rat):=Rat.natCast_nonneg;have h0:(k:Rat)+1≠0:=by grind
 grind
theorem e0v {a b c:Rat}(hc:0≤c)(h:a≤b):a*c≤b*c:=Rat.mul_le_mul_of_nonneg_right h hc
def smL (t:Rat)(v d:List Rat):List Rat:=v.map fun x=>pos (x-smA t 0 0 (d.headD 0-t) d)
def bm (b:Rat×Nat):Rat:=b.1 / (b.2:Rat)
theorem h0g {b:Rat×Nat}(h:b.2≠0):bm b*(b.2:Rat)=b.1:=by
 unfold bm;have h0:(b.2:Rat)≠0:=fun e=>h (by exact_mod_cast e)
 grind
def pv1:Rat×Nat→List (Rat×Nat)→List (Rat×Nat)
 | b,[]=>[b]
 | b,a::r=>if bm b<bm a then pv1 (a.1+b.1,a.2+b.2) r else b::a::r
def pv (v:List Rat):List (Rat×Nat):=v.foldl (fun st x=>pv1 (x,1) st) []
def pvx (st:List (Rat×Nat)):List Rat:=st.reverse.flatMap fun b=>List.replicate b.2 (bm b)
def sg (s:List Rat):Rat×Nat:=(rs s,s.length)
def good (s:List Rat):Prop:=s ≠ []∧∀ p q,s=p++q→p.length*bm (sg s)≤rs p
theorem n0G (x:Rat):good [x]:=by
 refine⟨by simp,fun p q e=>?_⟩;have hb:bm (sg [x])*1=x+0:=by
  have:=h0g (b:=sg [x]) (by simp[sg]);simpa[sg,rs]using this
 cases p with
 | nil=>simp[rs]
 | cons a r=>
  simp at e;obtain⟨rfl,h1,h2⟩:=e;subst h1;simp[rs];grind
theorem e0l (a b:List Rat):sg (a++b)=((sg a).1+(sg b).1,(sg a).2+(sg b).2):=by simp[sg,a0Y]
theorem l0F {a b:List Rat}(ha:good a)(hb:good b)(h:bm (sg b)<bm (sg a)):good (a++b):=by
 have la:0<a.length:=List.length_pos_iff.2 ha.1;have lb:0<b.length:=List.length_pos_iff.2 hb.1;refine⟨by simp[ha.1],fun p q e=>?_⟩;have ea:=h0g (b:=sg a) (by simp[sg];exact ha.1);have eb:=h0g (b:=sg b) (by simp[sg];exact hb.1);have em:=h0g (b:=sg (a++b)) (by simp[sg];exact fun h=>absurd h ha.1);have e1:(sg (a++b)).1=(sg a).1+(sg b).1:=by rw[e0l]
 have e2:((sg (a++b)).2:Rat)=(a.length:Rat)+(b.length:Rat):=by rw[e0l];simp[sg]
 obtain⟨ma,hma⟩:∃ x,bm (sg a)=x:=⟨_,rfl⟩;obtain⟨mb,hmb⟩:∃ x,bm (sg b)=x:=⟨_,rfl⟩;obtain⟨m,hm⟩:∃ x,bm (sg (a++b))=x:=⟨_,rfl⟩;have ga:=ha.2;have gb:=hb.2;rw[hma]at ea ga h;rw[hmb]at eb gb h;rw[hm]at em ⊢;rw[e1,e2]at em;have ea':ma*(a.length:Rat)=(sg a).1:=ea;have eb':mb*(b.length:Rat)=(sg b).1:=eb;have pa:(0:Rat)<(a.length:Rat):=by have:=Rat.natCast_lt_natCast.2 la;simpa using this
 have pb:(0:Rat)<(b.length:Rat):=by have:=Rat.natCast_lt_natCast.2 lb;simpa using this
 obtain⟨A,hA⟩:∃ A:Rat,(a.length:Rat)=A:=⟨_,rfl⟩;obtain⟨B,hB⟩:∃ B:Rat,(b.length:Rat)=B:=⟨_,rfl⟩;rw[hA]at ea' em pa;rw[hB]at eb' em pb;have bal:(ma-m)*A=(m-mb)*B:=by grind
 have m1:m≤ma:=by
  by_cases hc:m≤ma
  ·exact hc
  ·have c1:ma<m:=by grind
   have c2:0<(m-ma)*A:=Rat.mul_pos (by grind) pa;have c3:0≤(m-mb)*B:=Rat.mul_nonneg (by grind) (by grind)
   grind
 have m2:mb≤m:=by
  by_cases hc:mb≤m
  ·exact hc
  ·have c1:m<mb:=by grind
   have c2:0<(mb-m)*B:=Rat.mul_pos (by grind) pb;have c3:0≤(ma-m)*A:=Rat.mul_nonneg (by grind) (by grind)
   grind
 rcases List.append_eq_append_iff.1 e with ⟨p',hp,hq⟩ | ⟨q',hp,hq⟩
 ·-- p=a++p'
  have g1:=gb p' q hq;have g2:(p'.length:Rat)≤B:=by
   rw[← hB];have:p'.length≤b.length:=by rw[hq];simp
   exact Rat.natCast_le_natCast.2 this
  rw[hp,a0Y,List.length_append]
  push_cast
  rw[hA];obtain⟨L,hL⟩:∃ L:Rat,(p'.length:Rat)=L:=⟨_,rfl⟩;rw[hL]at g1 g2 ⊢;have c1:0≤(B-L)*(m-mb):=Rat.mul_nonneg (by grind) (by grind);have es:rs a=ma*A:=ea'.symm;rw[es]
  grind
 ·-- a=p++q'
  have g1:=ga p q' hp;have l0:(0:Rat)≤(p.length:Rat):=Rat.natCast_nonneg;have c1:0≤(p.length:Rat)*(ma-m):=Rat.mul_nonneg l0 (by grind)
  grind
structure PvI (st:List (Rat×Nat))(v:List Rat)(ss:List (List Rat)):Prop where
 st:st=ss.map sg
 all:v=ss.reverse.flatten
 good:∀ s∈ss,good s
 down:(ss.map fun s=>bm (sg s)).Pairwise (fun x y=>y≤x)
theorem o0h:∀ (ss:List (List Rat)) (b:List Rat) (st:List (Rat×Nat)) (v:List Rat),PvI st v ss→good b→∃ ss',PvI (pv1 (sg b) st) (v++b) ss'
 | [],b,st,v,h,hb=>by
  have e:=h.st;subst e;refine⟨[b],by simp[pv1],by rw[h.all];simp,by simpa using hb,by simp⟩
 | a::r,b,st,v,h,hb=>by
  have e:=h.st;subst e;rw[List.map_cons,pv1]
  split
  ·rename_i hlt
   have hg:=l0F (h.good a List.mem_cons_self) hb hlt;have hd:=h.down;rw[List.map_cons]at hd;obtain⟨ss',hss⟩:=o0h r (a++b) (r.map sg) r.reverse.flatten ⟨rfl,rfl,fun s hs=>h.good s (List.mem_cons_of_mem _ hs),(List.pairwise_cons.1 hd).2⟩ hg;rw[e0l]at hss;refine⟨ss',?_⟩;have ev:v++b=r.reverse.flatten++(a++b):=by rw[h.all];simp
   rw[ev];exact hss
  ·rename_i hge
   refine⟨b::a::r,by simp,by rw[h.all];simp,?_,?_⟩
   ·intro s hs;rcases List.mem_cons.1 hs with rfl | hs
    ·exact hb
    ·exact h.good s hs
   ·have hd:=h.down;rw[List.map_cons,List.pairwise_cons];refine⟨fun y hy=>?_,hd⟩;rw[List.map_cons,List.mem_cons]at hy;rw[List.map_cons,List.pairwise_cons]at hd;rcases hy with rfl | hy
    ·grind
    ·have:=hd.1 y hy
     grind
theorem r0b (v:List Rat):∃ ss,PvI (pv v) v ss:=by
 unfold pv;have key:∀ (w u:List Rat) (st:List (Rat×Nat)) (ss:List (List Rat)),PvI st u ss→∃ ss',PvI (w.foldl (fun st x=>pv1 (x,1) st) st) (u++w) ss':=by
  intro w
  induction w with
  | nil=>intro u st ss h;exact⟨ss,by simpa using h⟩
  | cons x r ih=>
   intro u st ss h;obtain⟨ss',h'⟩:=o0h ss [x] st u h (n0G x);have e:sg [x]=(x,1):=by simp[sg,rs];grind
   rw[e]at h';obtain⟨ss'',h''⟩:=ih (u ++ [x]) _ ss' h';exact⟨ss'',by simpa using h''⟩
 have:=key v [] [] [] ⟨rfl,rfl,by simp,by simp⟩;simpa using this
def bx (ss:List (List Rat)):List Rat:=ss.flatMap fun s=>List.replicate s.length (bm (sg s))
theorem j0b:∀ ss:List (List Rat),(bx ss).length=ss.flatten.length
 | []=>rfl
 | s::r=>by
  have:=j0b r;unfold bx at this ⊢;rw[List.flatMap_cons,List.length_append,this,List.flatten_cons,List.length_append,List.length_replicate]
theorem o0g {st:List (Rat×Nat)}{v:List Rat}{ss:List (List Rat)}(h:PvI st v ss):pvx st=bx ss.reverse:=by
 unfold pvx bx;rw[h.st,← List.map_reverse,List.flatMap_map]
 rfl
def mnL (v:List Rat):List Rat:=pvx (pv v)
theorem p0v (v:List Rat):(mnL v).length=v.length:=by
 obtain⟨ss,h⟩:=r0b v;unfold mnL;rw[o0g h,j0b,← h.all]
variable {α : Type}
def j0Z (key : α→Rat)(x : α)(l:List α):List α := (l.reverse.dropWhile fun e=>decide (key e<key x)).reverse++x::(l.reverse.takeWhile fun e=>decide (key e<key x)).reverse
def a0r (key : α→Rat)(l:List α):List α := l.foldl (fun acc x=>j0Z key x acc) []
theorem l0z (key : α→Rat)(x : α)(l:List α):(j0Z key x l).Perm (l ++ [x]):=by
 unfold j0Z;have h1:((l.reverse.dropWhile fun e=>decide (key e<key x)).reverse++(l.reverse.takeWhile fun e=>decide (key e<key x)).reverse)=l:=by
  rw[← List.reverse_append,List.takeWhile_append_dropWhile,List.reverse_reverse]
 have h2:=List.perm_middle (a:=x) (l₁ := (l.reverse.dropWhile fun e=>decide (key e<key x)).reverse) (l₂ := (l.reverse.takeWhile fun e=>decide (key e<key x)).reverse);rw[h1]at h2;exact h2.trans (List.perm_append_singleton x l).symm
theorem f0u (key : α→Rat):∀ (w acc:List α),(w.foldl (fun acc x=>j0Z key x acc) acc).Perm (acc++w)
 | [],acc=>by simp
 | x::r,acc=>by
  rw[List.foldl_cons];refine (f0u key r _).trans ?_;have:=(l0z key x acc).append_right r;simpa using this
theorem a0I (key : α→Rat)(l:List α):(a0r key l).Perm l:=by
 have:=f0u key l [];simpa[a0r]using this
theorem l0A {key : α→Rat}{x : α}{l:List α}(h:l.Pairwise (fun a b=>key b≤key a)):(j0Z key x l).Pairwise (fun a b=>key b≤key a):=by
 unfold j0Z;have hr:l.reverse.Pairwise (fun a b=>key a≤key b):=by rw[List.pairwise_reverse];exact h
 have e:=List.takeWhile_append_dropWhile (p:=fun e=>decide (key e<key x)) (l:=l.reverse);obtain⟨T,hT⟩:∃ T,(l.reverse.takeWhile fun e=>decide (key e<key x))=T:=⟨_,rfl⟩;obtain⟨D,hD⟩:∃ D,(l.reverse.dropWhile fun e=>decide (key e<key x))=D:=⟨_,rfl⟩;rw[hT,hD]at e ⊢;rw[← e,List.pairwise_append]at hr;have ht:∀ a∈T,key a<key x:=fun a ha=>by
  have:=List.all_takeWhile (p:=fun e=>decide (key e<key x)) (l:=l.reverse);rw[hT,List.all_eq_true]at this;simpa using this a ha
 have hd:∀ a∈D,key x≤key a:=by
  cases D with
  | nil=>simp
  | cons d r=>
   have h0:¬ key d<key x:=by
    intro hlt;have:=List.head?_dropWhile_not (p:=fun e=>decide (key e<key x)) (l:=l.reverse);rw[hD]at this;simp[hlt]at this
   intro a ha;rcases List.mem_cons.1 ha with rfl | ha
   ·grind
   ·have:=(List.pairwise_cons.1 hr.2.1).1 a ha
    grind
 rw[List.pairwise_append,List.pairwise_cons,List.pairwise_reverse,List.pairwise_reverse];refine⟨hr.2.1,⟨fun a ha=>?_,hr.1⟩,fun a ha b hb=>?_⟩
 ·have:=ht a (List.mem_reverse.1 ha)
  grind
 ·rcases List.mem_cons.1 hb with rfl | hb
  ·exact hd a (List.mem_reverse.1 ha)
  ·exact hr.2.2 b (List.mem_reverse.1 hb) a (List.mem_reverse.1 ha)
theorem f0v (key : α→Rat)(l:List α):(a0r key l).Pairwise (fun a b=>key b≤key a):=by
 have:∀ (w acc:List α),acc.Pairwise (fun a b=>key b≤key a)→(w.foldl (fun acc x=>j0Z key x acc) acc).Pairwise (fun a b=>key b≤key a):=by
  intro w
  induction w with
  | nil=>intro acc h;exact h
  | cons x r ih=>intro acc h;exact ih _ (l0A h)
 exact this l [] List.Pairwise.nil
def fpt (q:Rat):Rat:=q-(q.floor:Rat)
theorem l0G (q:Rat):0≤fpt q:=by have:=Rat.floor_le q;unfold fpt;grind
theorem o0r (q:Rat):fpt q<1:=by have:=Rat.lt_floor (x:=q);unfold fpt;grind
def rdO (v:List Rat)(m:Nat):List Nat:=(a0r (fun i=>fpt (v.getD i 0)) (List.range v.length)).take m
def rdL (v:List Rat)(m:Nat):List Int:=(List.range v.length).map fun i=>(v.getD i 0).floor+if i∈rdO v m then 1 else 0
theorem q0T (v:List Rat)(m:Nat):(rdO v m).Nodup:=by
 have:(a0r (fun i=>fpt (v.getD i 0)) (List.range v.length)).Nodup:=(a0I _ _).nodup_iff.2 List.nodup_range;exact this.sublist (List.take_sublist _ _)
theorem p0d {v:List Rat}{m:Nat}(h:m≤v.length):(rdO v m).length=m:=by
 unfold rdO;rw[List.length_take,(a0I _ _).length_eq,List.length_range];omega
end Go.Proofs.YtlimaehdmcnjaaaGreatDoor
namespace Go.Proofs.YtlimaehdmcnjaaaGreatDoor
open Go.RowKit
open Go.Lib (decDigits nDigits)
def cW (s:ByteArray):ByteArray:=⟨(Lib.cut s.data.toList [47]).1.toArray⟩
def cB (s:ByteArray):ByteArray:=⟨(Lib.cut s.data.toList [47]).2.1.toArray⟩
def cS (s:ByteArray):Bool:=(Lib.cut s.data.toList [47]).2.2
def iM (s:ByteArray):Bool:=Lib.hasPrefix s.data.toList [45]
def iD (s:ByteArray):ByteArray:=⟨(Lib.trimPrefix s.data.toList [45]).toArray⟩
def fB (s:ByteArray):Bool:=c0c s.data.toList
def bN (s:ByteArray):Nat:=dv s.data.toList
def iB (s:ByteArray):Bool:=fB (iD s) && !(iM s && decide (iD s=⟨#[48]⟩))
def qD (s:ByteArray):ByteArray:=if cS s=true then cB s else ⟨#[49]⟩
def qB (s:ByteArray):Bool:=iB (cW s) && (!cS s || (decide (iD (cW s)≠⟨#[48]⟩) && fB (cB s) && decide (cB s≠⟨#[48]⟩) && decide (cB s≠⟨#[49]⟩)))
def qL (s:ByteArray):Bool:=decide (4000<(iD (cW s)).size) || decide (4000<(qD s).size)
def qG (s:ByteArray):Bool:=cS s && !decide (Nat.gcd (bN (iD (cW s))) (bN (qD s))=1)
def qE (s:ByteArray):Int:=if qB s=false then 3 else if qL s=true then 5 else if qG s=true then 3 else 0
theorem n0R {l:List UInt8}(h:allDig l){L:Nat}(hl:l.length≤9*L):(limbs (dv l)).length≤L:=by
 refine a0e.2 (Nat.lt_of_lt_of_le (p0W h) ?_);refine Nat.le_trans (Nat.pow_le_pow_right (by omega) hl) ?_;rw[show (1000000000:Nat)=10 ^ 9 by rfl,← Nat.pow_mul];exact Nat.le_refl _
theorem f0t {s:ByteArray}(h:fB s=true):allDig s.data.toList:=(b0F.1 h).2.2
theorem g0c {s:ByteArray}(h:iB s=true):fB (iD s)=true:=by
 unfold iB at h;simp only[Bool.and_eq_true]at h;exact h.1
theorem d0f {s:ByteArray}(h:qB s=true):iB (cW s)=true:=by
 unfold qB at h;simp only[Bool.and_eq_true]at h;exact h.1
theorem n0k {s:ByteArray}(h:qB s=true):fB (qD s)=true:=by
 unfold qB at h;simp only[Bool.and_eq_true,Bool.or_eq_true,Bool.not_eq_true']at h;unfold qD;rcases h.2 with h2 | h2
 ·rw[h2];rfl
 ·split
  ·exact h2.1.1.2
  ·rfl
theorem r0W {s:ByteArray}(h1:qB s=true)(h2:qL s=false)(h3:qG s=false):qE s=0:=by simp[qE,h1,h2,h3]
theorem p0l {s:ByteArray}(h:qE s=0):qB s=true∧qL s=false∧qG s=false:=by
 unfold qE at h;cases h1:qB s<;>cases h2:qL s<;>cases h3:qG s<;>simp[h1,h2,h3]at h ⊢
theorem m0p (s:ByteArray):(cW s).size≤s.size:=by
 have e:s.data.toList.length=s.size:=Array.length_toList;unfold cW Lib.cut
 split<;>simp only[ByteArray.size,List.size_toArray,List.length_take]<;>(simp only[ByteArray.size]at e;omega)
theorem m0q (s:ByteArray):(cB s).size≤s.size:=by
 have e:s.data.toList.length=s.size:=Array.length_toList;unfold cB Lib.cut
 split
 ·simp only[ByteArray.size,List.size_toArray,List.length_drop];simp only[ByteArray.size]at e;omega
 ·exact Nat.zero_le _
theorem p0H (s:ByteArray):(iD s).size≤s.size:=by
 have e:s.data.toList.length=s.size:=Array.length_toList;unfold iD Lib.trimPrefix
 split<;>simp only[ByteArray.size,List.size_toArray,List.length_drop]<;>(simp only[ByteArray.size]at e;omega)
def m0E (n:Nat):Value:=.string ⟨(decDigits n).toArray⟩
theorem m0X {a b:Value}{x y:Int}{k:IntKind}(h1:a=b)(h2:x=y):Ending.returned (.tuple #[a,.int k x])=.returned (.tuple #[b,.int k y]):=by rw[h1,h2]
def b0h (n:Nat):ByteArray:=⟨(decDigits n).toArray⟩
theorem b0j (n:Nat):m0E n=.string (b0h n):=rfl
theorem a0P (n:Nat):(b0h n).size=nDigits n:=by
 unfold b0h ByteArray.size;simp[Go.Lib.decDigits_length]
theorem a0D (n:Nat):(b0h n).data.toList=decDigits n:=by simp[b0h]
def q0l (s t:List UInt8):Int:=if c0m s=0∧c0m t=0 then b0e (dv s) (dv t) else 0
end Go.Proofs.YtlimaehdmcnjaaaGreatDoor
