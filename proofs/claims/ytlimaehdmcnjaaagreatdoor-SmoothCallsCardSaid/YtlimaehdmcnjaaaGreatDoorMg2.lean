/- Texts that the proof rests on, merged: L14, G1, R1a, L1, Seq, L6, L12, Last, L13, L15, L2, L3, L4, L7, N3, Coin, Tx. -/
import Derived.Test.YtlimaehdmcnjaaaGreatDoorMg1
import Derived.OwnWalk
import Derived.Test.YtlimaehdmcnjaaaGreatDoorProg
import Derived.Outline
import Derived.Deep.OwnRows
import Derived.IntWalk
import Derived.RangeFuncNested
import Derived.RangeFuncBound
import Derived.RangeFuncCalls
import Derived.RangeFuncLeaves
import Derived.Sort.BigQuietIn
import Derived.RangeFuncBox
import Derived.Shelf.Abstract
import Derived.Shelf.RegionOpen
import Derived.OwnWalkIn
import Derived.TacticsInMore
import Derived.LoopNIn
import Derived.LoopIn
import Derived.Orders
import Derived.WalkKit
import Derived.OrdersHeld
import Derived.Lib.JoinLaws
set_option linter.unusedVariables false
set_option linter.unusedSimpArgs false
set_option linter.unusedSectionVars false
set_option maxRecDepth 100000
set_option maxHeartbeats 8000000
namespace Go.Proofs.YtlimaehdmcnjaaaGreatDoor
open Go.RowKit
open Go.Shelf
open Go.Lib
def r0O:List UInt8:=[48,49,50,51,52,53,54,55,56,57]
theorem i0G (b:UInt8):r0O.contains b=e0X b:=by
 rw[Bool.eq_iff_iff,List.contains_iff_mem,a0E];simp only[r0O,List.mem_cons,← UInt8.toNat_inj,List.not_mem_nil,or_false];simp;omega
theorem m0H {l cs:List UInt8}:trimS l cs = [] ↔ ∀ b∈l,cs.contains b=true:=by
 have key:∀ m:List UInt8,m.dropWhile (cs.contains ·) = [] ↔ ∀ b∈m,cs.contains b=true:=by
  intro m
  induction m with
  | nil=>simp
  | cons x r ih=>
   by_cases hx:cs.contains x=true
   ·rw[List.dropWhile_cons_of_pos hx,ih];simp at hx;simp[hx]
   ·rw[List.dropWhile_cons_of_neg hx];simp at hx;simp[hx]
 unfold trimS trimLeftS trimRightS;rw[key]
 constructor
 ·intro h;have h2:l.reverse.dropWhile (cs.contains ·) = []:=by
   cases hm:l.reverse.dropWhile (cs.contains ·) with
   | nil=>rfl
   | cons x r=>
    exfalso
    have hx:cs.contains x=true:=h x (by rw[hm];simp);have:=List.head?_dropWhile_not (cs.contains ·) l.reverse;rw[hm]at this;simp only[List.head?_cons]at this;rw[hx]at this;cases this
  rw[key]at h2;exact fun b hb=>h2 b (List.mem_reverse.2 hb)
 ·intro h b hb;have:b∈l.reverse:=by
   have hs:=List.dropWhile_sublist (l:=l.reverse) (cs.contains ·);exact hs.subset (List.mem_reverse.1 hb)
  exact h b (List.mem_reverse.1 this)
theorem g0V {b:UInt8}{r:List UInt8}(h:¬ (b=48∧r ≠ [])):c0c (b::r)=(trimS (b::r) r0O).isEmpty:=by
 have e:(trimS (b::r) r0O).isEmpty=(b::r).all e0X:=by
  rw[Bool.eq_iff_iff,List.isEmpty_iff,m0H,List.all_eq_true];exact⟨fun h x hx=>(i0G x) ▸ h x hx,fun h x hx=>(i0G x).symm ▸ h x hx⟩
 rw[e,c0c];have:((b::r) == [48] || (b::r).head? != some 48)=true:=by
  by_cases hb:b=48
  ·have hr:r = []:=Decidable.byContradiction fun hr=>h ⟨hb,hr⟩
   subst hb;subst hr;rfl
  ·simp[hb]
 rw[this];simp
theorem l0H {c:UInt8}{r:List UInt8}:c0c (48::c::r)=false:=by simp[c0c]
theorem j0S:∀ (j:Nat) b,(⟨#[48,49,50,51,52,53,54,55,56,57]⟩:ByteArray).data.toList[j]?=some b→b.toNat<128:=ascii_of_all (by decide)
theorem r0t (w:World)(s:ByteArray)(hs:s.size≤100000000):
 Calls Tryz.prog 130 #[.string s] w fun e w'=>e=.returned (.bool (c0c s.data.toList))∧Below w.heap.size w w':=by
 obtain⟨⟨l⟩⟩:=s;simp only[ByteArray.size,List.size_toArray]at hs;cases l with
 | nil=>
  go_enter Tryz.func130,Tryz.ntmps130;go_wp2_with fail;go_ret
  exact⟨rfl,Below.refl _ _⟩
 | cons b r=>
  have hix:(ByteArray.mk ⟨b::r⟩)[0]'(by simp[ByteArray.size])=b:=rfl;have htr:=fun w=>Tryz.strings_Trim ⟨⟨b::r⟩⟩ ⟨#[48,49,50,51,52,53,54,55,56,57]⟩ w (by simp only[ByteArray.size,List.size_toArray];omega) (by decide) j0S
  have HTR:=hid htr;clear htr;by_cases hb:b=48
  ·cases r with
   | nil=>
    subst hb;go_enter Tryz.func130,Tryz.ntmps130
    go_wp2_with (first
     | (go_at_call 170;refine (HTR.out _).mono ?_;rintro e w' ⟨rfl,hbw⟩)
     | fail)
    go_ret
    refine⟨?_,hbw⟩;rw[g0V (by simp)]
    rfl
   | cons c r=>
    subst hb;go_enter Tryz.func130,Tryz.ntmps130;go_wp2_with fail;go_ret
    refine⟨?_,Below.refl _ _⟩;rw[l0H]
    rfl
  ·have hb1:(b==48)=false:=by simpa using hb
   have hb2:¬ ((b.toNat:Int)=48):=fun e=>hb (by apply UInt8.toNat_inj.1;simp;omega)
   have hb3:((b.toNat:Int) != 48)=true:=by simpa using hb2
   go_enter Tryz.func130,Tryz.ntmps130
   go_wp2_with (first
    | (go_at_call 170;refine (HTR.out _).mono ?_;rintro e w' ⟨rfl,hbw⟩)
    | fail)
   go_ret
   refine⟨?_,hbw⟩;rw[g0V (by simp[hb])]
   rfl
end Go.Proofs.YtlimaehdmcnjaaaGreatDoor
namespace Go.Proofs.YtlimaehdmcnjaaaGreatDoor
open Go.RowKit
open Go.Shelf
theorem a0Z {d:ByteArray}{l:List UInt8}(h:¬ d=⟨l.toArray⟩):(d.toList==l)=false:=by
 rw[beq_eq_false_iff_ne];intro e;apply h
 have e2:d.data.toList=l:=by rw[← e];exact (Lib.toList_data d).symm
 apply ByteArray.ext
 rw[← e2]
theorem o0n (w:World)(s:ByteArray)(hs:s.size≤100000000):
 Calls Tryz.prog 130 #[.string s] w fun e w'=>e=.returned (.bool (fB s))∧Below w.heap.size w w':=r0t w s hs
theorem r0p (w:World)(s:ByteArray):
 Calls Tryz.prog 169 #[.string s,.string ⟨#[45]⟩] w fun e w'=>e=.returned (.tuple #[.string (iD s),.bool (iM s)])∧w'=w:=Tryz.strings_CutPrefix s ⟨#[45]⟩ w
theorem l0N (w:World)(s:ByteArray)(hs:s.size≤100000000):
 Calls Tryz.prog 129 #[.string s] w fun e w'=>e=.returned (.tuple #[.bool (iM s),.string (iD s),.bool (iB s)])∧Below w.heap.size w w':=by
 have HI:=hid (show iB s=(fB (iD s) && !(iM s && decide (iD s=⟨#[48]⟩))) from rfl);have hsz:=p0H s;obtain⟨m,hm⟩:∃ m,iM s=m:=⟨_,rfl⟩;obtain⟨d,hd⟩:∃ d,iD s=d:=⟨_,rfl⟩;obtain⟨f,hf⟩:∃ f,fB d=f:=⟨_,rfl⟩;rw[hm,hd,hf]at HI;rw[HI.out,hm,hd];rw[hd]at hsz;have HC:=hid (r0p w s);rw[hm,hd]at HC;have HF:=fun W=>hid (o0n W d (by omega))
 rw[hf]at HF;clear HI hm hd hf;have run:∀ r:Bool,(f && !(m && decide (d=⟨#[48]⟩)))=r→Calls Tryz.prog 129 #[.string s] w fun e w'=>e=.returned (.tuple #[.bool m,.string d,.bool r])∧Below w.heap.size w w':=by
  intro r hr;rcases Decidable.em (d=⟨#[48]⟩) with rfl | h0
  ·simp only[decide_true,Bool.and_true]at hr;subst hr;cases f<;>cases m
   all_goals
    go_enter Tryz.func129,Tryz.ntmps129
    go_wp2_with (first
     | (go_at_call 169;refine HC.out.mono ?_;rintro e w' ⟨rfl,rfl⟩)
     | (go_at_call 130;refine (HF _).out.mono ?_;rintro e w' ⟨rfl,hbw⟩)
     | fail)
    go_ret3
    exact⟨rfl,hbw⟩
  have h48:=a0Z (l:=[48]) h0;simp only[h0,decide_false,Bool.and_false,Bool.not_false,Bool.and_true]at hr;subst hr;cases f<;>cases m
  all_goals
   go_enter Tryz.func129,Tryz.ntmps129
   go_wp2_with (first
    | (go_at_call 169;refine HC.out.mono ?_;rintro e w' ⟨rfl,rfl⟩)
    | (go_at_call 130;refine (HF _).out.mono ?_;rintro e w' ⟨rfl,hbw⟩)
    | fail)
   go_ret3
   exact⟨rfl,hbw⟩
 exact run _ rfl
end Go.Proofs.YtlimaehdmcnjaaaGreatDoor
namespace Go.Proofs.YtlimaehdmcnjaaaGreatDoor
open Go.RowKit
def g0l (k:IntKind)(n:Nat)(e:Ending)(w':World):Prop:=∃ v,e=.returned v∧IsN k w' v n
def q0t (k:IntKind)(a:Option Addr)(c n:Nat)(e:Ending)(w':World):Prop:=∃ m,e=.returned (.slice a m c)∧IsN k w' (.slice a m c) n
def m0B (k:IntKind)(q r:Nat)(e:Ending)(w':World):Prop:=∃ v u,e=.returned (.tuple #[v,u])∧IsN k w' v q∧IsN k w' u r
theorem e0e:(Tryz.prog.info? 3).map (fun i=>(i.zero,i.size,i.bytes))=some (some (.int .i64 0),1,8):=by kernel_rfl
theorem d0X {k:IntKind}{w:World}{a:Option Addr}{n c m:Nat}{l:List Nat}(h:Row w (.slice a n c) (ints k l))(hs:Sm l)(hm:m≤l.length)(hz:∀ j x,m≤j→l[j]?=some x→x=0)(hl:∀ x,0<m→l[m-1]?=some x→x≠0):
 IsN k w (.slice a m c) (val l):=by
 have hn:=h.len;rw[ints_length]at hn;have:=h.cut (m:=m) (by omega);rw[c0k,f0m hs hm hz hl]at this;exact this
theorem b0R (w:World)(a:Option Addr)(c:Nat)(l:List Nat)(hs:Sm l)(h:Row w (.slice a l.length c) (ints .i64 l)):
 Calls Tryz.prog 122 #[.slice a l.length c] w fun e w'=>q0t .i64 a c (val l) e w'∧w=w':=by
 obtain⟨a',c',e,h1,h2,h3⟩:=h.openI;simp at e;obtain⟨rfl,rfl⟩:=e;have H:=hid h;have H3:=hid h3;have HS:=hid hs;clear h h3 hs;go_enter Tryz.func122,Tryz.ntmps122;go_wp2_with fail
 go_loop [0] (fun u=>∃ m:Nat,m≤l.length∧u=.slice a m c∧Hid (∀ j x,m≤j→l[j]?=some x→x=0)) (fun u=>match u with | .slice _ m _=>m | _=>0)
 case atStart=>exact⟨l.length,Nat.le_refl _,rfl,fun j x hj hx=>by have:=(List.getElem?_eq_some_iff.1 hx).1;omega⟩
 case round=>
  obtain⟨m,hm,rfl,hz⟩:=hrel;rcases Nat.eq_zero_or_pos m with h0 | h0
  ·subst h0;go_wp2_with fail;go_ret
   exact⟨⟨_,rfl,d0X H.out HS.out hm hz.out (fun x h=>absurd h (by omega))⟩,rfl⟩
  ·obtain⟨x,hx⟩:∃ x,l[m-1]?=some x:=⟨_,List.getElem?_eq_getElem (by omega)⟩;obtain⟨g,o,rfl,hg,hc⟩:=H3.out (m-1) _ hx;have HX:=hid hx;clear hx;rcases Nat.eq_zero_or_pos x with hx0 | hx0
   ·have hb:((x:Int)==0)=true:=by simp[hx0]
    have HX0:=hid hx0;clear hx0;go_wp2_with fail;go_round
    case rel=>
     exact⟨m-1,by omega,by go_num,fun j y hj hy=>by
      by_cases e:j=m-1
      ·subst e;have:=HX.out;rw[hy]at this;cases this;exact HX0.out
      ·exact hz.out j y (by omega) hy⟩
    case measure=>simp;omega
   ·have hb:((x:Int)==0)=false:=by simp;omega
    go_wp2_with fail;go_ret
    exact⟨⟨_,rfl,d0X H.out HS.out hm hz.out (fun y _ hy=>by have:=HX.out;rw[hy]at this;cases this;omega)⟩,rfl⟩
theorem h0v (w:World)(v:Value)(l:List Nat)(hs:Sm l)(h:Row w v (ints .i64 l)):
 Calls Tryz.prog 122 #[v] w fun e w'=>g0l .i64 (val l) e w'∧w=w':=by
 obtain⟨a,c,rfl,h1,h2,h3⟩:=h.openI;exact (b0R w a c l hs h).mono fun e w' ⟨⟨m,he,hi⟩,hw⟩=>⟨⟨_,he,hi⟩,hw⟩
def RetFr (B:Nat)(k:IntKind)(n:Nat)(e:Ending)(w':World):Prop:=∃ v,e=.returned v∧IsN k w' v n∧∀ g,v.ownBlock=some g→B≤g
theorem RetFr.ret {B:Nat}{k:IntKind}{n:Nat}{e:Ending}{w':World}(h:RetFr B k n e w'):g0l k n e w':=by
 obtain⟨v,h1,h2,-⟩:=h;exact⟨v,h1,h2⟩
theorem d0o:(Tryz.prog.info? 122).map (fun i=>(i.zero,i.size,i.bytes))=some (some (.int .u64 0),1,8):=by kernel_rfl
theorem e0b (n:Nat)(hn:n≤3000000)(W:World):(Instr.makeSlice 55 (.int .i64 (n:Int)) (.int .i64 (n:Int))).run Tryz.prog W=.ok (.slice (some ⟨W.heap.size,0,none⟩) n n) (W.alloc (.cells (madeCells #[.int .u64 0] n) 122)):=
 run_make_row' (P:=Tryz.prog) 55 122 (.int .u64 0) 8 Tryz.underlying55 (by kernel_rfl) rfl .i64 .i64 n (by omega) (by omega) W
theorem g0Q (w:World)(a:Option Addr)(c:Nat)(l:List Nat)(hs:Sm l)(h:Row w (.slice a l.length c) (ints .u64 l)):
 Calls Tryz.prog 143 #[.slice a l.length c] w fun e w'=>q0t .u64 a c (val l) e w'∧w=w':=by
 obtain⟨a',c',e,h1,h2,h3⟩:=h.openI;simp at e;obtain⟨rfl,rfl⟩:=e;have H:=hid h;have H3:=hid h3;have HS:=hid hs;clear h h3 hs;go_enter Tryz.func143,Tryz.ntmps143;go_wp2_with fail
 go_loop [0] (fun u=>∃ m:Nat,m≤l.length∧u=.slice a m c∧Hid (∀ j x,m≤j→l[j]?=some x→x=0)) (fun u=>match u with | .slice _ m _=>m | _=>0)
 case atStart=>exact⟨l.length,Nat.le_refl _,rfl,fun j x hj hx=>by have:=(List.getElem?_eq_some_iff.1 hx).1;omega⟩
 case round=>
  obtain⟨m,hm,rfl,hz⟩:=hrel;rcases Nat.eq_zero_or_pos m with h0 | h0
  ·subst h0;go_wp2_with fail;go_ret
   exact⟨⟨_,rfl,d0X H.out HS.out hm hz.out (fun x h=>absurd h (by omega))⟩,rfl⟩
  ·obtain⟨x,hx⟩:∃ x,l[m-1]?=some x:=⟨_,List.getElem?_eq_getElem (by omega)⟩;obtain⟨g,o,rfl,hg,hc⟩:=H3.out (m-1) _ hx;have HX:=hid hx;clear hx;rcases Nat.eq_zero_or_pos x with hx0 | hx0
   ·have hb:((x:Int)==0)=true:=by simp[hx0]
    have HX0:=hid hx0;clear hx0;go_wp2_with fail;go_round
    case rel=>
     exact⟨m-1,by omega,by go_num,fun j y hj hy=>by
      by_cases e:j=m-1
      ·subst e;have:=HX.out;rw[hy]at this;cases this;exact HX0.out
      ·exact hz.out j y (by omega) hy⟩
    case measure=>simp;omega
   ·have hb:((x:Int)==0)=false:=by simp;omega
    go_wp2_with fail;go_ret
    exact⟨⟨_,rfl,d0X H.out HS.out hm hz.out (fun y _ hy=>by have:=HX.out;rw[hy]at this;cases this;omega)⟩,rfl⟩
theorem o0m (w:World)(v:Value)(l:List Nat)(hs:Sm l)(h:Row w v (ints .u64 l)):
 Calls Tryz.prog 143 #[v] w fun e w'=>g0l .u64 (val l) e w'∧w=w':=by
 obtain⟨a,c,rfl,h1,h2,h3⟩:=h.openI;exact (g0Q w a c l hs h).mono fun e w' ⟨⟨m,he,hi⟩,hw⟩=>⟨⟨_,he,hi⟩,hw⟩
theorem o0E (l:List Nat):∃ m,m≤l.length∧(∀ j x,m≤j→l[j]?=some x→x=0)∧(∀ x,0<m→l[m-1]?=some x→x≠0):=by
 suffices H:∀ k,k≤l.length→(∀ j x,k≤j→l[j]?=some x→x=0)→∃ m,m≤l.length∧(∀ j x,m≤j→l[j]?=some x→x=0)∧(∀ x,0<m→l[m-1]?=some x→x≠0) from
  H l.length (Nat.le_refl _) (fun j x hj hx=>by have:=(List.getElem?_eq_some_iff.1 hx).1;omega)
 intro k
 induction k with
 | zero=>exact fun _ h=>⟨0,Nat.zero_le _,h,fun x h0=>absurd h0 (by omega)⟩
 | succ k ih=>
  intro hk h;by_cases h0:l[k]?=some 0
  ·refine ih (by omega) (fun j x hj hx=>?_);by_cases e:j=k
   ·subst e;rw[h0]at hx;cases hx;rfl
   ·exact h j x (by omega) hx
  ·exact⟨k+1,hk,h,fun x _ hx e=>h0 (by simpa[e]using hx)⟩
theorem f0c {l:List Nat}(hs:Sm l):(limbs (val l)).length≤l.length∧l.take (limbs (val l)).length=limbs (val l):=by
 obtain⟨m,h1,h2,h3⟩:=o0E l;have h:=f0m hs h1 h2 h3;have hm:(limbs (val l)).length=m:=by rw[← h,List.length_take_of_le h1]
 rw[hm];exact⟨h1,h⟩
theorem f0C {k:IntKind}{w:World}{a:Option Addr}{c:Nat}{l:List Nat}(hs:Sm l)(h:Row w (.slice a l.length c) (ints k l)):IsN k w (.slice a (limbs (val l)).length c) (val l):=by
 obtain⟨h1,h2⟩:=f0c hs;have:=h.cut h1;rw[c0k,h2]at this;exact this
theorem d0l (w:World)(a:Option Addr)(c:Nat)(l:List Nat)(hs:Sm l)(h:Row w (.slice a l.length c) (ints .u64 l)):
 Calls Tryz.prog 143 #[.slice a l.length c] w fun e w'=>e=.returned (.slice a (limbs (val l)).length c)∧w'=w:=
 (g0Q w a c l hs h).mono fun e w' ⟨⟨m,he,hi⟩,hw⟩=>⟨by rw[he];have:=hi.len.1;rw[ints_length]at this;rw[this],hw.symm⟩
theorem h0M {n m:Nat}{s:List Nat}(h:limbs n=s++limbs m)(hm:0<m):limbs n=(s ++ [m%1000000000])++limbs (m / 1000000000):=by
 rw[h,b0a hm,List.append_assoc];rfl
theorem r0r (w:World)(n:Nat)(hn:n<18446744073709551616):Calls Tryz.prog 97 #[.int .u64 n] w fun e w'=>g0l .u64 n e w'∧Below w.heap.size w w':=by
 obtain⟨i0,hi,hz0,hz1,hz2⟩:=info_parts d0o;have HN:=hid hn;have hn2:(n:Int)≤18446744073709551615:=by omega
 clear hn;go_enter Tryz.func97,Tryz.ntmps97;go_wp2_with fail
 go_loopw [0,3] (fun nn o wr=>∃ (s:List Nat) (m:Nat),nn=.int .u64 m∧s.length≤3∧m≤n∧Hid (m=0∨s.length=0∨(s.length=1∧m<18446744074)∨(s.length=2∧m<19))∧Hid (limbs n=s++limbs m)∧Hid (wr.ownsRow w.heap.size 122 1 o s.length (ints .u64 s))∧Hid (Below w.heap.size w wr)) (fun nn _ _=>(intOf nn).toNat)
 case atStart=>exact⟨[],n,rfl,by simp,Nat.le_refl _,.inr (.inl rfl),rfl,World.ownsRow_nil _ _ _ _,Below.refl _ _⟩
 case round=>
  obtain⟨s,m,rfl,hs,hmn,hc,hl,hO,hB⟩:=hrel;obtain⟨ao,co,rfl⟩:=a0t hO.out;rcases Nat.eq_zero_or_pos m with h0 | h0
  ·subst h0;go_wp2_with fail;go_ret
   exact⟨⟨_,rfl,c0u hO.out (by have:=hl.out;rw[limbs_zero,List.append_nil]at this;exact this.symm)⟩,hB.out⟩
  ·have HL:=hid (h0M hl.out h0);have hs2:s.length≤2:=by rcases hc.out with h | h | h | h<;>omega
   have HC:=hid (show m / 1000000000=0∨(s ++ [m%1000000000]).length=0∨((s ++ [m%1000000000]).length=1∧m / 1000000000<18446744074)∨((s ++ [m%1000000000]).length=2∧m / 1000000000<19) from by
    have:=HN.out;rw[List.length_append,List.length_singleton];rcases hc.out with h | h | h | h<;>omega)
   have q0:decide ((0:Int)<(m:Int))=true:=by simp;omega
   go_wp2_with (at_builtin;refine wpList_append_own _ rfl _ _ 55 rfl w.heap.size 122 i0 (.int .u64 0) 1 8 Tryz.underlying55 hi hz0 hz1 hz2 rfl (by decide) _ s.length _ rfl (hO.out.alloc _) ⟨wr.heap.size,0,none⟩ 1 1 [.int .u64 ((m:Int)%1000000000)] rfl rfl (cell_one_new wr (.int .u64 ((m:Int)%1000000000)) 122) (by simp[Value.oneCell']) (by unfold maxLen;omega) (by omega) (by have:=hB.out.size;simp;omega) ?_;intro v' w3 hown3 hgrow3 _;have HO3:=hid hown3;have HG3:=hid hgrow3;clear hown3 hgrow3)
   obtain⟨n1,n2⟩:=a0y (z:=m%1000000000) hO.out hB.out HO3.out HG3.out;have N1:=hid n1;have N2:=hid n2;clear n1 n2 HO3 HG3;obtain⟨a3,k3,rfl⟩:=a0t N1.out;go_wp2_with fail;go_roundw
   case rel=>exact⟨s ++ [m%1000000000],m / 1000000000,by go_num,by simp<;>omega,by omega,HC,HL,N1,N2⟩
   case measure=>simp[intOf]<;>omega
def r0J {α : Type}(n:Nat)(P:Program)(g:Nat)(lb:Array Value)(encs : α→Array Value)(Kp:World→World→Prop)(Ok:List α→α→Prop)(S Sp:List α→Prop)(w:World):Prop:=
 ∀ (l:Nat) (J Jx:List α→World→Prop) (W:World),Below w.heap.size w W→AbidesFrom W.heap.size J→AbidesFrom W.heap.size Jx →
  (∀ pre x W1,Ok pre x→J pre W1→YieldAt Fence.wide (n-1) P l (encs x) W1 fun e W2=>
   (e=.returned (.bool true)∧J (pre ++ [x]) W2∧Kp W1 W2)∨(e=.returned (.bool false)∧Jx (pre ++ [x]) W2)) →
  J [] W →
  CallsIn Fence.wide n P g (#[.func (.yield l) #[] #[]]++lb) W fun e W2=>(∃ v,e=.returned v)∧((∃ xs,S xs∧J xs W2)∨(∃ pre,Sp pre∧Jx pre W2))
structure Kept (D:Nat)(r:Loop)(W:World):Prop where
 loop:W.heap[D+1]?=some (.loop r)
 calls:W.heap[D]?=some (.deferred (some []))
theorem Kept.cells {D:Nat}{r:Loop}{W W2:World}{row:Option Nat}(h:Kept D r W)(hg:W.grownBy W2 row)(hr:∀ k,row=some k→∃ o:Obj,W.heap[k]?=some o∧o.isWalk=true):Kept D r W2:=
 ⟨(grownBy_keeps hg hr h.loop rfl).trans h.loop,(grownBy_keeps hg hr h.calls rfl).trans h.calls⟩
theorem Kept.put {D:Nat}{r:Loop}{W:World}(h:Kept D r W)(r2:Loop):Kept D r2 (W.putObj (D+1) (.loop r2)):=
 ⟨World.putObj_heap_same (Array.getElem?_eq_some_iff.1 h.loop).1,(World.putObj_heap_other (by omega)).trans h.calls⟩
theorem Kept.from {B D:Nat}{r:Loop}{W W2:World}(h:Kept D r W)(k:KeepsFrom B W W2)(hB:B≤D):Kept D r W2:=
 ⟨k.same _ _ (by omega) h.loop rfl,k.same _ _ hB h.calls rfl⟩
theorem c0L {β : Type}{B D:Nat}{I : β→World→Prop}(hI:OwnFrom B I){r:Loop}{s : β}{W:World}(h:Kept D r W)(hB:B≤D)(hs:I s W)(o:Obj):I s (W.putObj (D+1) o):=
 hI.putObj o hs (by omega) h.loop rfl
theorem d0Z {α : Type}{P:Program}{n:Nat}{g:Operand}{ps:Array Tmp}{assign body:Code}{Q:Exit→Act→World→Prop}{a:Act}{w:World}(h1:1≤n)
 {gf:Nat} {lb:Array Value} (hg:a.eval g=.func (.func gf) #[] lb) (eg:∀ args w,(callFunc gf args).run P w=.ok (.enter gf args) w)
 {encs : α→Array Value} {Kp:World→World→Prop} {Ok:List α→α→Prop} {S Sp:List α→Prop} {w0:World} (hseq:r0J (n-1) P gf lb encs Kp Ok S Sp w0)
 (hKt:∀ {A B C:World},Kp A B→Kp B C→Kp A C) (hKb:∀ (W:World) (l:Nat) (o o2:Obj),w.heap.size≤l→W.heap[l]?=some o→o.isCells=false→o.isWalk=false→Kp W (W.putObj l o2)) (hb0:Below w0.heap.size w0 w) (hps:∀ x,(encs x).size=ps.size)
 (I:List α→World→Prop) (Ix:Code→List α→World→Prop) (hI:OwnFrom w.heap.size I) (hIx:∀ c,OwnFrom w.heap.size (Ix c)) (h0:I [] w) (a1 : α→Act)
 (hassign:∀ (l:Nat) (x : α) (W:World) (K:Act→World→Prop),K (a1 x) W →
  assign.wpIn (Fence.wide.inRound l) (n-1-1) P (Exit.then K (fun _ _ _=>False)) { tmps:=(ps.zip (encs x)).foldl (fun t (p,v)=>t.setIfInBounds p v) a.tmps,defers:=[] } W)
 (hbody:∀ (l:Nat) (pre:List α) (x : α) (W:World),Ok pre x→I pre W→body.wpIn (Fence.wide.inRound l) (n-1-1) P (ownPostG w.heap.size Kp I Ix (pre ++ [x]) W) (a1 x) W)
 (hdone:∀ (D:Nat) (xs:List α) (W:World),w.heap.size≤D→S xs→I xs W→W.heap[D]?=some (.deferred (some []))→Q .normal { a with defers:={ target:=.collected D,args:=#[] } :: a.defers } W)
 (hstop:∀ (D:Nat) (c:Code) (pre:List α) (W:World),w.heap.size≤D→Sp pre→Ix c pre W→W.heap[D]?=some (.deferred (some []))→c.wpIn Fence.wide n P Q { a with defers:={ target:=.collected D,args:=#[] } :: a.defers } W):
 (Code.rangeFunc g ps assign body).wpIn Fence.wide n P Q a w:=by
 refine wpIn_rangeFunc fun fn hfn=>?_
 obtain⟨R,hR⟩:∃ R:LoopState→Option Code→Loop,∀ s p,R s p = { state:=s,pending:=p,fn,tmps:=a.tmps,params:=ps,assign,body,defers:=w.heap.size }:=⟨_,fun _ _=>rfl⟩;have hs:∀ s p,(R s p).state=s:=fun s p=>by rw[hR]
 obtain⟨W1,e1⟩:∃ W1,W1=(w.alloc (.deferred (some []))).alloc (.loop (R .ready none)):=⟨_,rfl⟩;have z1:w.heap.size≤W1.heap.size:=by rw[e1];simp;omega
 have k1:Kept w.heap.size (R .ready none) W1:=by
  rw[e1];refine⟨?_,(Below.heap_alloc _ _ _ (by simp)).trans (World.alloc_heap_new w _)⟩;have:=World.alloc_heap_new (w.alloc (.deferred (some []))) (.loop (R .ready none));rwa[World.size_alloc]at this
 have i1:I [] W1:=by rw[e1];exact hI.alloc _ (hI.alloc _ h0)
 have b1:Below w0.heap.size w0 W1:=by
  have:Below w.heap.size w W1:=by rw[e1];exact ((Below.refl _ w).alloc (Nat.le_refl _) _).alloc (by simp) _
  exact hb0.trans (this.mono hb0.size)
 refine⟨w.heap.size+1,[{ target:=.collected w.heap.size,args:=#[] }],W1,{ target:=.fn (.func gf) lb,args:=#[.func (.yield (w.heap.size+1)) #[] #[]] },W1,gf,#[.func (.yield (w.heap.size+1)) #[] #[]]++lb,W1,?_,?_,fun f hf=>trivial,?_,fun _=>h1,?_⟩
 ·have:=run_enterLoop_outer (P:=P) (w:=w) fn a.tmps ps assign body;rw[e1,hR];exact this
 ·simp only[resolve,hg];simp[go_sem]
 ·simp[invoke,go_sem,eg]
 ·refine (hseq (w.heap.size+1) (fun pre W=>I pre W∧Kept w.heap.size (R .ready none) W) (fun pre W=>∃ c,Ix c pre W∧Kept w.heap.size (R .done (some c)) W) W1 b1
   (fun s A B row hs hg2 hr=>⟨hI s A B row hs.1 hg2 (fun k e=>?_),hs.2.cells hg2 (fun k e=>(hr k e).2)⟩)
   (fun s A B row hs hg2 hr=>?_) (fun pre x W hok hJ=>?_) ⟨i1,k1⟩).mono ?_
  ·obtain⟨h2,o,h3,h4⟩:=hr k e;exact⟨Nat.le_trans z1 h2,o,h3,Obj.not_cells_of_walk h4⟩
  ·obtain⟨c,hc,hk⟩:=hs;refine⟨c,hIx c s A B row hc hg2 (fun k e=>?_),hk.cells hg2 (fun k e=>(hr k e).2)⟩;obtain⟨h2,o,h3,h4⟩:=hr k e;exact⟨Nat.le_trans z1 h2,o,h3,Obj.not_cells_of_walk h4⟩
  ·obtain⟨hi,hk⟩:=hJ;have hy:=run_yield (P:=P) (args:=encs x) hk.loop (by rw[hR];exact hps x);have kb:=hk.put (R .busy none);have bg:=run_beginRound (P:=P) hk.loop (hs _ _);rw[show ({ R .ready none with state:=.busy }:Loop)=R .busy none by rw[hR,hR]]at bg;have kk:Kp W (W.putObj (w.heap.size+1) (.loop (R .busy none))):=hKb _ _ _ _ (by omega) hk.loop rfl rfl;rw[hR]at hy;refine⟨fn,_,assign,body,hy,roundIn_of_wpIn hfn (hassign _ x W _ ⟨_,bg,?_⟩)⟩;refine wpIn_mono (hbody _ pre x _ hok (c0L hI hk (Nat.le_refl _) hi _)) ?_;have fin:∀ (j:Option Code) (W3:World),Kept w.heap.size (R .busy none) W3→(Instr.endRound (w.heap.size+1) j).run P W3=.ok (.bool j.isNone) (W3.putObj (w.heap.size+1) (.loop (R (if j.isNone then .ready else .done) j))):=fun j W3 h3=>by
    have:=run_endRound (P:=P) j h3.loop;rw[this,hR,hR]
   rintro e a3 W3 hp;cases e with
   | normal=>
    obtain⟨p1,p2,p3⟩:=hp;have k3:=kb.from p1 (Nat.le_refl _)
    exact⟨_,_,fin none W3 k3,.inl ⟨rfl,⟨c0L hI k3 (Nat.le_refl _) p3 _,k3.put _⟩,hKt (hKt kk p2) (hKb _ _ _ _ (by omega) k3.loop rfl rfl)⟩⟩
   | ret=>
    have k3:=kb.from hp.1 (Nat.le_refl _)
    exact⟨_,_,fin (some .ret) W3 k3,.inr ⟨rfl,.ret,c0L (hIx _) k3 (Nat.le_refl _) hp.2 _,k3.put _⟩⟩
   | exit id=>
    have k3:=kb.from hp.1 (Nat.le_refl _)
    exact⟨_,_,fin (some (.exit id)) W3 k3,.inr ⟨rfl,.exit id,c0L (hIx _) k3 (Nat.le_refl _) hp.2 _,k3.put _⟩⟩
   | goto t=>
    have k3:=kb.from hp.1 (Nat.le_refl _)
    exact⟨_,_,fin (some (.goto t)) W3 k3,.inr ⟨rfl,.goto t,c0L (hIx _) k3 (Nat.le_refl _) hp.2 _,k3.put _⟩⟩
   | panic ch=>exact hp.elim
   | outgrown=>exact hp.elim
  ·have en:∀ {s p W2},Kept w.heap.size (R s p) W2→s ≠ .busy→(Instr.endLoop (w.heap.size+1)).run P W2=.ok p (W2.putObj (w.heap.size+1) (.loop (R .exhausted p))):=fun {s p W2} h2 hne=>by
    have:=run_endLoop (P:=P) h2.loop (by rw[hs];exact hne);rw[this,hR,hR]
   rintro e W2 ⟨⟨v,rfl⟩,⟨xs,hS,hi,hk⟩ | ⟨pre,hSp,c,hi,hk⟩⟩
   ·exact⟨none,_,en hk (by simp),hdone _ xs _ (Nat.le_refl _) hS (c0L hI hk (Nat.le_refl _) hi _) (hk.put (R .exhausted none)).calls⟩
   ·exact⟨some c,_,en hk (by simp),hstop _ c pre _ (Nat.le_refl _) hSp (c0L (hIx c) hk (Nat.le_refl _) hi _) (hk.put (R .exhausted (some c))).calls⟩
def d0B (l:List Oper):Bool:=l.all fun o=>match o.op with | .defer _=>false | _=>true
theorem j0B {l:List Oper}(h:d0B l=true){i:Nat}{o:Oper}(ho:l.toArray[i]?=some o):∀ c,o.op ≠ .defer c:=by
 intro c e;rw[List.getElem?_toArray]at ho;have:=List.all_eq_true.1 h o (List.mem_of_getElem? ho);rw[e]at this;cases this
theorem j0k {F:Fence}{n:Nat}{P:Program}{o:Oper}{a:Act}{next:Act→World→Prop}{Q:Exit→Act→World→Prop}(l:Nat):∀ r:Result Next,o.uponIn F n P a next Q r→o.uponIn (F.inRound l) n P a next Q r
 | .ok (.value _) _,h=>h
 | .ok .skip _,h=>h
 | .ok (.defer _) _,h=>h
 | .ok (.enter _ _) _,h=>h
 | .ok (.row _ _) _,h=>h
 | .ok (.round _ _ _ _ _) _,h=>h
 | .halt (.panic _) _,h=>h
 | r,h=>by
  unfold Oper.uponIn at *
  split at h<;>first | exact h | (exfalso;exact h)
theorem e0S {F:Fence}{n:Nat}{P:Program}{l:List Oper}{Q:Exit→Act→World→Prop}{md:Region.Mode}(hro:F.round=none)(hd:d0B l=true)(l0:Nat):∀ (fuel:Nat) (listed:Array Bool) (a:Act) (w:World),
 wpAnyIn F n P md l.toArray Q fuel listed a w→wpAnyIn (F.inRound l0) n P md l.toArray Q fuel listed a w:=by
 intro fuel
 induction fuel with
 | zero=>exact fun _ _ _ h=>h
 | succ fuel ih=>
  rintro listed a w ⟨h1,h2⟩;refine⟨h1,fun i hi=>?_⟩;have h:=h2 i hi;unfold wpOpIn at *
  split at h
  ·exact ih _ _ _ h
  ·rename_i o he
   split at h
   ·rename_i hw
    rw[if_pos hw];refine⟨h.1,?_⟩;have h3:=(Oper.wpIn_mono (K':=wpAnyIn (F.inRound l0) n P md l.toArray Q fuel (listed.setIfInBounds i true)) (fun a w h=>ih _ a w h) h).2;rw[hro,Oper.semAt_none]at h3;rw[Fence.inRound_round,Oper.semAt_some l0 _ o (j0B hd he)];exact j0k l0 _ h3
   ·rename_i hw
    rw[if_neg hw];exact⟨h.1,ih _ _ _ h.2⟩
theorem c0K {n:Nat}{P:Program}{id:Nat}{Q:Exit→Act→World→Prop}{a:Act}{w:World}{l:List Oper}{l0:Nat}(hm:P.follows .mixedOrders=true)(hB:Region.lexB .any l.toArray=true)(hd:d0B l=true)
 (h:wpQuietIn Fence.wide n P l.toArray (fun w'=>∃ n,w'=w.drewN n) (fun a'=>∀ w',(∃ n,w'=w.drewN n)→Q .normal a' w') l a):(Code.region id l.toArray true).wpIn (Fence.wide.inRound l0) n P Q a w:=by
 have hB2:=hB;simp only[Region.lexB,Bool.and_eq_true]at hB2;refine wpIn_region_any hm (e0S rfl hd l0 _ _ _ _ (wpAnyIn_of_quiet (C:=fun w'=>∃ n,w'=w.drewN n) (Q:=fun a'=>∀ w',(∃ n,w'=w.drewN n)→Q .normal a' w') rfl (fun _ w' hw' h=>h w' hw') _ _ _ _ ⟨1,rfl⟩ ?_));have:=wpAnyQIn_lex (F:=Fence.wide) (n:=n) (C:=fun w'=>∃ n,w'=w.drewN n) (md:=.any) hB2.1 l.toArray.toList 0 (Array.replicate l.toArray.size false) a (by simp) (by simpa using hB2.2) (by simpa using h);simpa using this
open Go.Shelf
attribute [local go_sem] Oper.semAt_some
theorem c0C {Kp:World→World→Prop}{V:Nat→Int→Prop}(n:Nat)(hn:1≤n)(Bs len cap:Nat)(a:Option Addr)(hlen:len≤9000000000000000000)(hcap:len≤cap)(w:World)(hKr:∀ W,Kp W W)(hKt:∀ {A B C:World},Kp A B→Kp B C→Kp A C)
 (hread:∀ W1 W2,Below w.heap.size w W1→Kp W1 W2→W2.cell? ⟨Bs,0,none⟩=some (.slice a len cap)∧∀ i,i<len→∃ g o z,a=some ⟨g,o,none⟩∧W2.cell? ⟨g,o+i,none⟩=some (.int .u64 z)∧V i z):
 r0J n Tryz.prog 165 #[.pointer (some ⟨Bs,0,none⟩)] (fun x:Nat×Int=>#[.int .i64 (x.1:Int),.int .u64 x.2]) Kp (fun pre x=>x.1+1+pre.length=len∧V x.1 x.2) (fun xs=>xs.length=len) (fun _=>True) w:=by
 intro l J Jx W hW hJ hJx hY h0;obtain⟨hb0,-⟩:=hread W W hW (hKr W);have HR:=hid hread;have HY:=hid hY;have HW:=hid hW;have HJ:=hid hJ;have HJx:=hid hJx;have HKr:=hid hKr;have HKt:Hid (∀ A B C:World,Kp A B→Kp B C→Kp A C):=fun A B C h k=>hKt h k
 clear hread hY hW hJ hJx hKr hKt;refine callsIn_of_wp Tryz.func165 rfl trivial ?_ rfl;simp only[Tryz.ntmps165,List.size_toArray,List.length_cons,List.length_nil,Nat.reduceAdd,Nat.reduceSub,Array.replicate_succ,Array.replicate_zero,List.push_toArray,List.append_toArray,List.nil_append,List.cons_append]
 gi_wp2
 clear hb0
 gi_loopw [3] (fun i wr=>∃ (k:Nat) (t:Int) (pre:List (Nat×Int)),i=.int .i64 t∧t=(k:Int)-1∧k≤len∧Hid (pre.length+k=len)∧J pre wr∧Hid (Kp W wr))
  (fun i _=>(intOf i+1).toNat)
 case atStart=>exact⟨len,_,[],rfl,rfl,Nat.le_refl _,by rw[Hid];simp,h0,HKr.out W⟩
 case round=>
  obtain⟨k,t,pre,rfl,ht,hk,hp,hJs,hK⟩:=hrel;cases k with
  | zero=>
   obtain rfl:t = -1:=by omega
   clear ht
   gi_wp2
   go_end0
   exact⟨⟨_,rfl⟩,.inl ⟨pre,by have:=hp.out;omega,hJs⟩⟩
  | succ j=>
   obtain rfl:t=(j:Int):=by omega
   clear ht;obtain⟨hb,hc⟩:=HR.out W wr HW.out hK.out;obtain⟨g,o,z,rfl,hcell,hV⟩:=hc j (by omega);clear hc;obtain⟨fn,tmps,assign,body,hy,hR⟩:=HY.out pre (j,z) wr ⟨by have:=hp.out;omega,hV⟩ hJs;dsimp only at hy;have HV:=hid hV;clear hV
   gi_wp2
   refine hR.mono ?_;rintro e W3 (⟨rfl,hJ3,hk3⟩ | ⟨rfl,hJx3⟩)
   ·have HK3:=hid (HKt.out _ _ _ hK.out hk3);clear hk3
    gi_wp2
    go_roundw
    case rel=>exact⟨j,_,pre ++ [(j,z)],rfl,rfl,by omega,by rw[Hid];have:=hp.out;simp;omega,hJ3,HK3⟩
    case measure=>simp[intOf]<;>omega
   ·gi_wp2
    refine bodyPost_ret (results_none rfl _ _ _) rfl ?_;exact⟨⟨_,rfl⟩,.inr ⟨_,trivial,hJx3⟩⟩
theorem d0s (a:Option Addr)(len cap:Nat)(w:World):
 Calls Tryz.prog 120 #[.slice a len cap] w fun e w'=>e=.returned (.func (.func 165) #[] #[.pointer (some ⟨w.heap.size,0,none⟩)])∧w'=w.alloc (.cells #[.slice a len cap] 55):=by
 go_enter Tryz.func120,Tryz.ntmps120;go_wp2_with fail;go_ret
 exact⟨rfl,rfl⟩
def KpB (n0 bs:Nat)(W W2:World):Prop:=Below n0 W W2∧W2.heap[bs]?=W.heap[bs]?
theorem KpB.refl (n0 bs:Nat)(W:World):KpB n0 bs W W:=⟨Below.refl _ _,rfl⟩
theorem KpB.trans {n0 bs:Nat}{A B C:World}(h:KpB n0 bs A B)(k:KpB n0 bs B C):KpB n0 bs A C:=⟨h.1.trans k.1,k.2.trans h.2⟩
theorem KpB.put {n0 bs:Nat}{w:World}(hn:n0≤w.heap.size)(hb:bs<w.heap.size)(W:World)(l:Nat)(o o':Obj)(hl:w.heap.size≤l)(h:W.heap[l]?=some o)(h1:o.isCells=false)(h2:o.isWalk=false):KpB n0 bs W (W.putObj l o'):=
 ⟨belowK_b hn W l o o' hl h h1 h2,World.putObj_heap_other (by omega)⟩
theorem KpB.blk {n0 bs:Nat}{W W2:World}(h:KpB n0 bs W W2){cs:Array Value}{t:TypeId}(hb:Blk W bs cs t):Blk W2 bs cs t:=h.2.trans hb
theorem Blk.kept {W W2:World}{b:Nat}{cs:Array Value}{t:TypeId}{row:Option Nat}(h:Blk W b cs t)(hg:W.grownBy W2 row)(hr:∀ r,row=some r→∃ o:Obj,W.heap[r]?=some o∧o.isCells=false):Blk W2 b cs t:=by
 refine h.grown hg (fun e=>?_);obtain⟨o,ho,hc⟩:=hr b e;unfold Blk at h;rw[h]at ho;cases ho
 cases hc
theorem c0i {n:Nat}{P:Program}{fn:Func}{R:Ending→World→Prop}{tmps:Array Value}{W:World}{D:Nat}{v:Value}(hK:W.heap[D]?=some (.deferred (some [])))
 (hv:(results fn tmps).run P (W.putObj D (.deferred none))=.ok v (W.putObj D (.deferred none))) (hR:R (.returned v) (W.putObj D (.deferred none))):
 bodyPostM Fence.wide n P fn R .ret { tmps:=tmps,defers:=[{ target:=.collected D,args:=#[] }] } W:=
 ⟨by simp,.inl ⟨_,_,rfl,run_takeDeferred hK,⟨v,hv,hR⟩⟩⟩
theorem Row.put {W:World}{D:Nat}{v:Value}{xs:List Value}(h:Row W v xs)(hK:W.heap[D]?=some (.deferred (some [])))(o:Obj):Row (W.putObj D o) v xs:=by
 obtain⟨a,c,rfl,h1,h2,h3⟩:=h.ex;refine⟨a,c,rfl,h1,h2,fun i x hx=>?_⟩;obtain⟨g,og,e,hg,hc⟩:=h3 i x hx;have hgb:=grownBy_putObj' W D o;exact⟨g,og,e,Nat.lt_of_lt_of_le hg hgb.size,cell_kept hc hgb (fun r e=>by cases e;exact⟨_,hK,rfl⟩)⟩
theorem IsN.put {k:IntKind}{W:World}{D:Nat}{v:Value}{n:Nat}(h:IsN k W v n)(hK:W.heap[D]?=some (.deferred (some [])))(o:Obj):IsN k (W.putObj D o) v n:=Row.put h hK o
theorem g0P {a n:Nat}(hn:(limbs a).length=n+1):∃ x,(limbs a)[n]?=some x∧x<1000000000∧0<x∧Lib.nDigits a=9*n+Lib.nDigits x∧val ((limbs a).drop n)=x:=by
 have hne:limbs a ≠ []:=fun e=>by simp[e]at hn
 obtain⟨x,hx⟩:∃ x,(limbs a)[n]?=some x:=⟨_,List.getElem?_eq_getElem (by omega)⟩;have hl:(limbs a).getLast hne=x:=by
  have h:=List.getElem?_eq_some_iff.1 hx;obtain⟨h1,h2⟩:=h;rw[List.getLast_eq_getElem hne,← h2]
  congr 1
  omega
 have hx':(limbs a).getLast? = some x:=by rw[List.getLast?_eq_some_getLast hne,hl]
 have hp:=c0w a x hx';refine⟨x,hx,(a0j a).get hx,by omega,?_,?_⟩
 ·have:=f0Q (a0j a) hne (c0w a);rw[a0p,hl,hn]at this;simpa using this
 ·rw[List.drop_eq_getElem_cons (by omega),List.drop_of_length_le (by omega)];have h:=List.getElem?_eq_some_iff.1 hx;obtain⟨h1,h2⟩:=h;rw[h2];simp[val]
theorem c0x (w:World)(v:Value)(a:Nat)(ha:IsN .u64 w v a)(hL:Lay w)(hla:(limbs a).length≤1000000):
 Calls Tryz.prog 147 #[v] w fun e w'=>e=.returned (.int .i64 (Lib.nDigits a:Nat))∧Below w.heap.size w w':=by
 obtain⟨a1,c1,rfl,h1,h2,h3⟩:=ha.openI;have H3:=hid h3;clear h3 ha;by_cases h0:(limbs a).length=0
 ·rw[h0];have ea:a=0:=a0Q.1 (List.eq_nil_of_length_eq_zero h0);go_enter Tryz.func147,Tryz.ntmps147;go_wp2_with fail;go_ret
  refine⟨?_,Below.refl _ _⟩;rw[ea,show Lib.nDigits 0=1 by rw[Lib.nDigits_small (by omega)]]
  rfl
 ·obtain⟨n,ea⟩:∃ n,(limbs a).length=n+1:=⟨(limbs a).length-1,by omega⟩;obtain⟨x,hx,hx1,hx2,hd,-⟩:=g0P ea;obtain⟨g,o,rfl,hg,hc⟩:=H3.out n x hx;rw[ea]at h1 hla ⊢;have hw1:IntKind.i64.wrap (((n+1:Nat):Int)-1)=(n:Int):=by rw[IntWalk.i64_in _ ⟨by omega,by omega⟩];omega
  have hw2:IntKind.i64.wrap (9*(n:Int))=9*(n:Int):=IntWalk.i64_in _ ⟨by omega,by omega⟩;have hdl:Lib.nDigits x≤9:=a0q (by omega) (by omega);have hw3:IntKind.i64.wrap (9*(n:Int)+((Lib.nDigits x:Nat):Int))=((Lib.nDigits a:Nat):Int):=by rw[IntWalk.i64_in _ ⟨by omega,by omega⟩];omega
  have hlen:(Lib.decDigits x).length=Lib.nDigits x:=Lib.decDigits_length x;clear hd hdl;go_enter Tryz.func147,Tryz.ntmps147
  go_wp2_with (first
   | (go_at_call 119;refine (n0z _ x (by omega) hL).mono ?_;rintro e w' ⟨rfl,hb⟩)
   | fail)
  go_ret
  exact⟨rfl,hb⟩
#print axioms c0x
end Go.Proofs.YtlimaehdmcnjaaaGreatDoor
namespace Go.Proofs.YtlimaehdmcnjaaaGreatDoor
open Go.RowKit
variable {P : Program} {ops : Array Oper} {oz : Oper} {Q Q' : Exit → Act → World → Prop} {md : Region.Mode}
theorem e0j {o:Oper}{a:Act}{w:World}{K K':Act→World→Prop}(hK:∀ a w,K a w→K' a w)(hP:∀ c a w,Q' (.panic c) a w→Q (.panic c) a w)(hL:LetsOut Q'→LetsOut Q)
 (h:o.wp P a w K Q'):o.wp P a w K' Q:=by
 unfold Oper.wp at *;generalize (execOp a.eval o).run P w=r at *
 cases r with
 | ok n w'=>
  cases n<;>simp only[Oper.upon]at h ⊢
  case value u=>exact hK _ _ h
  case skip=>exact hK _ _ h
  case defer d=>exact hK _ _ h
  case enter f args=>
   refine Calls.mono h fun e w'' he=>?_
   cases e with
   | returned u=>exact hK _ _ he
   | panicked c=>exact hP _ _ _ he
   | outgrown=>exact hL he
  case row row args=>exact Rows.mono h fun u w'' he=>hK _ _ he
 | halt x w'=>
  cases x<;>simp only[Oper.upon]at h ⊢
  case panic u=>exact hP _ _ _ h
def f0a (n:Nat)(listed:Array Bool):Prop:=∀ i,i<n→listed.getD i false=true
theorem b0m (hfwd:∀ i o,ops[i]?=some o→∀ e∈o.after,Region.binds md e=true→e.on<i){listed:Array Bool}(hs:listed.size=ops.size)(hr:Region.ready md ops listed = []):f0a ops.size listed:=by
 intro i
 induction i using Nat.strongRecOn with
 | _ i ih=>
  intro hi;refine Decidable.byContradiction fun hn=>?_
  have hm:i∈Region.ready md ops listed:=by
   rw[mem_ready];refine⟨?_,ops[i],Array.getElem?_eq_getElem hi,fun e he hb=>ih e.on (hfwd i _ (Array.getElem?_eq_getElem hi) e he hb) (by have:=hfwd i _ (Array.getElem?_eq_getElem hi) e he hb;omega)⟩;have h1:i<listed.size:=by omega
   simp[Array.getD,h1]at hn ⊢;exact hn
  rw[hr]at hm;cases hm
def Closed (md:Region.Mode)(ops:Array Oper)(listed:Array Bool):Prop:=∀ j o,ops[j]?=some o→listed.getD j false=true→∀ e∈o.after,Region.binds md e=true→listed.getD e.on false=true
def q0r (md:Region.Mode)(ops:Array Oper)(oz:Oper)(i:Nat):Prop:=
 ∃ e∈oz.after,Region.binds md e=true∧(e.on=i∨∃ o,ops[e.on]?=some o∧∃ f∈o.after,Region.binds md f=true∧f.on=i)
theorem Closed.set {listed:Array Bool}{i:Nat}(h:Closed md ops listed)(hi:i∈Region.ready md ops listed):Closed md ops (listed.setIfInBounds i true):=by
 intro j o ho hj e he hb;rw[mem_ready]at hi;obtain⟨_,o',ho',hall⟩:=hi;by_cases hji:i=j
 ·subst hji;rw[ho]at ho';cases ho'
  exact getD_set_true (hall e he hb)
 ·have hj':=hj;rw[getD_set_ne false hji]at hj';exact getD_set_true (h j o ho hj' e he hb)
theorem a0l {listed:Array Bool}{b:Bool}{i:Nat}{d:Bool}(h:i<listed.size):(listed.push b).getD i d=listed.getD i d:=by
 simp[Array.getD,h,Nat.lt_succ_of_lt h,Array.getElem_push_lt h]
theorem b0L {listed:Array Bool}(hs:listed.size=ops.size)(hall:f0a ops.size listed):
 ∀ j,j∈Region.ready md (ops.push oz) (listed.push false)→j=ops.size:=by
 intro j hj;rw[mem_ready]at hj;obtain⟨h0,o,ho,_⟩:=hj;have hlt:j<ops.size+1:=by have:=(Array.getElem?_eq_some_iff.1 ho).1;simpa using this
 refine Decidable.byContradiction fun hne=>?_
 have hj':j<ops.size:=by omega
 rw[a0l (by omega)]at h0;have:=hall j hj';have h1:j<listed.size:=by omega
 simp[Array.getD,h1]at h0 this;rw[h0]at this;cases this
theorem c0g (hz:∀ e∈oz.after,Region.binds md e=true→e.on<ops.size)(hz2:∀ i,i<ops.size→q0r md ops oz i)(hfwd:∀ i o,ops[i]?=some o→∀ e∈o.after,Region.binds md e=true→e.on<i){listed:Array Bool}(hs:listed.size=ops.size)(hcl:Closed md ops listed)(hn:¬ f0a ops.size listed):
 ∀ j,j∈Region.ready md (ops.push oz) (listed.push false)→j∈Region.ready md ops listed:=by
 intro j hj;rw[mem_ready]at hj ⊢;obtain⟨h0,o,ho,hall⟩:=hj;have hlt:j<ops.size+1:=by have:=(Array.getElem?_eq_some_iff.1 ho).1;simpa using this
 by_cases hj':j=ops.size
 ·subst hj';have:o=oz:=by simpa using ho.symm
  subst this
  exact absurd (fun i hi=>by
   obtain⟨e,he,hb,hon⟩:=hz2 i hi;have h1:=hall e he hb;have h2:=hz e he hb;rw[a0l (by omega)]at h1;rcases hon with rfl | ⟨o',ho',f,hf,hfb,rfl⟩
   ·exact h1
   ·exact hcl _ o' ho' h1 f hf hfb) hn
 ·have hjl:j<ops.size:=by omega
  rw[Array.getElem?_push_lt hjl]at ho;rw[a0l (by omega)]at h0;refine⟨h0,o,by rw[Array.getElem?_eq_getElem hjl];exact ho,fun e he hb=>?_⟩;have h1:=hall e he hb;have h2:=hfwd j o (by rw[Array.getElem?_eq_getElem hjl];exact ho) e he hb;rwa[a0l (by omega)]at h1
theorem f0H {listed:Array Bool}{i:Nat}(h:i<listed.size):(listed.push false).setIfInBounds i true=(listed.setIfInBounds i true).push false:=by
 apply Array.ext_getElem?
 intro k;simp only[Array.getElem?_setIfInBounds,Array.getElem?_push,Array.size_push,Array.size_setIfInBounds];by_cases hk:i=k
 ·subst hk;simp[h,Nat.lt_succ_of_lt h];omega
 ·simp[hk]
theorem j0i (hgd:∀ (i:Nat) (o:Oper),ops[i]?=some o→o.guard=none)(hgz:oz.guard=none)
 (hz:∀ e∈oz.after,Region.binds md e=true→e.on<ops.size) (hz2:∀ i,i<ops.size→q0r md ops oz i)
 (hfwd:∀ i o,ops[i]?=some o→∀ e∈o.after,Region.binds md e=true→e.on<i)
 (hP:∀ c a w,Q' (.panic c) a w→Q (.panic c) a w) (hL:LetsOut Q'→LetsOut Q) (hN:∀ a w,Q' .normal a w→oz.wp P a w (fun a w=>Q .normal a w) Q∨(oz.asks P a w∧LetsOut Q)):
 ∀ (fuel:Nat) (listed:Array Bool) (a:Act) (w:World),listed.size=ops.size→Closed md ops listed→wpAny P md ops Q' fuel listed a w→wpAny P md (ops.push oz) Q (fuel+1) (listed.push false) a w:=by
 have lastStep:∀ (fuel:Nat) (listed:Array Bool) (a:Act) (w:World),listed.size=ops.size→f0a ops.size listed→Q' .normal a w→wpAny P md (ops.push oz) Q (fuel+1) (listed.push false) a w:=by
  intro fuel listed a w hs hall hq;have hmem:ops.size∈Region.ready md (ops.push oz) (listed.push false):=by
   rw[mem_ready];refine⟨by rw[← hs];simp[Array.getD],oz,by simp,fun e he hb=>?_⟩;have:=hz e he hb;rw[a0l (by omega)];exact hall _ this
  refine⟨fun h=>(by rw[h]at hmem;cases hmem),fun j hj=>?_⟩;have hje:=b0L hs hall j hj;subst hje;have hdone:Region.ready md (ops.push oz) ((listed.push false).setIfInBounds ops.size true) = []:=by
   refine List.eq_nil_iff_forall_not_mem.2 fun k hk=>?_
   rw[mem_ready]at hk;obtain⟨h0,o,ho,_⟩:=hk;have hlt:k<ops.size+1:=by have:=(Array.getElem?_eq_some_iff.1 ho).1;simpa using this
   by_cases hk':k=ops.size
   ·subst hk';simp[Array.getD,hs]at h0
   ·have h1:k<ops.size:=by omega
    have h2:=hall k h1;have h3:k<listed.size:=by omega
    simp[Array.getD,h3,Nat.lt_succ_of_lt h3,Ne.symm hk',Array.getElem_push_lt h3]at h0 h2;rw[h0]at h2;cases h2
  unfold wpOp;simp only[Array.getElem?_push_size];have hw:Region.wanted oz (yielded (ops.push oz) a.tmps)=true:=by simp[Region.wanted,hgz]
  rw[if_pos hw];refine (hN a w hq).imp (fun hx=>Oper.wp_mono (fun a' w' h'=>?_) hx) id;cases fuel with
  | zero=>exact⟨hdone,h'⟩
  | succ fuel=>exact⟨fun _=>h',fun k hk=>by rw[hdone]at hk;cases hk⟩
 intro fuel
 induction fuel with
 | zero=>
  intro listed a w hs _ h;exact lastStep 0 listed a w hs (b0m hfwd hs h.1) h.2
 | succ fuel ih=>
  intro listed a w hs hcl h;by_cases hall:f0a ops.size listed
  ·refine lastStep (fuel+1) listed a w hs hall (h.1 (List.eq_nil_iff_forall_not_mem.2 fun k hk=>?_));rw[mem_ready]at hk;obtain⟨h0,o,ho,_⟩:=hk;have h1:=(Array.getElem?_eq_some_iff.1 ho).1;have h2:=hall k h1;have h3:k<listed.size:=by omega
   simp[Array.getD,h3]at h0 h2;rw[h0]at h2;cases h2
  ·refine⟨fun hr=>?_,fun j hj=>?_⟩
   ·have:Region.ready md ops listed = []:=List.eq_nil_iff_forall_not_mem.2 fun k hk=>by
     have hk2:k∈Region.ready md (ops.push oz) (listed.push false):=by
      rw[mem_ready]at hk ⊢;obtain⟨h0,o,ho,hh⟩:=hk;have h1:=(Array.getElem?_eq_some_iff.1 ho).1;refine⟨by rw[a0l (by omega)];exact h0,o,by rw[Array.getElem?_push_lt h1,← Array.getElem?_eq_getElem h1];exact ho,fun e he hb=>?_⟩;rw[a0l (by have:=hfwd k o ho e he hb;omega)];exact hh e he hb
     rw[hr]at hk2;cases hk2
    exact absurd (b0m hfwd hs this) hall
   ·have hj':=c0g hz hz2 hfwd hs hcl hall j hj;have h1:=h.2 j hj';have hlt:j<ops.size:=by
     rw[mem_ready]at hj';obtain⟨_,o,ho,_⟩:=hj';exact (Array.getElem?_eq_some_iff.1 ho).1
    unfold wpOp at h1 ⊢;rw[Array.getElem?_push_lt hlt];rw[Array.getElem?_eq_getElem hlt]at h1;simp only at h1 ⊢;have hg:=hgd j _ (Array.getElem?_eq_getElem hlt);have hw1:Region.wanted ops[j] (yielded (ops.push oz) a.tmps)=true:=by simp[Region.wanted,hg]
    have hw2:Region.wanted ops[j] (yielded ops a.tmps)=true:=by simp[Region.wanted,hg]
    rw[if_pos hw1];rw[if_pos hw2]at h1;rcases h1 with h1 | ⟨h1,h2⟩
    ·refine .inl (e0j (fun a' w' h'=>?_) hP hL h1);rw[f0H (by omega)];exact ih _ _ _ (by simp[hs]) (hcl.set hj') h'
    ·exact .inr ⟨h1,hL h2⟩
def f0e (ops:Array Oper)(oz:Oper):Bool:=
 ops.toList.all (fun o=>o.guard.isNone) && oz.guard.isNone && oz.after.toList.all (fun e=>decide (e.on<ops.size)) &&
 (List.range ops.size).all (fun i=>oz.after.toList.any fun e=>Region.binds .any e && (e.on==i || (match ops[e.on]? with | some o=>o.after.toList.any (fun f=>Region.binds .any f && f.on==i) | none=>false))) &&
 (List.range ops.size).all (fun i=>match ops[i]? with | some o=>o.after.toList.all (fun e=>decide (e.on<i)) | none=>true)
section
variable {F : Fence} {n : Nat}
theorem k0d {o:Oper}{a:Act}{w:World}{K K':Act→World→Prop}(hK:∀ a w,K a w→K' a w)(hP:∀ c a w,Q' (.panic c) a w→Q (.panic c) a w)(hL:LetsOut Q'→LetsOut Q)
 (h:o.wpIn F n P a w K Q'):o.wpIn F n P a w K' Q:=by
 unfold Oper.wpIn at *;refine⟨h.1,?_⟩;have h:=h.2;generalize (o.semAt F.round a.eval).run P w=r at *
 cases r with
 | ok m w'=>
  cases m<;>simp only[Oper.uponIn]at h ⊢
  case value u=>exact hK _ _ h
  case skip=>exact hK _ _ h
  case defer d=>exact hK _ _ h
  case enter f args=>
   refine⟨h.1,CallsIn.mono h.2 fun e w'' he=>?_⟩;cases e with
   | returned u=>exact hK _ _ he
   | panicked c=>exact hP _ _ _ he
   | outgrown=>exact hL he
  case row row args=>exact⟨h.1,RowsIn.mono h.2 fun u w'' he=>hK _ _ he⟩
  case round l f tmps ts bd=>
   refine⟨h.1,RoundIn.mono h.2 fun e w'' he=>?_⟩;cases e with
   | returned u=>exact hK _ _ he
   | panicked c=>exact hP _ _ _ he
   | outgrown=>exact hL he
 | halt x w'=>
  cases x<;>simp only[Oper.uponIn]at h ⊢
  case panic u=>exact hP _ _ _ h
theorem g0m (hgd:∀ (i:Nat) (o:Oper),ops[i]?=some o→o.guard=none)(hgz:oz.guard=none)
 (hz:∀ e∈oz.after,Region.binds md e=true→e.on<ops.size) (hz2:∀ i,i<ops.size→q0r md ops oz i)
 (hfwd:∀ i o,ops[i]?=some o→∀ e∈o.after,Region.binds md e=true→e.on<i)
 (hP:∀ c a w,Q' (.panic c) a w→Q (.panic c) a w) (hL:LetsOut Q'→LetsOut Q) (hN:∀ a w,Q' .normal a w→oz.wpIn F n P a w (fun a w=>Q .normal a w) Q):
 ∀ (fuel:Nat) (listed:Array Bool) (a:Act) (w:World),listed.size=ops.size→Closed md ops listed→wpAnyIn F n P md ops Q' fuel listed a w→wpAnyIn F n P md (ops.push oz) Q (fuel+1) (listed.push false) a w:=by
 have lastStep:∀ (fuel:Nat) (listed:Array Bool) (a:Act) (w:World),listed.size=ops.size→f0a ops.size listed→Q' .normal a w→wpAnyIn F n P md (ops.push oz) Q (fuel+1) (listed.push false) a w:=by
  intro fuel listed a w hs hall hq;have hmem:ops.size∈Region.ready md (ops.push oz) (listed.push false):=by
   rw[mem_ready];refine⟨by rw[← hs];simp[Array.getD],oz,by simp,fun e he hb=>?_⟩;have:=hz e he hb;rw[a0l (by omega)];exact hall _ this
  refine⟨fun h=>(by rw[h]at hmem;cases hmem),fun j hj=>?_⟩;have hje:=b0L hs hall j hj;subst hje;have hdone:Region.ready md (ops.push oz) ((listed.push false).setIfInBounds ops.size true) = []:=by
   refine List.eq_nil_iff_forall_not_mem.2 fun k hk=>?_
   rw[mem_ready]at hk;obtain⟨h0,o,ho,_⟩:=hk;have hlt:k<ops.size+1:=by have:=(Array.getElem?_eq_some_iff.1 ho).1;simpa using this
   by_cases hk':k=ops.size
   ·subst hk';simp[Array.getD,hs]at h0
   ·have h1:k<ops.size:=by omega
    have h2:=hall k h1;have h3:k<listed.size:=by omega
    simp[Array.getD,h3,Nat.lt_succ_of_lt h3,Ne.symm hk',Array.getElem_push_lt h3]at h0 h2;rw[h0]at h2;cases h2
  unfold wpOpIn;simp only[Array.getElem?_push_size];have hw:Region.wanted oz (yielded (ops.push oz) a.tmps)=true:=by simp[Region.wanted,hgz]
  rw[if_pos hw];refine Oper.wpIn_mono (fun a' w' h'=>?_) (hN a w hq);cases fuel with
  | zero=>exact⟨hdone,h'⟩
  | succ fuel=>exact⟨fun _=>h',fun k hk=>by rw[hdone]at hk;cases hk⟩
 intro fuel
 induction fuel with
 | zero=>
  intro listed a w hs _ h;exact lastStep 0 listed a w hs (b0m hfwd hs h.1) h.2
 | succ fuel ih=>
  intro listed a w hs hcl h;by_cases hall:f0a ops.size listed
  ·refine lastStep (fuel+1) listed a w hs hall (h.1 (List.eq_nil_iff_forall_not_mem.2 fun k hk=>?_));rw[mem_ready]at hk;obtain⟨h0,o,ho,_⟩:=hk;have h1:=(Array.getElem?_eq_some_iff.1 ho).1;have h2:=hall k h1;have h3:k<listed.size:=by omega
   simp[Array.getD,h3]at h0 h2;rw[h0]at h2;cases h2
  ·refine⟨fun hr=>?_,fun j hj=>?_⟩
   ·have:Region.ready md ops listed = []:=List.eq_nil_iff_forall_not_mem.2 fun k hk=>by
     have hk2:k∈Region.ready md (ops.push oz) (listed.push false):=by
      rw[mem_ready]at hk ⊢;obtain⟨h0,o,ho,hh⟩:=hk;have h1:=(Array.getElem?_eq_some_iff.1 ho).1;refine⟨by rw[a0l (by omega)];exact h0,o,by rw[Array.getElem?_push_lt h1,← Array.getElem?_eq_getElem h1];exact ho,fun e he hb=>?_⟩;rw[a0l (by have:=hfwd k o ho e he hb;omega)];exact hh e he hb
     rw[hr]at hk2;cases hk2
    exact absurd (b0m hfwd hs this) hall
   ·have hj':=c0g hz hz2 hfwd hs hcl hall j hj;have h1:=h.2 j hj';have hlt:j<ops.size:=by
     rw[mem_ready]at hj';obtain⟨_,o,ho,_⟩:=hj';exact (Array.getElem?_eq_some_iff.1 ho).1
    unfold wpOpIn at h1 ⊢;rw[Array.getElem?_push_lt hlt];rw[Array.getElem?_eq_getElem hlt]at h1;simp only at h1 ⊢;have hg:=hgd j _ (Array.getElem?_eq_getElem hlt);have hw1:Region.wanted ops[j] (yielded (ops.push oz) a.tmps)=true:=by simp[Region.wanted,hg]
    have hw2:Region.wanted ops[j] (yielded ops a.tmps)=true:=by simp[Region.wanted,hg]
    rw[if_pos hw1];rw[if_pos hw2]at h1;refine k0d (fun a' w' h'=>?_) hP hL h1;rw[f0H (by omega)];exact ih _ _ _ (by simp[hs]) (hcl.set hj') h'
def o0z (n:Nat)(P:Program)(ops:Array Oper)(Q:Exit→Act→World→Prop)(oz:Oper):Exit→Act→World→Prop
 | .normal,a,w=>wpListIn Fence.wide n P ops Q [oz] a w
 | .panic _,_,_=>False
 | e,a,w=>Q e a w
theorem d0U {id:Nat}{a:Act}{w:World}{l:List Oper}{l0:Nat}(k:Nat)(hm:P.follows .mixedOrders=true)(hl:l.drop k = [oz])(hB:f0e (l.take k).toArray oz=true)(hX:Region.lexB .any (l.take k).toArray=true)(hd:d0B l=true)
 (h:wpQuietIn Fence.wide n P (l.take k).toArray (fun w'=>∃ n,w'=w.drewN n) (fun a'=>∀ w',(∃ n,w'=w.drewN n)→wpListIn Fence.wide n P l.toArray Q [oz] a' w') (l.take k) a):(Code.region id l.toArray true).wpIn (Fence.wide.inRound l0) n P Q a w:=by
 have he:l.toArray=(l.take k).toArray.push oz:=by
  rw[List.push_toArray,← hl,List.take_append_drop]
 have hX2:=hX;simp only[Region.lexB,Bool.and_eq_true]at hX2;have hq:=wpAnyQIn_lex (F:=Fence.wide) (n:=n) (C:=fun w'=>∃ n,w'=w.drewN n) (md:=.any) hX2.1 (l.take k).toArray.toList 0 (Array.replicate (l.take k).toArray.size false) a (by simp) (by simpa using hX2.2) (show wpQuietIn Fence.wide n P (l.take k).toArray (fun w'=>∃ n,w'=w.drewN n) (fun a'=>∀ w',(∃ n,w'=w.drewN n)→wpListIn Fence.wide n P l.toArray Q [oz] a' w') (l.take k).toArray.toList a from h);have hq2:=wpAnyIn_of_quiet (C:=fun w'=>∃ n,w'=w.drewN n) (Q:=fun a'=>∀ w',(∃ n,w'=w.drewN n)→wpListIn Fence.wide n P l.toArray Q [oz] a' w') (Q':=o0z n P l.toArray Q oz) rfl (fun a w' hw' h=>h w' hw') _ _ _ ({ w with drawn:=w.drawn+1 }:World) ⟨1,rfl⟩ hq;have hB0:=hB;simp only[f0e,Bool.and_eq_true,List.all_eq_true,List.any_eq_true,List.mem_range,decide_eq_true_eq,Option.isNone_iff_eq_none,Array.mem_toList_iff]at hB;obtain⟨⟨⟨⟨h1,h2⟩,h3⟩,h4⟩,h5⟩:=hB;have hlast:=g0m (F:=Fence.wide) (n:=n) (P:=P) (md:=.any) (ops:=(l.take k).toArray) (oz:=oz) (Q:=Q) (Q':=o0z n P l.toArray Q oz) (fun i o ho=>h1 o (by simpa using Array.mem_of_getElem? ho)) h2 (fun e he _=>h3 e he)
  (fun i hi=>by
   obtain⟨e,he,hb,hon⟩:=h4 i hi;refine⟨e,he,hb,?_⟩;simp only[Bool.or_eq_true,beq_iff_eq]at hon;refine hon.imp (fun h=>h) fun hx=>?_
   split at hx
   ·rename_i o ho
    simp only[List.any_eq_true,Bool.and_eq_true,beq_iff_eq,Array.mem_toList_iff]at hx;obtain⟨f,hf,hfb,hfo⟩:=hx;exact⟨o,ho,f,hf,hfb,hfo⟩
   ·cases hx)
  (fun i o ho e he _=>by
   have:=h5 i (Array.getElem?_eq_some_iff.1 ho).1;rw[ho]at this;simp only[List.all_eq_true,Array.mem_toList_iff,decide_eq_true_eq]at this;exact this e he) (fun _ _ _ h=>h.elim) (fun ⟨a,w,h⟩=>⟨a,w,h⟩) (fun a w hq=>by
    have hq':wpListIn Fence.wide n P l.toArray Q [oz] a w:=hq;unfold wpListIn at hq';have hw:Region.wanted oz (yielded l.toArray a.tmps)=true:=by simp[Region.wanted,h2]
    simpa[hw,wpListIn]using hq')
  (l.take k).toArray.size (Array.replicate (l.take k).toArray.size false) a { w with drawn:=w.drawn+1 } (by simp) (fun j o _ hj=>by simp[Array.getD]at hj) (by simpa using hq2)
 refine wpIn_region_any hm (e0S rfl hd l0 _ _ _ _ ?_);have hr:Array.replicate l.toArray.size false=(Array.replicate (l.take k).toArray.size false).push false:=by
  rw[he,Array.size_push];exact Array.replicate_succ
 rw[hr,he,Array.size_push];exact hlast
end
def a0o (Q:Exit→Act→World→Prop):Exit→Act→World→Prop
 | .normal,a,w=>Q .normal a w
 | _,_,_=>False
theorem h0i {n:Nat}{l:List Oper}:∀ (fuel:Nat) (listed:Array Bool) (a:Act) (w:World),
 wpAny P md l.toArray (a0o Q) fuel listed a w→wpAnyIn Fence.wide n P md l.toArray Q fuel listed a w:=by
 intro fuel
 induction fuel with
 | zero=>exact fun _ _ _ h=>h
 | succ fuel ih=>
  rintro listed a w ⟨h1,h2⟩;refine⟨h1,fun i hi=>?_⟩;have h:=h2 i hi;unfold wpOp at h;unfold wpOpIn
  split at h
  ·rename_i ho
   simp only[ho];exact ih _ _ _ h
  ·rename_i o ho
   simp only[ho]
   split at h
   ·rename_i hw
    rw[if_pos hw];rcases h with h | ⟨_,a',w',h⟩
    ·refine⟨fun _ _=>trivial,?_⟩;show o.uponIn Fence.wide n P a _ Q ((execOp a.eval o).run P w)
     unfold Oper.wp at h;generalize (execOp a.eval o).run P w=r at h
     cases r with
     | ok m w'=>
      cases m<;>simp only[Oper.upon,Oper.uponIn]at h ⊢
      case value u=>exact ih _ _ _ h
      case skip=>exact ih _ _ _ h
      case defer d=>exact ih _ _ _ h
      case enter f args=>
       refine⟨fun hx=>(by cases hx),callsIn_wide.2 (Calls.mono h fun e w'' he=>?_)⟩;cases e with
       | returned u=>exact ih _ _ _ he
       | panicked c=>exact he.elim
       | outgrown=>obtain⟨_,_,hx⟩:=he;exact hx.elim
      case row row args=>
       refine⟨fun hx=>(by cases hx),fun c cs _=>?_⟩;obtain⟨v,w'',hr,hs⟩:=h c cs;exact⟨v,w'',ih _ _ _ hr,stepsIn_wide.2 hs⟩
     | halt x w'=>
      cases x<;>simp only[Oper.upon,Oper.uponIn]at h ⊢
      case panic u=>exact h.elim
    ·exact h.elim
   ·rename_i hw
    rw[if_neg hw];exact⟨fun _ _=>trivial,ih _ _ _ h⟩
def k0e (P:Program)(ops:Array Oper)(S:World→Prop)(L:Act→Prop):List Oper→Act→Prop
 | [],a=>L a
 | o::rest,a=>∃ v,YieldsIf P ops S o v a∧k0e P ops S L rest (a.put o.dst v)
def r0M (md:Region.Mode)(ops:Array Oper):Nat→Nat→Array Bool→Bool
 | 0,_,_=>true
 | m+1,k,listed=>(Region.ready md ops listed).contains k && Region.free md ops listed k && r0M md ops m (k+1) (listed.setIfInBounds k true)
def k0y:Nat→Nat→Array Bool→Array Bool
 | 0,_,listed=>listed
 | m+1,k,listed=>k0y m (k+1) (listed.setIfInBounds k true)
theorem i0N {S:World→Prop}(hsel:Region.noSelect ops=true){g:Nat}{w:World}(hS:S w):∀ (l:List Oper) (k:Nat) (listed:Array Bool) (a:Act),(∀ j,j<l.length→l[j]?=ops[k+j]?)→r0M md ops l.length k listed=true →
 k0e P ops S (fun a'=>wpAnyH P md ops (a0o Q) S g (k0y l.length k listed) a' w) l a→wpAnyH P md ops (a0o Q) S (g+l.length) listed a w
 | [],_,_,_,_,_,h=>h
 | o::l,k,listed,a,hl,hB,h=>by
  have h0:ops[k]?=some o:=by simpa using (hl 0 (by simp)).symm
  simp only[List.length_cons,r0M,Bool.and_eq_true]at hB;obtain⟨⟨hr,hf⟩,hB'⟩:=hB;obtain⟨v,hy,hrest⟩:=h;have hQ:∀ c a w,a0o Q (.panic c) (Act.put a o.dst v) w→a0o Q (.panic c) a w:=fun _ _ _ h=>h
  exact wpAnyH_take h0 hsel hf hr hQ hy hS (i0N hsel hS l (k+1) _ _ (fun j hj=>by have:=hl (j+1) (by simp;omega);simpa[Nat.add_assoc,Nat.add_comm 1 j]using this) hB' hrest)
def d0W (P:Program)(md:Region.Mode)(ops:Array Oper)(Q:Exit→Act→World→Prop)(S:World→Prop)(fuel:Nat)(listed:Array Bool):Exit→Act→World→Prop
 | .normal,a,w=>S w∧wpAnyH P md ops Q S fuel listed a w
 | _,_,_=>False
theorem a0b {S:World→Prop}{i:Nat}{o:Oper}{fuel:Nat}{listed:Array Bool}{a:Act}{w:World}(hr:Region.ready md ops listed = [i])(ho:ops[i]?=some o)(hg:o.guard=none)
 (h:wpList P ops (d0W P md ops (a0o Q) S fuel (listed.setIfInBounds i true)) [o] a w):wpAnyH P md ops (a0o Q) S (fuel+1) listed a w:=by
 refine wpAnyH_all hr (by simp) fun j hj=>?_
 obtain rfl:j=i:=by simpa using hj
 unfold wpOp;rw[ho];have hw:Region.wanted o (yielded ops a.tmps)=true:=by simp[Region.wanted,hg]
 simp only[hw,if_true];unfold wpList at h;rw[if_pos hw]at h;rcases h with h | ⟨_,_,_,h⟩
 ·left
  unfold Oper.wp at *;generalize (execOp a.eval o).run P w=r at *
  cases r with
  | ok m w'=>
   cases m<;>simp only[Oper.upon]at h ⊢
   case value u=>exact h
   case skip=>exact h
   case defer d=>exact h
   case enter f args=>
    refine Calls.mono h fun e w'' he=>?_
    cases e with
    | returned u=>exact he
    | panicked c=>exact he.elim
    | outgrown=>obtain⟨_,_,hx⟩:=he;exact hx.elim
   case row row args=>exact h
  | halt x w'=>
   cases x<;>simp only[Oper.upon]at h ⊢
   case panic u=>exact h.elim
 ·exact h.elim
theorem j0M {n:Nat}{id:Nat}{a:Act}{w:World}{l:List Oper}{l0:Nat}(S:World→Prop)(hm:P.follows .mixedOrders=true)(hd:d0B l=true)
 (h:wpAnyH P .any l.toArray (a0o Q) S l.toArray.size (Array.replicate l.toArray.size false) a { w with drawn:=w.drawn+1 }):(Code.region id l.toArray true).wpIn (Fence.wide.inRound l0) n P Q a w:=
 wpIn_region_any hm (e0S rfl hd l0 _ _ _ _ (h0i _ _ _ _ (wpAny_of_held _ _ _ _ h)))
theorem c0F {n:Nat}{id:Nat}{a:Act}{w:World}{l:List Oper}{l0:Nat}(k:Nat)(S:World→Prop)(hm:P.follows .mixedOrders=true)(hd:d0B l=true)(hsel:Region.noSelect l.toArray=true)(hk:(l.take k).length=k)(hB:r0M .any l.toArray k 0 (Array.replicate l.toArray.size false)=true)(hS:S w.drew)
 (h:k0e P l.toArray S (fun a'=>wpAnyH P .any l.toArray (a0o Q) S (l.length-k) (k0y k 0 (Array.replicate l.toArray.size false)) a' w.drew) (l.take k) a):(Code.region id l.toArray true).wpIn (Fence.wide.inRound l0) n P Q a w:=by
 refine j0M S hm hd ?_;have hk2:k≤l.length:=by rw[List.length_take]at hk;omega
 have:=i0N (P:=P) (md:=.any) (Q:=Q) (S:=S) hsel (g:=l.length-k) hS (l.take k) 0 (Array.replicate l.toArray.size false) a (fun j hj=>by
  rw[hk]at hj;simp[hj]) (by rw[hk];exact hB) (by rw[hk];exact h)
 rw[hk,show l.length-k+k=l.toArray.size by simp;omega]at this;exact this
end Go.Proofs.YtlimaehdmcnjaaaGreatDoor
namespace Go.Proofs.YtlimaehdmcnjaaaGreatDoor
open Go.RowKit
open Go.Shelf
open Go.Lib
attribute [local go_sem] Oper.semAt_some
theorem e0R {T e:TypeId}{B b:Nat}{p:Value}{bs:List Value}{W W':World}(h:BuilderAtF T e B b p bs W)(hb:Below W.heap.size W W'):BuilderAtF T e B b p bs W':=by
 have hlt:=h.lt;obtain⟨hB,v,hv,hown,hne⟩:=h;exact⟨hB,v,(hb.block b hlt).trans hv,hown.kept (row:=none) ⟨hb.os,hb.tape,hb.output,hb.size,fun k hk _=>hb.block k hk⟩ (Classical.em _),hne⟩
theorem l0v {T e:TypeId}{B b:Nat}{bs:List Value}{W W':World}(h:IsBuilderF T e B b bs W)(hb:Below W.heap.size W W'):IsBuilderF T e B b bs W':=
 h.elim (fun x=>.inl (e0R x hb)) (fun x=>.inr (e0R x hb))
theorem n0W {T e:TypeId}{B b:Nat}{p:Value}{bs:List Value}{W W':World}{row:Option Nat}(h:BuilderAtF T e B b p bs W)(hg:W.grownBy W' row)(hr:∀ r,row=some r→∃ o:Obj,W.heap[r]?=some o∧o.isCells=false):BuilderAtF T e B b p bs W':=by
 have hne2:∀ k cs t f,W.heap[k]?=some (.cells cs t f)→some k≠row:=fun k cs t f hk ek=>by
  obtain⟨o,ho,hc⟩:=hr k ek.symm;rw[hk]at ho;cases ho
  cases hc
 have hlt:=h.lt;obtain⟨hB,v,hv,hown,hne⟩:=h;refine⟨hB,v,(hg.block b hlt (hne2 _ _ _ _ hv)).trans hv,hown.kept (row:=row) hg ?_,hne⟩;rcases hown.2 with ⟨rfl,_⟩ | ⟨g,cap,cur,fz,rfl,_,hgg,_⟩
 ·left;rfl
 ·right
  intro e';exact hne2 g _ _ _ hgg e'
theorem _root_.Go.Lib.BuilderAtF.heap {T e:TypeId}{B b:Nat}{p:Value}{bs:List Value}{W:World}(h:BuilderAtF T e B b p bs W):∃ cs,W.heap[b]?=some (.cells cs T (0,0)):=by
 obtain⟨_,v,hv,_⟩:=h;exact⟨_,hv⟩
theorem e0C {e:TypeId}{b B:Nat}{T:TypeId}{cs:Array Value}{f:Nat×Nat}{W W':World}(h:OthersKept e (some b) W W')(hs:W.heap.size≤W'.heap.size)(hb:W.heap[b]?=some (.cells cs T f)):KeepsFrom B W W':=
 ⟨hs,fun k o _ hk ho=>h k o hk (fun ek=>by cases ek;rw[hb]at hk;cases hk;cases ho) (fun c fz eo=>by rw[eo]at ho;cases ho)⟩
theorem i0c (l:List UInt8)(k:Nat):Go.Lib.byteCells l++strCells ⟨Array.replicate k 48⟩=Go.Lib.byteCells (l++List.replicate k 48):=by simp[Go.Lib.byteCells,strCells]
theorem m0r (l m:List UInt8):Go.Lib.byteCells l++strCells ⟨m.toArray⟩=Go.Lib.byteCells (l++m):=by simp[Go.Lib.byteCells,strCells]
theorem f0b (k:Nat)(h1:1≤k)(h:k≤9)(W:World):(Instr.slice 9 (.string ⟨#[48,48,48,48,48,48,48,48,48]⟩) (some (.int .i64 (k:Int))) none none).run Tryz.prog W=.ok (.string ⟨(List.replicate (9-k) 48).toArray⟩) W:=by
 rw[run_slice_string_l W 9 _ Tryz.underlying9 .i64 (k:Int) (by omega) (by simp[ByteArray.size];omega)];have hk:k=1∨k=2∨k=3∨k=4∨k=5∨k=6∨k=7∨k=8∨k=9:=by omega
 rcases hk with rfl | rfl | rfl | rfl | rfl | rfl | rfl | rfl | rfl<;>rfl
theorem h0l (k:Nat)(h1:1≤k)(h:k≤9)(W:World):(Instr.sliceAt 9 (.string ⟨#[48,48,48,48,48,48,48,48,48]⟩) (some (.int .i64 (k:Int))) none none).run Tryz.prog W=.ok (.string ⟨(List.replicate (9-k) 48).toArray⟩) W:=by
 rw[run_sliceAt_string W 9 _ _ _ _ Tryz.underlying9];exact f0b k h1 h W
theorem j0m {B n0 bs:Nat}{W W':World}(h:Below W.heap.size W W')(hb:bs<W.heap.size)(hn:n0≤W.heap.size):KpB n0 bs W W'∧KeepsFrom B W W':=
 ⟨⟨h.mono hn,h.block bs hb⟩,h.size,fun k o _ hk _=>(h.block k (Array.getElem?_eq_some_iff.1 hk).1).trans hk⟩
theorem f0d {e T T':TypeId}{B n0 bs b:Nat}{cs cs':Array Value}{W W':World}{f:Nat×Nat}(h:OthersKept e (some b) W W')(hB:Below n0 W W')(hb:W.heap[b]?=some (.cells cs T f))(hx:Blk W bs cs' T')(hne:bs≠b)(hT:T'≠e):KpB n0 bs W W'∧KeepsFrom B W W':=
 ⟨⟨hB,(h bs _ hx (fun ek=>hne (by cases ek;rfl)) (fun c fz ec=>hT (by cases ec;rfl))).trans (Eq.symm hx)⟩,e0C h hB.size hb⟩
theorem f0X (w:World)(v:Value)(a:Nat)(ha:IsN .u64 w v a)(hL:Lay w)(hla:(limbs a).length≤1000000):
 Calls Tryz.prog 70 #[v] w fun e w'=>e=.returned (.string ⟨(Lib.decDigits a).toArray⟩)∧Below w.heap.size w w':=by
 obtain⟨a1,c1,rfl,h1,h2,h3⟩:=ha.openI;have H3:=hid h3;clear h3 ha;by_cases h0:(limbs a).length=0
 ·rw[h0];have ea:a=0:=a0Q.1 (List.eq_nil_of_length_eq_zero h0);refine (callsIn_wide (n:=9)).1 ?_;refine callsIn_of_wp_marks Tryz.func70 rfl trivial ?_ rfl;simp only[Tryz.ntmps70,List.size_toArray,List.length_cons,List.length_nil,Nat.reduceAdd,Nat.reduceSub,Array.replicate_succ,Array.replicate_zero,List.push_toArray,List.append_toArray,List.nil_append,List.cons_append]
  gi_wp2
  refine⟨.string ⟨#[48]⟩,by simp[results,Tryz.results70,go_sem],?_,Below.refl _ _⟩;rw[ea,c0A]
 ·obtain⟨n,ea⟩:∃ n,(limbs a).length=n+1:=⟨(limbs a).length-1,by omega⟩;obtain⟨x,hx,hx1,hx2,hd,hv⟩:=g0P ea;obtain⟨g,o,rfl,hg,hc⟩:=H3.out n x hx;rw[ea]at h1 hla ⊢;have hw1:IntKind.i64.wrap (((n+1:Nat):Int)-1)=(n:Int):=by rw[IntWalk.i64_in _ ⟨by omega,by omega⟩];omega
  have HD:=hid hd;have HV:=hid hv;have HL:=hid hL;clear hd hv hL;refine (callsIn_wide (n:=9)).1 ?_;refine callsIn_of_wp_marks Tryz.func70 rfl trivial ?_ rfl;simp only[Tryz.ntmps70,List.size_toArray,List.length_cons,List.length_nil,Nat.reduceAdd,Nat.reduceSub,Array.replicate_succ,Array.replicate_zero,List.push_toArray,List.append_toArray,List.nil_append,List.cons_append]
  gi_wp2_with (first
   | (refine⟨trivial,?_⟩;gi_at_call 119
      refine (callsIn_wide.2 (n0z _ x (by omega) (HL.out.call ((Below.refl _ _).alloc (Nat.le_refl _) _)))).mono ?_;rintro e W2 ⟨rfl,hb2⟩;have HI:Hid (IsBuilderF 138 5 w.heap.size w.heap.size [] W2):=l0v (IsBuilderF.of (fresh_isBuilder 138 5 w)) hb2;have HB2:Hid (Below w.heap.size w W2):=a0a ((Below.refl _ _).alloc (Nat.le_refl _) _) hb2;clear hb2)
   | (refine⟨trivial,?_⟩;gi_at_call 118
      refine (callsIn_wide.2 (Tryz.builder_WriteString w.heap.size w.heap.size [] _ _ HI.out (by simp only[List.length_nil,ByteArray.size,List.size_toArray,Lib.decDigits_length];have:=a0q (n:=x) (k:=9) (by omega) (by omega);omega) HB2.out.size)).mono ?_;rintro e W3 ⟨rfl,hi3,hb3,-⟩;have HI3:=hid hi3;have HB3:Hid (Below w.heap.size w W3):=HB2.out.trans hb3;clear hi3 hb3)
   | (refine⟨trivial,?_⟩;gi_at_call 120;refine (callsIn_wide.2 (d0s _ _ _ _)).mono ?_;rintro e w' ⟨rfl,rfl⟩)
   | fail)
  obtain⟨W0,hW0⟩:∃ W0,W3.alloc (Obj.cells #[Value.slice (some { block:=g,off:=o }) n c1] 55)=W0:=⟨_,rfl⟩;have y1:Blk W0 W3.heap.size #[.slice (some ⟨g,o,none⟩) n c1] 55:=by rw[← hW0];exact Blk.new _ _ _
  have i0:BuilderAtF 138 5 w.heap.size w.heap.size (.pointer (some ⟨w.heap.size,0,none⟩)) (Go.Lib.byteCells (Lib.decDigits x)) W0:=by
   rw[← hW0];have:=BuilderAtF.alloc HI3.out (Obj.cells #[Value.slice (some { block:=g,off:=o }) n c1] 55);simpa[strCells,Go.Lib.byteCells]using this
  have B0:Below w.heap.size w W0:=by rw[← hW0];exact HB3.out.alloc HB3.out.size _
  have z0:W0.heap.size=W3.heap.size+1:=by rw[← hW0];simp
  have lt3:w.heap.size<W3.heap.size:=HI3.out.lt;rw[hW0];have Y1:=hid y1;have I0:=hid i0;have HB0:=hid B0;have Z0:=hid z0;have L3:=hid lt3;have HA:=hid ea;have HG:=hid hg;have HX:=hid hx2;clear y1 i0 B0 z0 lt3 hW0 HI HB2 HI3 HB3 hc hw1 hx;have hread:∀ W1 W2,Below W0.heap.size W0 W1→KpB w.heap.size W3.heap.size W1 W2→W2.cell? ⟨W3.heap.size,0,none⟩=some (.slice (some ⟨g,o,none⟩) n c1)∧∀ i,i<n→∃ g' o' z,(some ⟨g,o,none⟩:Option Addr)=some ⟨g',o',none⟩∧W2.cell? ⟨g',o'+i,none⟩=some (.int .u64 z)∧∃ y:Nat,z=y∧(limbs a)[i]?=some y:=fun W1 W2 b1 b2=>by
   refine⟨(b2.blk (Y1.out.call b1)).cell 0,fun i hi=>?_⟩;obtain⟨y,hy⟩:∃ y,(limbs a)[i]?=some y:=⟨_,List.getElem?_eq_getElem (by rw[HA.out];omega)⟩;obtain⟨g',o',e,hg',hc⟩:=H3.out i y hy;exact⟨g',o',_,e,(((b2.1.cell (p:=⟨g',o'+i,none⟩) hg').trans (b1.cell (p:=⟨g',o'+i,none⟩) (by have:=HB0.out.size;simp;omega))).trans (HB0.out.cell (p:=⟨g',o'+i,none⟩) hg')).trans hc,y,rfl,hy⟩
  refine d0Z (by omega) (gf:=165) (lb:=#[.pointer (some ⟨W3.heap.size,0,none⟩)]) rfl (enters_of Tryz.func165 (by kernel_rfl) rfl)
   (c0C (Kp:=KpB w.heap.size W3.heap.size) (V:=fun i z=>∃ y:Nat,z=y∧(limbs a)[i]?=some y) 8 (by omega) _ n c1 _ (by omega) (by omega) W0 (KpB.refl _ _) KpB.trans hread) KpB.trans (KpB.put (by have:=HB0.out.size;omega) (by have:=Z0.out;omega)) (Below.refl _ _) (fun _=>rfl)
   (fun pre W=>(∃ l:List UInt8,BuilderAtF 138 5 w.heap.size w.heap.size (.pointer (some ⟨w.heap.size,0,none⟩)) (Go.Lib.byteCells l) W∧l=Lib.decDigits (val ((limbs a).drop (n-pre.length)))∧l.length≤9*(pre.length+1)∧0<val ((limbs a).drop (n-pre.length))∧Blk W W3.heap.size #[.slice (some ⟨g,o,none⟩) n c1] 55)∧Below w.heap.size W0 W)
   (fun c pre W=>False)
   (OwnFrom.and (fun s A B row hs hg hr=>by
    obtain⟨l,h1,h2,h3,h4,h5⟩:=hs;exact⟨l,n0W h1 hg (fun r e=>(hr r e).2),h2,h3,h4,h5.kept hg (fun r e=>(hr r e).2)⟩) (ownFrom_below (by have:=HB0.out.size;omega) (by have:=HB0.out.size;omega)))
   (fun c s A B row hs hg hr=>hs)
   ⟨⟨_,I0.out,by simp[HV.out],by simp only[Lib.decDigits_length,List.length_nil];have:=a0q (n:=x) (k:=9) (by omega) (by omega);omega,by simp only[List.length_nil,Nat.sub_zero,HV.out];exact hx2,Y1.out⟩,Below.refl _ _⟩ ?act ?assign ?body ?done ?stop
  case assign=>
   intro l x W K hK
   gi_wp2
   exact hK
  case body=>
   rintro l pre ⟨j,z⟩ W ⟨hj,y,ez,hy⟩ ⟨⟨ds,hA,hds,hlen,hpos,hbx⟩,hB⟩;dsimp only at hj ez hy;subst ez;have hyl:y<1000000000:=(a0j a).get hy;have hk1:1≤Lib.nDigits y:=Lib.nDigits_pos y;have hk9:Lib.nDigits y≤9:=a0q (by omega) (by omega);have hlen2:(Lib.decDigits y).length=Lib.nDigits y:=Lib.decDigits_length y;have hz:=f0b (Lib.nDigits y) hk1 hk9;have hz':=h0l (Lib.nDigits y) hk1 hk9;have e1:n-pre.length=j+1:=by omega
   rw[e1]at hds hpos;have HW:Hid (Below w.heap.size w W):=HB0.out.trans hB;have HAA:=hid hA;have HBX:=hid hbx;have HBB:=hid hB;have HDS:=hid hds;have HLN:=hid hlen;have HPO:=hid hpos;have HJ:=hid hj;have HY:=hid hy;have LW:Hid (W3.heap.size<W.heap.size):=Blk.lt hbx;clear hA hbx hB hds hlen hpos hj hy e1
   gi_wp2_with (first
    | (refine⟨trivial,?_⟩;gi_at_call 119
       refine (callsIn_wide.2 (n0z _ y (by omega) (HL.out.call HW.out))).mono ?_;rintro e Wa ⟨rfl,hba⟩;have HIa:Hid (BuilderAtF 138 5 w.heap.size w.heap.size (.pointer (some ⟨w.heap.size,0,none⟩)) (Go.Lib.byteCells ds) Wa):=e0R HAA.out hba;have HKa:Hid (KpB w.heap.size W3.heap.size W Wa∧KeepsFrom W0.heap.size W Wa):=j0m hba LW.out HW.out.size;have HPL:=HIa.out.heap;obtain⟨cs,hcs⟩:=HPL;have HBa:Hid (w.heap.size≤Wa.heap.size):=Nat.le_trans HW.out.size hba.size;have HCa:=hid hcs;clear hba hcs)
    | fail)
   refine⟨trivial,?_⟩;refine (callsIn_wide.2 (Tryz.builder_WriteString w.heap.size w.heap.size (Go.Lib.byteCells ds) _ _ (.inr HIa.out) (by simp only[Go.Lib.byteCells,List.length_map,ByteArray.size,Array.size_replicate];have:=HLN.out;have:=HJ.out;omega) HBa.out)).mono ?_;rintro e Wb ⟨rfl,hib,hbb,hob⟩;rw[i0c]at hib;have hkb:=f0d (B:=W0.heap.size) hob hbb HCa.out (HKa.out.1.blk HBX.out) (by have:=L3.out;omega) (by decide);have HKb:Hid (KpB w.heap.size W3.heap.size W Wb∧KeepsFrom W0.heap.size W Wb):=⟨HKa.out.1.trans hkb.1,HKa.out.2.trans hkb.2⟩;have HIb:=hid hib;obtain⟨cs2,hcs2⟩:=hib.heap;have HCb:=hid hcs2;have HBb:Hid (w.heap.size≤Wb.heap.size):=Nat.le_trans HBa.out hbb.size;clear hib hbb hob hkb hcs2
   gi_wp2_with fail
   refine⟨trivial,?_⟩;refine (callsIn_wide.2 (Tryz.builder_WriteString w.heap.size w.heap.size _ _ _ (.inr HIb.out) (by simp only[Go.Lib.byteCells,List.length_map,List.length_append,List.length_replicate,ByteArray.size,List.size_toArray];have:=HLN.out;have:=HJ.out;omega) HBb.out)).mono ?_;rintro e Wc ⟨rfl,hic,hbc,hoc⟩;rw[m0r,List.append_assoc]at hic;have hkc:=f0d (B:=W0.heap.size) hoc hbc HCb.out (HKb.out.1.blk HBX.out) (by have:=L3.out;omega) (by decide)
   gi_wp2_with fail
   have hpre:n-(pre ++ [(j,(y:Int))]).length=j:=by rw[List.length_append,List.length_singleton];have:=HJ.out;omega
   refine⟨HKb.out.2.trans hkc.2,HKb.out.1.trans hkc.1,⟨_,hic,?_,?_,?_,(HKb.out.1.trans hkc.1).blk HBX.out⟩,HBB.out.trans ((HKb.out.1.trans hkc.1).1)⟩
   ·rw[hpre,m0g (a0j a) HY.out HPO.out,← HDS.out];rfl
   ·simp only[List.length_append,List.length_replicate,List.length_singleton];have:=HLN.out;omega
   ·rw[hpre,b0v HY.out];have:=HPO.out;omega
  case done=>
   rintro D xs W hD hx ⟨⟨ds,hA,hds,hlen,hpos,hbx⟩,hB⟩ hK;rw[hx,Nat.sub_self,List.drop_zero,a0p]at hds;have HAA:=hid hA;have HBB:=hid hB;have HDS:=hid hds;have HK:=hid hK;have HDD:=hid hD;have HLE:Hid (w.heap.size≤W.heap.size):=Nat.le_trans HB0.out.size hB.size;clear hA hbx hB hds hlen hpos hx hK hD
   gi_wp2_with fail
   refine⟨trivial,?_⟩;refine (callsIn_wide.2 (Tryz.builder_String w.heap.size w.heap.size ds _ (.inr HAA.out) HLE.out)).mono ?_;rintro e Wz ⟨rfl,-,hbz,hoz⟩;have hKz:Wz.heap[D]?=some (.deferred (some [])):=hoz D _ HK.out (fun ek=>by cases ek;have:=HB0.out.size;have:=HDD.out;have:=L3.out;have:=Z0.out;omega) (fun c fz ec=>by cases ec);have HKz:=hid hKz;have HBz:Hid (Below w.heap.size w Wz):=(HB0.out.trans HBB.out).trans hbz;clear hoz hKz hbz
   gi_wp2_with fail
   refine c0i HKz.out (v:=.string ⟨ds.toArray⟩) (by simp[results,Tryz.results70,go_sem]) ⟨by rw[HDS.out],?_⟩;exact HBz.out.trans (belowK_b (w:=w) (Nat.le_refl _) _ D _ _ (by have:=HDD.out;have:=L3.out;have:=Z0.out;omega) HKz.out rfl rfl)
  case stop=>
   rintro D c pre W hD-h;exact h.elim
theorem a0M (s:ByteArray)(a e:Nat):(s.extract a e).data.toList=(s.data.toList.drop a).take (e-a):=by
 rw[ByteArray.data_extract,Array.toList_extract]
theorem f0j:∀ (l:List UInt8) (acc:Nat),allDig l→10 ^ l.length*(acc+1)≤10 ^ 9→parseUintM 18446744073709551615 acc l=.ok (10 ^ l.length*acc+dv l)
 | [],acc,_,_=>by simp[parseUintM]
 | c::r,acc,hd,hb=>by
  have hc:=a0E.1 (hd c (by simp));have hr:allDig r:=fun b hb=>hd b (by simp[hb])
  rw[List.length_cons,Nat.pow_succ]at hb;have hp:0<10 ^ r.length:=Nat.pow_pos (by omega);have h2:10 ^ r.length*(acc*10+(c.toNat-48)+1)≤10 ^ 9:=by
   refine Nat.le_trans (Nat.mul_le_mul_left _ (show _≤10*(acc+1) by omega)) ?_;rw[← Nat.mul_assoc];exact hb
  have ha:acc*10+(c.toNat-48)+1≤10 ^ 9:=Nat.le_trans (Nat.le_mul_of_pos_left _ hp) h2;rw[parseUintM,if_pos hc,if_neg (by omega),if_neg (by omega),f0j r _ hr h2];have e:dv (c::r)=10 ^ r.length*(c.toNat-48)+dv r:=by
   rw[show c::r = [c]++r from rfl,b0s];simp[dv]
  rw[e,List.length_cons,Nat.pow_succ]
  congr 1
  rw[Nat.mul_add,Nat.mul_comm acc 10,← Nat.mul_assoc];omega
theorem h0A {l:List UInt8}(hd:allDig l)(h0:l ≠ [])(h9:l.length≤9):parseUintB 64 l=.ok (dv l):=by
 rw[parseUintB,if_neg h0];have h:=f0j l 0 hd (by simpa using Nat.pow_le_pow_right (by omega) h9);simpa using h
theorem b0k (s:ByteArray):s.data.toList.length=s.size:=Array.length_toList
theorem n0l (s:ByteArray)(hmax:s.size≤9223372036854775806)(u:Nat)(h:Lib.parseUintB 64 s.data.toList=.ok u)(w:World):
 Calls Tryz.prog 171 #[.string s,.int .i64 10,.int .i64 64] w fun e w'=>e=.returned (.tuple #[.int .u64 u,.nilIface])∧Below w.heap.size w w':=by
 refine (Tryz.strconv_ParseUint s hmax u h w).mono ?_;rintro e w' ⟨rfl,rfl | rfl⟩
 ·exact⟨rfl,Below.refl _ _⟩
 ·exact⟨rfl,Lib.bytesWorld_below _ _ _⟩
theorem f0Y (w:World)(s:ByteArray)(hd:allDig s.data.toList)(hs:s.size≤1000000):
 Calls Tryz.prog 131 #[.string s] w fun e w'=>g0l .u64 (dv s.data.toList) e w'∧Below w.heap.size w w':=by
 obtain⟨i0,hi,hz0,hz1,hz2⟩:=info_parts d0o;have HD:=hid hd;clear hd;go_enter Tryz.func131,Tryz.ntmps131;go_wp2_with fail
 go_loopw [3,4,5,6] (fun o q x5 x6 wr=>∃ (l:List Nat) (t:Int),q=.int .i64 t∧t≤s.size ∧ -9≤t∧l.length≤s.size-t.toNat∧Hid (ReadI s.data.toList t.toNat l)∧Hid (wr.ownsRow w.heap.size 122 1 o l.length (ints .u64 l))∧Hid (Below w.heap.size w wr)) (fun _ q _ _ _=>(RowKit.intOf q).toNat)
 case atStart=>exact⟨[],_,rfl,by omega,by omega,by simp,ReadI.start _,World.ownsRow_nil _ _ _ _,Below.refl _ _⟩
 case round=>
  obtain⟨l,t,rfl,hts,ht9,hl,hR,hO,hB⟩:=hrel;by_cases h0:t≤0
  ·have q0:decide ((0:Int)<t)=false:=by simp;omega
   have e0:t.toNat=0:=by omega
   have hR2:=hR.out;rw[e0]at hR2;obtain⟨ao,co,rfl⟩:=a0t hO.out;have hrow:Row wr (.slice ao l.length co) (ints .u64 l):=Row.of_owns hO.out;have hdone:=hR2.done;have hsm:=hR2.sm;clear hR2
   go_wp2_with (first
    | (go_at_call 143;refine (o0m wr _ l hsm hrow).mono ?_;rintro e w' ⟨⟨v',rfl,hv'⟩,rfl⟩)
    | fail)
   go_ret
   refine⟨⟨_,rfl,?_⟩,hB.out⟩;rw[← hdone];exact hv'
  ·obtain⟨e,he⟩:∃ e:Nat,t=e:=⟨t.toNat,by omega⟩;subst he;rw[Int.toNat_natCast]at hl hR;have q0:decide ((0:Int)<(e:Int))=true:=by simp;omega
   obtain⟨a,ha⟩:∃ a:Nat,a=e-9:=⟨_,rfl⟩;have q1:IntKind.i64.wrap ((e:Int)-9)=(e:Int)-9:=IntWalk.i64_in _ ⟨by omega,by omega⟩;have q2:max (0:Int) ((e:Int)-9)=(a:Int):=by omega
   have hle:((s.extract a e).data.toList).length=e-a:=by
    rw[a0M,List.length_take,List.length_drop];have:=b0k s;omega
   have hchunk:=h0A (l:=(s.extract a e).data.toList) (by rw[a0M];exact (HD.out.drop a).take _) (fun e0=>by rw[e0]at hle;simp at hle;omega) (by omega);have hlt:dv (s.extract a e).data.toList<1000000000:=by rw[a0M];exact j0a HD.out (by omega)
   have hsz:(s.extract a e).size≤9223372036854775806:=by
    have:=b0k (s.extract a e);omega
   obtain⟨z,hz⟩:∃ z,dv (s.extract a e).data.toList=z:=⟨_,rfl⟩;rw[hz]at hchunk hlt;have hnext:=hR.out.next HD.out;rw[← ha,← a0M,hz]at hnext;have HN:=hid hnext;have HC:=hid hchunk;have HS:=hid hsz;have HA:=hid ha;have HZ:=hid hz;clear hnext hchunk hsz ha hz hle hR;obtain⟨ao,co,rfl⟩:=a0t hO.out
   go_wp2_with (first
    | (go_at_call 171;refine (n0l _ HS.out z HC.out _).mono ?_;rintro e' W1 ⟨rfl,hb1⟩
       have HO1:=hid (b0q hO.out hb1);have HB1:Hid (Below w.heap.size w W1):=a0a hB.out (hb1.mono (Nat.le_refl _));clear hb1)
    | (at_builtin;refine wpList_append_own _ rfl _ _ 55 rfl w.heap.size 122 i0 (.int .u64 0) 1 8 Tryz.underlying55 hi hz0 hz1 hz2 rfl (by decide) _ l.length _ rfl (HO1.out.alloc _) ⟨W1.heap.size,0,none⟩ 1 1 [.int .u64 (z:Int)] rfl rfl (cell_one_new W1 (.int .u64 (z:Int)) 122) (by simp[Value.oneCell']) (by unfold maxLen;omega) (by omega) (by have:=HB1.out.size;simp;omega) ?_;intro v' w3 hown3 hgrow3 _;have HO3:=hid hown3;have HG3:=hid hgrow3;clear hown3 hgrow3)
    | fail)
   obtain⟨n1,n2⟩:=a0y (z:=z) HO1.out HB1.out HO3.out HG3.out;have et:((e:Int)-9).toNat=a:=by have:=HA.out;omega
   go_roundw
   case rel=>exact⟨l ++ [z],_,rfl,by omega,by omega,by rw[et];simp only[List.length_append,List.length_singleton];have:=HA.out;omega,by rw[et];exact HN,n1,n2⟩
   case measure=>simp[RowKit.intOf];omega
end Go.Proofs.YtlimaehdmcnjaaaGreatDoor
namespace Go.Proofs.YtlimaehdmcnjaaaGreatDoor
open Go.RowKit
theorem i0r (n:Nat)(hn:n≤3000000)(W:World):(Instr.makeSlice 55 (.int .i64 0) (.int .i64 (n:Int))).run Tryz.prog W=.ok (.slice (some ⟨W.heap.size,0,none⟩) 0 n) (W.alloc (.cells (madeCells #[.int .u64 0] n) 122)):=
 run_make_room (P:=Tryz.prog) 55 122 (.int .u64 0) 8 Tryz.underlying55 (by kernel_rfl) rfl .i64 .i64 n (by omega) (by omega) W
theorem g0H (w:World)(n:Nat)(hn:n≤3000000):(w.alloc (.cells (madeCells #[.int .u64 0] n) 122)).ownsRow w.heap.size 122 1 (.slice (some ⟨w.heap.size,0,none⟩) 0 n) 0 []:=
 World.ownsRow_made w _ n (Nat.le_refl _) (by unfold maxLen;omega) (by have:=size_madeCells #[Value.int .u64 0] n;simpa using this)
theorem n0D (w:World)(v u:Value)(a b:Nat)(ha:IsN .u64 w v a)(hb:IsN .u64 w u b)(hle:(limbs b).length≤(limbs a).length)(hla:(limbs a).length≤1000000)(hlb:(limbs b).length≤1000000):
 Calls Tryz.prog 99 #[v,u] w fun e w'=>g0l .u64 (a+b) e w'∧Below w.heap.size w w':=by
 obtain⟨i0,hi,hz0,hz1,hz2⟩:=info_parts d0o;obtain⟨a1,c1,rfl,h1,h2,h3⟩:=ha.openI;obtain⟨a2,c2,rfl,k1,k2,k3⟩:=hb.openI;have H3:=hid h3;have K3:=hid k3;clear h3 k3 ha hb;obtain⟨n,ea⟩:∃ n,(limbs a).length=n:=⟨_,rfl⟩;obtain⟨m,eb⟩:∃ m,(limbs b).length=m:=⟨_,rfl⟩;rw[ea]at h1 hla hle ⊢;rw[eb]at k1 hlb hle ⊢;have HA:=hid ea;have HB:=hid eb;clear ea eb;have q0:decide (n<m)=false:=by simp;omega
 have hmk:∀ W:World,(Instr.makeSlice 55 (.int .i64 0) (.int .i64 ((n:Int)+1))).run Tryz.prog W=.ok (.slice (some ⟨W.heap.size,0,none⟩) 0 (n+1)) (W.alloc (.cells (madeCells #[.int .u64 0] (n+1)) 122)):=fun W=>by
  have:=i0r (n+1) (by omega) W;rwa[Int.natCast_add]at this
 have hmn:m≤n:=by omega
 clear hle;go_enter Tryz.func99,Tryz.ntmps99;go_wp2_with fail;clear hmk q0
 go_loopw [5,6,7,8,22] (fun o cc jj nn ii wr=>∃ (s:List Nat) (c:Nat),ii=.int .i64 s.length∧cc=.int .u64 c∧c≤1∧s.length≤n∧Hid (PlusI a b s c)∧Hid (wr.ownsRow w.heap.size 122 1 o s.length (ints .u64 s))∧Hid (Below w.heap.size w wr))
  (fun _ _ _ _ ii _=>n-(intOf ii).toNat)
 case atStart=>exact⟨[],0,rfl,rfl,by omega,by simp,PlusI.start a b,g0H w (n+1) (by omega),(Below.refl _ _).alloc (Nat.le_refl _) _⟩
 case round=>
  obtain⟨s,c,rfl,rfl,hc1,hs1,hP,hO,hB⟩:=hrel;obtain⟨ao,co,rfl⟩:=a0t hO.out;by_cases hA:s.length<n
  ·obtain⟨x,hx⟩:∃ x,(limbs a)[s.length]?=some x:=⟨_,List.getElem?_eq_getElem (by rw[HA.out];exact hA)⟩;obtain⟨g,og,rfl,hg,hc⟩:=H3.out _ x hx;have hc':=(hB.out.cell (p:=⟨g,og+s.length,none⟩) hg).trans hc;have hxl:=(a0j a).get hx;have HX:=hid hx;clear hx hc;have HN:=hid (hP.out.next (by rw[HA.out];exact .inl hA));by_cases hB':s.length<m
   ·obtain⟨y,hy⟩:∃ y,(limbs b)[s.length]?=some y:=⟨_,List.getElem?_eq_getElem (by rw[HB.out];exact hB')⟩;obtain⟨g',og',rfl,hg',hd⟩:=K3.out _ y hy;have hd':=(hB.out.cell (p:=⟨g',og'+s.length,none⟩) hg').trans hd;have hyl:=(a0j b).get hy;rw[a0x HX.out,a0x hy]at HN;clear hy hd;go_wp2_with (at_builtin;refine wpList_append_own _ rfl _ _ 55 rfl w.heap.size 122 i0 (.int .u64 0) 1 8 Tryz.underlying55 hi hz0 hz1 hz2 rfl (by decide) _ s.length _ rfl (hO.out.alloc _) ⟨wr.heap.size,0,none⟩ 1 1 [.int .u64 (((x:Int)+(c:Int)+(y:Int))%1000000000)] rfl rfl (cell_one_new wr (.int .u64 (((x:Int)+(c:Int)+(y:Int))%1000000000)) 122) (by simp[Value.oneCell']) (by unfold maxLen;omega) (by omega) (by have:=hB.out.size;simp;omega) ?_;intro v' w3 hown3 hgrow3 _;have HO3:=hid hown3;have HG3:=hid hgrow3;clear hown3 hgrow3)
    have hz:(((x:Int)+(c:Int)+(y:Int))%1000000000)=(((x+c+y)%1000000000:Nat):Int):=by omega
    rw[hz]at HO3;obtain⟨n1,n2⟩:=a0y hO.out hB.out HO3.out HG3.out;have N1:=hid n1;have N2:=hid n2;clear n1 n2 hz HO3 HG3;obtain⟨a3,k3,rfl⟩:=a0t N1.out;go_wp2_with fail;go_roundw
    case rel=>exact⟨s ++ [(x+c+y)%1000000000],(x+c+y) / 1000000000,by simp,by go_num,HN.out.c1,by simp<;>omega,HN,N1,N2⟩
    case measure=>simp[intOf]<;>omega
   ·rw[a0x HX.out,a0H (by rw[HB.out];omega)]at HN;go_wp2_with (at_builtin;refine wpList_append_own _ rfl _ _ 55 rfl w.heap.size 122 i0 (.int .u64 0) 1 8 Tryz.underlying55 hi hz0 hz1 hz2 rfl (by decide) _ s.length _ rfl (hO.out.alloc _) ⟨wr.heap.size,0,none⟩ 1 1 [.int .u64 (((x:Int)+(c:Int))%1000000000)] rfl rfl (cell_one_new wr (.int .u64 (((x:Int)+(c:Int))%1000000000)) 122) (by simp[Value.oneCell']) (by unfold maxLen;omega) (by omega) (by have:=hB.out.size;simp;omega) ?_;intro v' w3 hown3 hgrow3 _;have HO3:=hid hown3;have HG3:=hid hgrow3;clear hown3 hgrow3)
    have hz:(((x:Int)+(c:Int))%1000000000)=(((x+c+0)%1000000000:Nat):Int):=by omega
    rw[hz]at HO3;obtain⟨n1,n2⟩:=a0y hO.out hB.out HO3.out HG3.out;have N1:=hid n1;have N2:=hid n2;clear n1 n2 hz HO3 HG3;obtain⟨a3,k3,rfl⟩:=a0t N1.out;go_wp2_with fail;go_roundw
    case rel=>exact⟨s ++ [(x+c+0)%1000000000],(x+c+0) / 1000000000,by simp,by go_num,HN.out.c1,by simp<;>omega,HN,N1,N2⟩
    case measure=>simp[intOf]<;>omega
  ·obtain rfl:s.length=n:=by omega
   rcases (show c=0∨c=1 by omega) with rfl | rfl
   ·have hs:=hid (hP.out.done (by rw[HA.out];exact hA) (by rw[HB.out];omega) rfl);go_wp2_with fail;go_ret
    exact⟨⟨_,rfl,c0u hO.out (by rw[hs.out])⟩,hB.out⟩
   ·have HN:=hid (hP.out.next (by exact .inr (.inr (by omega))));rw[a0H (by rw[HA.out];omega),a0H (by rw[HB.out];omega)]at HN;have HD:=hid (HN.out.done (by simp[HA.out]) (by simp[HB.out];omega) rfl);go_wp2_with (at_builtin;refine wpList_append_own _ rfl _ _ 55 rfl w.heap.size 122 i0 (.int .u64 0) 1 8 Tryz.underlying55 hi hz0 hz1 hz2 rfl (by decide) _ s.length _ rfl (hO.out.alloc _) ⟨wr.heap.size,0,none⟩ 1 1 [.int .u64 (1)] rfl rfl (cell_one_new wr (.int .u64 (1)) 122) (by simp[Value.oneCell']) (by unfold maxLen;omega) (by omega) (by have:=hB.out.size;simp;omega) ?_;intro v' w3 hown3 hgrow3 _;have HO3:=hid hown3;have HG3:=hid hgrow3;clear hown3 hgrow3)
    have hz:(1)=(((0+1+0)%1000000000:Nat):Int):=by omega
    rw[hz]at HO3;obtain⟨n1,n2⟩:=a0y hO.out hB.out HO3.out HG3.out;have N1:=hid n1;have N2:=hid n2;clear n1 n2 hz HO3 HG3;obtain⟨a3,k3,rfl⟩:=a0t N1.out;go_wp2_with fail;go_ret
    exact⟨⟨_,rfl,c0u N1.out (by rw[HD.out])⟩,N2.out⟩
theorem n0C (w:World)(v u:Value)(a b:Nat)(ha:IsN .u64 w v a)(hb:IsN .u64 w u b)(hle:(limbs a).length<(limbs b).length)(hla:(limbs a).length≤1000000)(hlb:(limbs b).length≤1000000):
 Calls Tryz.prog 99 #[v,u] w fun e w'=>g0l .u64 (a+b) e w'∧Below w.heap.size w w':=by
 obtain⟨i0,hi,hz0,hz1,hz2⟩:=info_parts d0o;obtain⟨a1,c1,rfl,h1,h2,h3⟩:=hb.openI;obtain⟨a2,c2,rfl,k1,k2,k3⟩:=ha.openI;have H3:=hid h3;have K3:=hid k3;clear h3 k3 ha hb;obtain⟨n,ea⟩:∃ n,(limbs b).length=n:=⟨_,rfl⟩;obtain⟨m,eb⟩:∃ m,(limbs a).length=m:=⟨_,rfl⟩;rw[ea]at h1 hlb hle ⊢;rw[eb]at k1 hla hle ⊢;have HA:=hid ea;have HB:=hid eb;clear ea eb;have q0:decide (m<n)=true:=by simp;omega
 have hmk:∀ W:World,(Instr.makeSlice 55 (.int .i64 0) (.int .i64 ((n:Int)+1))).run Tryz.prog W=.ok (.slice (some ⟨W.heap.size,0,none⟩) 0 (n+1)) (W.alloc (.cells (madeCells #[.int .u64 0] (n+1)) 122)):=fun W=>by
  have:=i0r (n+1) (by omega) W;rwa[Int.natCast_add]at this
 have hmn:m≤n:=by omega
 clear hle;go_enter Tryz.func99,Tryz.ntmps99;go_wp2_with fail;clear hmk q0
 go_loopw [5,6,7,8,22] (fun o cc jj nn ii wr=>∃ (s:List Nat) (c:Nat),ii=.int .i64 s.length∧cc=.int .u64 c∧c≤1∧s.length≤n∧Hid (PlusI b a s c)∧Hid (wr.ownsRow w.heap.size 122 1 o s.length (ints .u64 s))∧Hid (Below w.heap.size w wr))
  (fun _ _ _ _ ii _=>n-(intOf ii).toNat)
 case atStart=>exact⟨[],0,rfl,rfl,by omega,by simp,PlusI.start b a,g0H w (n+1) (by omega),(Below.refl _ _).alloc (Nat.le_refl _) _⟩
 case round=>
  obtain⟨s,c,rfl,rfl,hc1,hs1,hP,hO,hB⟩:=hrel;obtain⟨ao,co,rfl⟩:=a0t hO.out;by_cases hA:s.length<n
  ·obtain⟨x,hx⟩:∃ x,(limbs b)[s.length]?=some x:=⟨_,List.getElem?_eq_getElem (by rw[HA.out];exact hA)⟩;obtain⟨g,og,rfl,hg,hc⟩:=H3.out _ x hx;have hc':=(hB.out.cell (p:=⟨g,og+s.length,none⟩) hg).trans hc;have hxl:=(a0j b).get hx;have HX:=hid hx;clear hx hc;have HN:=hid (hP.out.next (by rw[HA.out];exact .inl hA));by_cases hB':s.length<m
   ·obtain⟨y,hy⟩:∃ y,(limbs a)[s.length]?=some y:=⟨_,List.getElem?_eq_getElem (by rw[HB.out];exact hB')⟩;obtain⟨g',og',rfl,hg',hd⟩:=K3.out _ y hy;have hd':=(hB.out.cell (p:=⟨g',og'+s.length,none⟩) hg').trans hd;have hyl:=(a0j a).get hy;rw[a0x HX.out,a0x hy]at HN;clear hy hd;go_wp2_with (at_builtin;refine wpList_append_own _ rfl _ _ 55 rfl w.heap.size 122 i0 (.int .u64 0) 1 8 Tryz.underlying55 hi hz0 hz1 hz2 rfl (by decide) _ s.length _ rfl (hO.out.alloc _) ⟨wr.heap.size,0,none⟩ 1 1 [.int .u64 (((x:Int)+(c:Int)+(y:Int))%1000000000)] rfl rfl (cell_one_new wr (.int .u64 (((x:Int)+(c:Int)+(y:Int))%1000000000)) 122) (by simp[Value.oneCell']) (by unfold maxLen;omega) (by omega) (by have:=hB.out.size;simp;omega) ?_;intro v' w3 hown3 hgrow3 _;have HO3:=hid hown3;have HG3:=hid hgrow3;clear hown3 hgrow3)
    have hz:(((x:Int)+(c:Int)+(y:Int))%1000000000)=(((x+c+y)%1000000000:Nat):Int):=by omega
    rw[hz]at HO3;obtain⟨n1,n2⟩:=a0y hO.out hB.out HO3.out HG3.out;have N1:=hid n1;have N2:=hid n2;clear n1 n2 hz HO3 HG3;obtain⟨a3,k3,rfl⟩:=a0t N1.out;go_wp2_with fail;go_roundw
    case rel=>exact⟨s ++ [(x+c+y)%1000000000],(x+c+y) / 1000000000,by simp,by go_num,HN.out.c1,by simp<;>omega,HN,N1,N2⟩
    case measure=>simp[intOf]<;>omega
   ·rw[a0x HX.out,a0H (by rw[HB.out];omega)]at HN;go_wp2_with (at_builtin;refine wpList_append_own _ rfl _ _ 55 rfl w.heap.size 122 i0 (.int .u64 0) 1 8 Tryz.underlying55 hi hz0 hz1 hz2 rfl (by decide) _ s.length _ rfl (hO.out.alloc _) ⟨wr.heap.size,0,none⟩ 1 1 [.int .u64 (((x:Int)+(c:Int))%1000000000)] rfl rfl (cell_one_new wr (.int .u64 (((x:Int)+(c:Int))%1000000000)) 122) (by simp[Value.oneCell']) (by unfold maxLen;omega) (by omega) (by have:=hB.out.size;simp;omega) ?_;intro v' w3 hown3 hgrow3 _;have HO3:=hid hown3;have HG3:=hid hgrow3;clear hown3 hgrow3)
    have hz:(((x:Int)+(c:Int))%1000000000)=(((x+c+0)%1000000000:Nat):Int):=by omega
    rw[hz]at HO3;obtain⟨n1,n2⟩:=a0y hO.out hB.out HO3.out HG3.out;have N1:=hid n1;have N2:=hid n2;clear n1 n2 hz HO3 HG3;obtain⟨a3,k3,rfl⟩:=a0t N1.out;go_wp2_with fail;go_roundw
    case rel=>exact⟨s ++ [(x+c+0)%1000000000],(x+c+0) / 1000000000,by simp,by go_num,HN.out.c1,by simp<;>omega,HN,N1,N2⟩
    case measure=>simp[intOf]<;>omega
  ·obtain rfl:s.length=n:=by omega
   rcases (show c=0∨c=1 by omega) with rfl | rfl
   ·have hs:=hid (hP.out.done (by rw[HA.out];exact hA) (by rw[HB.out];omega) rfl);go_wp2_with fail;go_ret
    exact⟨⟨_,rfl,c0u hO.out (by rw[hs.out,Nat.add_comm])⟩,hB.out⟩
   ·have HN:=hid (hP.out.next (by exact .inr (.inr (by omega))));rw[a0H (by rw[HA.out];omega),a0H (by rw[HB.out];omega)]at HN;have HD:=hid (HN.out.done (by simp[HA.out]) (by simp[HB.out];omega) rfl);go_wp2_with (at_builtin;refine wpList_append_own _ rfl _ _ 55 rfl w.heap.size 122 i0 (.int .u64 0) 1 8 Tryz.underlying55 hi hz0 hz1 hz2 rfl (by decide) _ s.length _ rfl (hO.out.alloc _) ⟨wr.heap.size,0,none⟩ 1 1 [.int .u64 (1)] rfl rfl (cell_one_new wr (.int .u64 (1)) 122) (by simp[Value.oneCell']) (by unfold maxLen;omega) (by omega) (by have:=hB.out.size;simp;omega) ?_;intro v' w3 hown3 hgrow3 _;have HO3:=hid hown3;have HG3:=hid hgrow3;clear hown3 hgrow3)
    have hz:(1)=(((0+1+0)%1000000000:Nat):Int):=by omega
    rw[hz]at HO3;obtain⟨n1,n2⟩:=a0y hO.out hB.out HO3.out HG3.out;have N1:=hid n1;have N2:=hid n2;clear n1 n2 hz HO3 HG3;obtain⟨a3,k3,rfl⟩:=a0t N1.out;go_wp2_with fail;go_ret
    exact⟨⟨_,rfl,c0u N1.out (by rw[HD.out,Nat.add_comm])⟩,N2.out⟩
theorem r0u (w:World)(v u:Value)(a b:Nat)(ha:IsN .u64 w v a)(hb:IsN .u64 w u b)(hla:(limbs a).length≤1000000)(hlb:(limbs b).length≤1000000):
 Calls Tryz.prog 99 #[v,u] w fun e w'=>g0l .u64 (a+b) e w'∧Below w.heap.size w w':=by
 by_cases h:(limbs b).length≤(limbs a).length
 ·exact n0D w v u a b ha hb h hla hlb
 ·exact n0C w v u a b ha hb (by omega) hla hlb
def RetOwn (k:IntKind)(t:TypeId)(B n:Nat)(e:Ending)(w':World):Prop:=∃ v,e=.returned v∧w'.ownsRow B t 1 v (limbs n).length (ints k (limbs n))
theorem RetOwn.retN {k:IntKind}{t:TypeId}{B n:Nat}{e:Ending}{w':World}(h:RetOwn k t B n e w'):g0l k n e w':=by
 obtain⟨v,he,ho⟩:=h;exact⟨v,he,Row.of_owns ho⟩
theorem Arr.owns {k:IntKind}{t:TypeId}{w:World}{g B m c:Nat}{l:List Nat}(h:Arr k t w g l)(hB:B≤g)(hm:m≤l.length)(hc:c=l.length)(hm2:c≤maxLen):w.ownsRow B t 1 (.slice (some ⟨g,0,none⟩) m c) m (ints k (l.take m)):=by
 refine⟨by rw[ints_length,List.length_take_of_le hm,Nat.mul_one],.inr ⟨g,c,_,rfl,hB,h,by omega,hm2,by simp[hc],?_⟩⟩;simp[c0k]
theorem e0B (w:World)(v u:Value)(a b:Nat)(ha:IsN .u64 w v a)(hb:IsN .u64 w u b)(hla:(limbs a).length≤1000000)(hlb:(limbs b).length≤1000000):
 Calls Tryz.prog 94 #[v,u] w fun e w'=>RetOwn .u64 122 w.heap.size (a*b) e w'∧Below w.heap.size w w':=by
 obtain⟨a1,c1,rfl,h1,h2,h3⟩:=ha.openI;obtain⟨a2,c2,rfl,k1,k2,k3⟩:=hb.openI;have H3:=hid h3;have K3:=hid k3;clear h3 k3 ha hb;obtain⟨n,ea⟩:∃ n,(limbs a).length=n:=⟨_,rfl⟩;obtain⟨m,eb⟩:∃ m,(limbs b).length=m:=⟨_,rfl⟩;rw[ea]at h1 hla ⊢;rw[eb]at k1 hlb ⊢;have HA:=hid ea;have HB:=hid eb;clear ea eb;have hmk:∀ W:World,(Instr.makeSlice 55 (.int .i64 ((n:Int)+m)) (.int .i64 ((n:Int)+m))).run Tryz.prog W=.ok (.slice (some ⟨W.heap.size,0,none⟩) (n+m) (n+m)) (W.alloc (.cells (madeCells #[.int .u64 0] (n+m)) 122)):=fun W=>by
  have:=e0b (n+m) (by omega) W;rwa[Int.natCast_add]at this
 go_enter Tryz.func94,Tryz.ntmps94;go_wp2_with fail;clear hmk
 go_loopw [6,7,8,9,10,11,20] (fun s6 s7 s8 s9 s10 s11 ii wr=>∃ (k:Nat) (o:List Nat),ii=.int .i64 k∧k≤n∧Hid (MulI a b k o)∧Hid (Arr .u64 122 wr w.heap.size o)∧Hid (Below w.heap.size w wr)) (fun _ _ _ _ _ _ ii _=>n-(intOf ii).toNat)
 case atStart=>exact⟨0,_,rfl,Nat.zero_le _,MulI.start a b,by rw[HA.out,HB.out];exact Arr.made w .u64 122 (n+m),(Below.refl _ _).alloc (Nat.le_refl _) _⟩
 case round=>
  obtain⟨i,o,rfl,hin,hM,hO,hB⟩:=hrel;by_cases hlt:i<n
  ·obtain⟨x,hx⟩:∃ x,(limbs a)[i]?=some x:=⟨_,List.getElem?_eq_getElem (by rw[HA.out];exact hlt)⟩;obtain⟨g,og,rfl,hg,hc⟩:=H3.out _ x hx;have d0:=(hB.out.cell (p:=⟨g,og+i,none⟩) hg).trans hc;have HX:=hid hx;clear hx hc;have hsize:=hid (show o.length=n+m from by rw[hM.out.len,HA.out,HB.out]);go_wp2_with fail;clear d0;obtain⟨wo,rfl⟩:∃ wo:World,wo=wr:=⟨_,rfl⟩
   go_loopw [8,9,10,11,27] (fun cc s9 s10 s11 kk wq=>∃ (c k:Nat) (o:List Nat),cc=.int .u64 c∧kk=.int .i64 k∧k≤m∧Hid (MulJ a b i x k c o)∧Hid (Arr .u64 122 wq w.heap.size o)∧Hid (Below w.heap.size w wq)) (fun _ _ _ _ kk _=>m-(intOf kk).toNat)
   case atStart=>exact⟨0,0,o,rfl,rfl,Nat.zero_le _,hM.out.enter,hO,hB⟩
   case round=>
    obtain⟨c,k,o,rfl,rfl,hkm,hJ,hO,hB⟩:=hrel;have hsz:Hid (o.length=n+m):=by rw[Hid,hJ.out.len,HA.out,HB.out]
    by_cases hkl:k<m
    ·obtain⟨y,hy⟩:∃ y,(limbs b)[k]?=some y:=⟨_,List.getElem?_eq_getElem (by rw[HB.out];exact hkl)⟩;obtain⟨g',og',rfl,hg',hd⟩:=K3.out _ y hy;obtain⟨old,ho⟩:∃ old,o[i+k]?=some old:=⟨_,List.getElem?_eq_getElem (by rw[hsz.out];omega)⟩;have d2:=(hB.out.cell (p:=⟨g',og'+k,none⟩) hg').trans hd;have d3:=hO.out.cell ho;have d4:=hO.out.free (i+k);have hb1:=c0h (hJ.out.sm.get ho) ((a0j a).get HX.out) ((a0j b).get hy) hJ.out.c1;have HN:=hid (hJ.out.next HX.out hy ho);have hol:=hJ.out.sm.get ho;have hcl:=hJ.out.c1;have HP:=hid (show ((x:Int)*(y:Int))=((x*y:Nat):Int) from (Int.natCast_mul x y).symm);obtain⟨p,hp⟩:∃ p,x*y=p:=⟨_,rfl⟩;rw[hp]at hb1 HN HP;have hp2:=hb1.2;have hb1:=hb1.1;clear hd hy ho hp;have e5:IntKind.u64.wrap ((x:Int)*(y:Int))=(p:Int):=by rw[HP.out];exact IntWalk.u64_in _ (by omega)
     go_wp2_with fail;clear e5;go_roundw
     case rel=>
      have hz:(((old:Int)+p+c)%1000000000)=(((old+p+c)%1000000000:Nat):Int):=by omega
      rw[hz];exact⟨(old+p+c) / 1000000000,k+1,_,by go_num,by go_num,by omega,HN,hO.out.set (i+k) _,a0A hB.out (Nat.le_refl _) _⟩
     case measure=>simp[intOf]<;>omega
    ·obtain rfl:k=m:=by omega
     have HJ:=hid (show MulI a b (i+1) (o.set (i+k) c) from by have:=hJ.out;rw[← HB.out]at this ⊢;exact this.leave HX.out);obtain⟨z,hz⟩:∃ z,o[i+k]?=some z:=⟨_,List.getElem?_eq_getElem (by rw[hsz.out];omega)⟩;have d3:=hO.out.cell hz;have d4:=hO.out.free (i+k);clear hz;go_wp2_with fail;go_roundw
     case rel=>exact⟨i+1,_,by go_num,by omega,HJ,hO.out.set (i+k) c,a0A hB.out (Nat.le_refl _) _⟩
     case measure=>simp[intOf]<;>omega
  ·obtain rfl:i=n:=by omega
   have hv:=hid (show val o=a*b from MulI.done (by have:=hM.out;rw[← HA.out]at this;exact this));have hl:=hid (show o.length=i+m from by rw[hM.out.len,HA.out,HB.out])
   have hr:=hid (show Row wr (.slice (some ⟨w.heap.size,0,none⟩) (i+m) (i+m)) (ints .u64 o) from by
    have:=hO.out.row (n:=i+m) (c:=i+m) (by rw[hl.out];exact Nat.le_refl _) (Nat.le_refl _) (by unfold maxLen;omega);rwa[List.take_of_length_le (by rw[hl.out];exact Nat.le_refl _)]at this)
   have ht:=hid (f0c hM.out.sm);rw[hv.out]at ht;go_wp2_with (go_at_call 143;have htr:=d0l wr (some ⟨w.heap.size,0,none⟩) (i+m) o hM.out.sm (by rw[hl.out];exact hr.out);rw[hl.out,hv.out]at htr;refine htr.mono ?_;clear htr;rintro e w1 ⟨rfl,rfl⟩)
   go_ret
   refine⟨⟨_,rfl,?_⟩,hB.out⟩;have:=Arr.owns (B:=w.heap.size) (m:=(limbs (a*b)).length) (c:=i+m) hO.out (Nat.le_refl _) ht.out.1 hl.out.symm (by unfold maxLen;omega);rwa[ht.out.2]at this
theorem h0Q (w:World)(v u:Value)(a b:Nat)(ha:IsN .u64 w v a)(hb:IsN .u64 w u b)(hla:(limbs a).length≤1000000)(hlb:(limbs b).length≤1000000):
 Calls Tryz.prog 94 #[v,u] w fun e w'=>g0l .u64 (a*b) e w'∧Below w.heap.size w w':=
 (e0B w v u a b ha hb hla hlb).mono fun e w' h=>⟨h.1.retN,h.2⟩
structure SubA (a b i c:Nat)(o:List Nat):Prop where
 len:o.length=(limbs a).length
 inv:MinusI a b (o.take i) c
theorem SubA.start (a b:Nat):SubA a b 0 0 (List.replicate (limbs a).length 0):=⟨by simp,by rw[List.take_zero];exact MinusI.start a b⟩
theorem SubA.next {a b i c z c':Nat}{o:List Nat}(h:SubA a b i c o)(hi:i<(limbs a).length)(hz:(limbs a).getD i 0+1000000000*c'=z+c+(limbs b).getD i 0)(h1:z<1000000000)(h2:c'≤1):SubA a b (i+1) c' (o.set i z):=by
 have hl:i<o.length:=by rw[h.len];exact hi
 have hti:(o.take i).length=i:=List.length_take_of_le (by omega);refine⟨by rw[List.length_set,h.len],?_⟩;have:=h.inv.next (z:=z) (c':=c') (by rw[hti];exact hz) h1 h2;rwa[show (o.set i z).take (i+1)=o.take i ++ [z] from ?_]
 rw[List.take_succ_eq_append_getElem (by simpa using hl),List.take_set_of_le (Nat.le_refl _)];simp
theorem SubA.done {a b c:Nat}{o:List Nat}(h:SubA a b (limbs a).length c o)(hle:b≤a):val o=a-b∧Sm o:=by
 have ht:o.take (limbs a).length=o:=List.take_of_length_le (by rw[h.len];exact Nat.le_refl _);have hi:=h.inv;rw[ht]at hi;exact⟨hi.done h.len hle,hi.sm⟩
theorem r0q (w:World)(v u:Value)(a b:Nat)(ha:IsN .u64 w v a)(hb:IsN .u64 w u b)(hle:b≤a)(hla:(limbs a).length≤1000000):
 Calls Tryz.prog 100 #[v,u] w fun e w'=>g0l .u64 (a-b) e w'∧Below w.heap.size w w':=by
 obtain⟨a1,c1,rfl,h1,h2,h3⟩:=ha.openI;obtain⟨a2,c2,rfl,k1,k2,k3⟩:=hb.openI;have H3:=hid h3;have K3:=hid k3;clear h3 k3 ha hb;have hmn:=a0h hle;obtain⟨n,ea⟩:∃ n,(limbs a).length=n:=⟨_,rfl⟩;obtain⟨m,eb⟩:∃ m,(limbs b).length=m:=⟨_,rfl⟩;rw[ea]at h1 hla hmn ⊢;rw[eb]at k1 hmn ⊢;have HA:=hid ea;have HB:=hid eb;have HL:=hid hle;clear ea eb hle;have hmk:=fun W=>e0b n (by omega) W
 go_enter Tryz.func100,Tryz.ntmps100;go_wp2_with fail;clear hmk
 go_loopw [6,7,8,9,15] (fun cc s7 s8 s9 ii wr=>∃ (i c:Nat) (o:List Nat),ii=.int .i64 i∧cc=.int .u64 c∧c≤1∧i≤n∧Hid (SubA a b i c o)∧Hid (Arr .u64 122 wr w.heap.size o)∧Hid (Below w.heap.size w wr))
  (fun _ _ _ _ ii _=>n-(intOf ii).toNat)
 case atStart=>exact⟨0,0,_,rfl,rfl,by omega,by omega,SubA.start a b,by rw[HA.out];exact Arr.made w .u64 122 n,(Below.refl _ _).alloc (Nat.le_refl _) _⟩
 case round=>
  obtain⟨i,c,o,rfl,rfl,hc1,hin,hS,hO,hB⟩:=hrel;have hol:=hid (show o.length=n from by rw[hS.out.len,HA.out]);by_cases hA:i<n
  ·obtain⟨x,hx⟩:∃ x,(limbs a)[i]?=some x:=⟨_,List.getElem?_eq_getElem (by rw[HA.out];exact hA)⟩;obtain⟨g,og,rfl,hg,hc⟩:=H3.out _ x hx;have hc':=(hB.out.cell (p:=⟨g,og+i,none⟩) hg).trans hc;have hxl:=(a0j a).get hx;have HX:=hid hx;clear hx hc;obtain⟨z0,hz0⟩:∃ z,o[i]?=some z:=⟨_,List.getElem?_eq_getElem (by rw[hol.out];exact hA)⟩;have d3:=hO.out.cell hz0;have d4:=hO.out.free i;clear hz0;by_cases hB':i<m
   ·obtain⟨y,hy⟩:∃ y,(limbs b)[i]?=some y:=⟨_,List.getElem?_eq_getElem (by rw[HB.out];exact hB')⟩;obtain⟨g',og',rfl,hg',hd⟩:=K3.out _ y hy;have hd':=(hB.out.cell (p:=⟨g',og'+i,none⟩) hg').trans hd;have hyl:=(a0j b).get hy;have HY:=hid hy;clear hy hd;by_cases hneg:x<c+y
    ·have q1:decide ((x:Int)<(c:Int)+(y:Int))=true:=by simp;omega
     have HN:=hid (hS.out.next (z:=x+1000000000-(c+y)) (c':=1) (by rw[HA.out];exact hA) (by rw[a0x HX.out,a0x HY.out];omega) (by omega) (by omega));go_wp2_with fail;go_roundw
     case rel=>
      have hz:((x:Int)+1000000000-((c:Int)+y))=((x+1000000000-(c+y):Nat):Int):=by omega
      exact⟨i+1,1,_,by go_num,rfl,by omega,by omega,HN,by rw[hz];exact hO.out.set i _,a0A hB.out (Nat.le_refl _) _⟩
     case measure=>simp[intOf]<;>omega
    ·have q1:decide ((x:Int)<(c:Int)+(y:Int))=false:=by simp;omega
     have HN:=hid (hS.out.next (z:=x-(c+y)) (c':=0) (by rw[HA.out];exact hA) (by rw[a0x HX.out,a0x HY.out];omega) (by omega) (by omega));go_wp2_with fail;go_roundw
     case rel=>
      have hz:((x:Int)-((c:Int)+y))=((x-(c+y):Nat):Int):=by omega
      exact⟨i+1,0,_,by go_num,rfl,by omega,by omega,HN,by rw[hz];exact hO.out.set i _,a0A hB.out (Nat.le_refl _) _⟩
     case measure=>simp[intOf]<;>omega
   ·by_cases hneg:x<c
    ·have q1:decide ((x:Int)<(c:Int))=true:=by simp;omega
     have HN:=hid (hS.out.next (z:=x+1000000000-c) (c':=1) (by rw[HA.out];exact hA) (by rw[a0x HX.out,a0H (by rw[HB.out];omega)];omega) (by omega) (by omega));go_wp2_with fail;go_roundw
     case rel=>
      have hz:((x:Int)+1000000000-(c:Int))=((x+1000000000-c:Nat):Int):=by omega
      exact⟨i+1,1,_,by go_num,rfl,by omega,by omega,HN,by rw[hz];exact hO.out.set i _,a0A hB.out (Nat.le_refl _) _⟩
     case measure=>simp[intOf]<;>omega
    ·have q1:decide ((x:Int)<(c:Int))=false:=by simp;omega
     have HN:=hid (hS.out.next (z:=x-c) (c':=0) (by rw[HA.out];exact hA) (by rw[a0x HX.out,a0H (by rw[HB.out];omega)];omega) (by omega) (by omega));go_wp2_with fail;go_roundw
     case rel=>
      have hz:((x:Int)-(c:Int))=((x-c:Nat):Int):=by omega
      exact⟨i+1,0,_,by go_num,rfl,by omega,by omega,HN,by rw[hz];exact hO.out.set i _,a0A hB.out (Nat.le_refl _) _⟩
     case measure=>simp[intOf]<;>omega
  ·obtain rfl:i=n:=by omega
   have hv:=hid (show val o=a-b∧Sm o from SubA.done (by have:=hS.out;rw[← HA.out]at this;exact this) HL.out)
   have hr:=hid (show Row wr (.slice (some ⟨w.heap.size,0,none⟩) i i) (ints .u64 o) from by
    have:=hO.out.row (n:=i) (c:=i) (by rw[hol.out];exact Nat.le_refl _) (Nat.le_refl _) (by unfold maxLen;omega);rwa[List.take_of_length_le (by rw[hol.out];exact Nat.le_refl _)]at this)
   go_wp2_with (go_at_call 143;refine (o0m _ _ o hv.out.2 hr.out).mono ?_;rintro e w1 ⟨⟨v1,rfl,hv1⟩,rfl⟩)
   go_ret
   exact⟨⟨v1,rfl,by rw[← hv.out.1];exact hv1⟩,hB.out⟩
open Go.Shelf
attribute [local go_sem] Oper.semAt_some
theorem q0k (x y:Nat)(w:World):Calls Tryz.prog 144 #[.int .i64 x,.int .i64 y] w fun e w'=>e=.returned (.int .i64 (b0e x y))∧w=w':=by
 rcases Nat.lt_trichotomy x y with h | h | h
 ·have q1:decide (x<y)=true:=by simpa using h
  have HO:=hid (b0t h);clear h;go_enter Tryz.func144,Tryz.ntmps144;go_wp2
  go_ret
  exact⟨a0G HO.out.symm,rfl⟩
 ·subst h;have q1:decide (x<x)=false:=by simp
  have HO:=hid (c0O (a:=x));go_enter Tryz.func144,Tryz.ntmps144;go_wp2
  go_ret
  exact⟨a0G HO.out.symm,rfl⟩
 ·have q1:decide (x<y)=false:=by simp;omega
  have q2:decide (y<x)=true:=by simpa using h
  have HO:=hid (b0M h);clear h;go_enter Tryz.func144,Tryz.ntmps144;go_wp2
  go_ret
  exact⟨a0G HO.out.symm,rfl⟩
theorem q0j (x y:Nat)(w:World):Calls Tryz.prog 145 #[.int .u64 x,.int .u64 y] w fun e w'=>e=.returned (.int .i64 (b0e x y))∧w=w':=by
 rcases Nat.lt_trichotomy x y with h | h | h
 ·have q1:decide (x<y)=true:=by simpa using h
  have HO:=hid (b0t h);clear h;go_enter Tryz.func145,Tryz.ntmps145;go_wp2
  go_ret
  exact⟨a0G HO.out.symm,rfl⟩
 ·subst h;have q1:decide (x<x)=false:=by simp
  have HO:=hid (c0O (a:=x));go_enter Tryz.func145,Tryz.ntmps145;go_wp2
  go_ret
  exact⟨a0G HO.out.symm,rfl⟩
 ·have q1:decide (x<y)=false:=by simp;omega
  have q2:decide (y<x)=true:=by simpa using h
  have HO:=hid (b0M h);clear h;go_enter Tryz.func145,Tryz.ntmps145;go_wp2
  go_ret
  exact⟨a0G HO.out.symm,rfl⟩
theorem n0p {a b:Nat}(h:(limbs a).length≠(limbs b).length):b0e (limbs a).length (limbs b).length=b0e a b:=by
 rcases Nat.lt_or_gt_of_ne h with h | h
 ·rw[b0t h,b0t (b0J h)]
 ·rw[b0M h,b0M (b0J h)]
theorem n0A (w:World)(v u:Value)(a b:Nat)(ha:IsN .u64 w v a)(hb:IsN .u64 w u b)(hne:(limbs a).length≠(limbs b).length):
 Calls Tryz.prog 95 #[v,u] w fun e w'=>e=.returned (.int .i64 (b0e a b))∧Below w.heap.size w w':=by
 obtain⟨a1,c1,rfl,h1,h2,-⟩:=ha.openI;obtain⟨a2,c2,rfl,k1,k2,-⟩:=hb.openI;clear ha hb;have HO:=hid (n0p hne);obtain⟨n,ea⟩:∃ n,(limbs a).length=n:=⟨_,rfl⟩;obtain⟨m,eb⟩:∃ n,(limbs b).length=n:=⟨_,rfl⟩;rw[ea]at h1 hne HO ⊢;rw[eb]at k1 hne HO ⊢;have q0:((n:Int) != (m:Int))=true:=by simp;omega
 clear ea eb hne;go_enter Tryz.func95,Tryz.ntmps95;go_wp2_with (go_at_call 144;refine (q0k _ _ _).mono ?_;rintro e w' ⟨rfl,rfl⟩)
 rw[HO.out];exact bodyPost_ret (v:=.int .i64 (b0e a b)) (by simp[results,Tryz.results95,go_sem]) rfl ⟨rfl,(((Below.refl _ _).alloc (Nat.le_refl _) _).alloc (by simp) _).alloc (by simp;omega) _⟩
theorem l0Y {l:List Nat}{n k:Nat}(h:l.length=n)(hk:n≤k):l.drop k = []:=List.drop_of_length_le (by omega)
theorem h0D {a b n j x y:Nat}(ha:(limbs a).length=n)(hb:(limbs b).length=n)(hx:(limbs a)[j]?=some x)(hy:(limbs b)[j]?=some y)(hd:(limbs a).drop (j+1)=(limbs b).drop (j+1))(hne:¬ x=y):b0e x y=b0e a b:=by
 rcases Nat.lt_or_gt_of_ne hne with h | h
 ·rw[b0t h,b0t (d0h (ha.trans hb.symm) hx hy hd h)]
 ·rw[b0M h,b0M (d0h (hb.trans ha.symm) hy hx hd.symm h)]
theorem n0B (w:World)(v u:Value)(a b:Nat)(ha:IsN .u64 w v a)(hb:IsN .u64 w u b)(hne:(limbs a).length=(limbs b).length)(hlen:(limbs a).length≤1000000):
 Calls Tryz.prog 95 #[v,u] w fun e w'=>e=.returned (.int .i64 (b0e a b))∧Below w.heap.size w w':=by
 obtain⟨a1,c1,rfl,h1,h2,h3⟩:=ha.openI;obtain⟨a2,c2,rfl,k1,k2,k3⟩:=hb.openI;have H3:=hid h3;have K3:=hid k3;clear h3 k3 ha hb;obtain⟨n,ea⟩:∃ n,(limbs a).length=n:=⟨_,rfl⟩;have eb:(limbs b).length=n:=hne.symm.trans ea;rw[ea]at h1 hlen ⊢;rw[eb]at k1 ⊢;have HA:=hid ea;have HB:=hid eb;clear hne ea eb;refine (callsIn_wide (n:=9)).1 ?_;refine callsIn_of_wp_marks Tryz.func95 rfl trivial ?_ rfl;simp only[Tryz.ntmps95,List.size_toArray,List.length_cons,List.length_nil,Nat.reduceAdd,Nat.reduceSub,Array.replicate_succ,Array.replicate_zero,List.push_toArray,List.append_toArray,List.nil_append,List.cons_append]
 gi_wp2_with (refine⟨trivial,?_⟩;gi_at_call 120;refine (callsIn_wide.2 (d0s _ _ _ _)).mono ?_;rintro e w' ⟨rfl,rfl⟩)
 obtain⟨W0,hW0⟩:∃ W0,(((w.alloc (.cells #[.slice a1 n c1] 55)).alloc (.cells #[.slice a2 n c2] 55)).alloc (.cells #[.int .i64 0] 3)).alloc (.cells #[.slice a1 n c1] 55)=W0:=⟨_,rfl⟩;have y0:Blk W0 w.heap.size #[.slice a1 n c1] 55:=by rw[← hW0];exact (((Blk.new w _ _).alloc _).alloc _).alloc _
 have y1:Blk W0 (w.heap.size+1) #[.slice a2 n c2] 55:=by rw[← hW0];exact ((Blk.made _ _ _ (by simp)).alloc _).alloc _
 have y2:Blk W0 (w.heap.size+1+1) #[.int .i64 0] 3:=by rw[← hW0];exact (Blk.made _ _ _ (by simp)).alloc _
 have y3:Blk W0 (w.heap.size+1+1+1) #[.slice a1 n c1] 55:=by rw[← hW0];exact Blk.made _ _ _ (by simp)
 have B0:Below w.heap.size w W0:=by rw[← hW0];exact ((((Below.refl _ _).alloc (Nat.le_refl _) _).alloc (by simp) _).alloc (by simp;omega) _).alloc (by simp;omega) _
 have z0:W0.heap.size=w.heap.size+4:=by rw[← hW0];simp
 rw[hW0];have Y0:=hid y0;have Y1:=hid y1;have Y2:=hid y2;have Y3:=hid y3;have HB0:=hid B0;have Z0:=hid z0;clear y0 y1 y2 y3 B0 z0 hW0;have hread:∀ W1 W2,Below W0.heap.size W0 W1→Below W0.heap.size W1 W2→W2.cell? ⟨w.heap.size+1+1+1,0,none⟩=some (.slice a1 n c1)∧∀ i,i<n→∃ g o z,a1=some ⟨g,o,none⟩∧W2.cell? ⟨g,o+i,none⟩=some (.int .u64 z)∧True:=fun W1 W2 b1 b2=>by
  have b3:=b1.trans b2;refine⟨(Y3.out.call b3).cell 0,fun i hi=>?_⟩;obtain⟨x,hx⟩:∃ x,(limbs a)[i]?=some x:=⟨_,List.getElem?_eq_getElem (by rw[HA.out];exact hi)⟩;obtain⟨g,o,rfl,hg,hc⟩:=H3.out i x hx;exact⟨g,o,_,rfl,((b3.cell (p:=⟨g,o+i,none⟩) (by have:=Z0.out;simp;omega)).trans (HB0.out.cell (p:=⟨g,o+i,none⟩) hg)).trans hc,trivial⟩
 refine d0Z (by omega) (gf:=165) (lb:=#[.pointer (some ⟨w.heap.size+1+1+1,0,none⟩)]) rfl (enters_of Tryz.func165 (by kernel_rfl) rfl)
  (c0C (Kp:=Below W0.heap.size) (V:=fun _ _=>True) 8 (by omega) _ n c1 a1 (by omega) h1 W0 (fun W=>Below.refl _ W) (fun h k=>h.trans k) hread) (fun h k=>h.trans k) (belowK_b (Nat.le_refl _)) (Below.refl _ _) (fun _=>rfl)
  (fun pre W=>Hid ((limbs a).drop (n-pre.length)=(limbs b).drop (n-pre.length))∧Below W0.heap.size W0 W)
  (fun c pre W=>(c=.ret∧Blk W (w.heap.size+1+1) #[.int .i64 (b0e a b)] 3)∧Below w.heap.size w W)
  (OwnFrom.and (fun s A B row hs hg hr=>hs) (ownFrom_below (Nat.le_refl _) (Nat.le_refl _)))
  (fun c=>OwnFrom.and (fun s A B row hs hg hr=>⟨hs.1,hs.2.kept hg (fun r e=>(hr r e).2)⟩) (ownFrom_below (Nat.le_refl _) (by have:=Z0.out;omega)))
  ⟨by rw[Hid,l0Y HA.out (by simp),l0Y HB.out (by simp)],Below.refl _ _⟩ ?act ?assign ?body ?done ?stop
 case assign=>
  intro l x W K hK
  gi_wp2
  exact hK
 case body=>
  rintro l pre ⟨j,z⟩ W ⟨hj,-⟩ ⟨hd,hB⟩;dsimp only at hj;rw[show n-pre.length=j+1 by omega]at hd;obtain⟨x,hx⟩:∃ x,(limbs a)[j]?=some x:=⟨_,List.getElem?_eq_getElem (by rw[HA.out];omega)⟩;obtain⟨y,hy⟩:∃ y,(limbs b)[j]?=some y:=⟨_,List.getElem?_eq_getElem (by rw[HB.out];omega)⟩;obtain⟨g,o,rfl,hg,hc⟩:=H3.out j x hx;obtain⟨g',o',rfl,hg',hc'⟩:=K3.out j y hy;have z0:=Z0.out;have d1:=((hB.cell (p:=⟨g,o+j,none⟩) (by simp;omega)).trans (HB0.out.cell (p:=⟨g,o+j,none⟩) hg)).trans hc;have d2:=((hB.cell (p:=⟨g',o'+j,none⟩) (by simp;omega)).trans (HB0.out.cell (p:=⟨g',o'+j,none⟩) hg')).trans hc';have b0:=(Y0.out.call hB).cell 0;have b1:=(Y1.out.call hB).cell 0;have y2:=Y2.out.call hB;have b2:=y2.cell 0;have b3:=y2.free 0;simp only[List.getElem?_toArray,List.getElem?_cons_zero]at b0 b1 b2;have HX:=hid hx;have HY:=hid hy;have HBB:=hid hB;have HJ:=hid hj;have HY2:=hid y2;clear hx hy hc hc' hB z0 hj y2;have f1:(0:Int)≤(j:Int):=by omega
  have f2:(j:Int)<(n:Int):=by have:=HJ.out;omega
  by_cases hxy:x=y
  ·subst hxy
   gi_wp2
   refine c0K (by kernel_rfl) (by kernel_rfl) (by kernel_rfl) ?_
   repeat (gi_big_quiet_step (fail))
   refine wpQuietIn_nil ?_;intro _ hw';obtain⟨nq,rfl⟩:=hw'
   gi_wp2
   refine⟨⟨Nat.le_refl _,fun _ _ _ h _=>h⟩,a0i (Below.refl _ _) _,?_,a0i HBB.out _⟩;rw[List.length_append,List.length_singleton,show n-(pre.length+1)=j by have:=HJ.out;omega];exact d0O HX.out HY.out hd.out
  ·have q1:((x:Int) != (y:Int))=true:=by simp;omega
   have HNE:=hid hxy;clear hxy
   gi_wp2
   refine c0K (by kernel_rfl) (by kernel_rfl) (by kernel_rfl) ?_
   repeat (gi_big_quiet_step (fail))
   refine wpQuietIn_nil ?_;intro _ hw';obtain⟨nq,rfl⟩:=hw'
   gi_wp2
   obtain⟨V,hV⟩:∃ V,W.drewN nq=V:=⟨_,rfl⟩;have v1:V.cell? ⟨g,o+j,none⟩=some (.int .u64 (x:Int)):=by rw[← hV];exact d1
   have v2:V.cell? ⟨g',o'+j,none⟩=some (.int .u64 (y:Int)):=by rw[← hV];exact d2
   have v3:V.cell? ⟨w.heap.size,0,none⟩=some (.slice (some ⟨g,o,none⟩) n c1):=by rw[← hV];exact b0
   have v4:V.cell? ⟨w.heap.size+1,0,none⟩=some (.slice (some ⟨g',o',none⟩) n c2):=by rw[← hV];exact b1
   have v5:V.cell? ⟨w.heap.size+1+1,0,none⟩=some (.int .i64 0):=by rw[← hV];exact b2
   have v6:V.frozen? ⟨w.heap.size+1+1,0,none⟩=false:=by rw[← hV];exact b3
   have HVB:=hid (show Below W0.heap.size W0 V from by rw[← hV];exact a0i HBB.out nq);have HVY:=hid (show Blk V (w.heap.size+1+1) #[.int .i64 0] 3 from by rw[← hV];exact HY2.out);have HVW:=hid (show KeepsFrom W0.heap.size W V from by rw[← hV];exact⟨Nat.le_refl _,fun _ _ _ h _=>h⟩);rw[hV];clear hV d1 d2 b0 b1 b2 b3 HBB HY2;refine d0U 9 (by kernel_rfl) rfl (by kernel_rfl) (by kernel_rfl) (by kernel_rfl) ?_;simp only[List.take_succ_cons,List.take_zero]
   repeat (gi_big_quiet_step (fail))
   refine wpQuietIn_step (fun _ _ f hf=>trivial) (fun K hK=>?_)
   go_simp
   refine⟨_,fun _=>CallsIn.quiet_of_same ((callsIn_wide.2 (q0j x y _)).mono fun _ _ h=>⟨h.1,h.2.symm⟩),hK _ ?_⟩;clear hK K;refine wpQuietIn_nil ?_;intro _ hw';obtain⟨nq2,rfl⟩:=hw'
   gi_wp2
   have hord:=h0D HA.out HB.out HX.out HY.out hd.out HNE.out;refine⟨HVW.out.trans ⟨by simp[World.setCell],fun k o hk ho hc=>?_⟩,⟨rfl,?_⟩,?_⟩
   ·exact (KeepsOthers.setCell (V.drewN nq2) _ _).same k o ho hc
   ·rw[← hord];exact HVY.out.set 0 _
   ·exact (a0i (HB0.out.trans (HVB.out.mono (by have:=Z0.out;omega))) nq2).setCell (by simp;omega) _
 case done=>
  rintro D xs W hD hx ⟨hd,hB⟩ hK;rw[hx,Nat.sub_self,List.drop_zero,List.drop_zero]at hd;have hab:a=b:=d0k hd.out;have y2:=Y2.out.call hB;have b2:=y2.cell 0;have b3:=y2.free 0;simp only[List.getElem?_toArray,List.getElem?_cons_zero]at b2;have HAB:=hid hab;have HBB:=hid hB;have HY2:=hid y2;have HK:=hid hK;clear hab hB y2 hK hd hx
  gi_wp2
  have hy3:=HY2.out.set 0 (.int .i64 0);have hk3:=(KeepsOthers.setCell W ⟨w.heap.size+1+1,0,none⟩ (.int .i64 0)).same D _ HK.out rfl;have hy4:=hy3.kept (grownBy_putObj' _ D (.deferred none)) (fun r e=>by cases e;exact⟨_,hk3,rfl⟩);have hc4:=hy4.cell 0;simp at hc4;refine c0i hk3 (v:=.int .i64 0) (by simp[results,Tryz.results95,go_sem,hc4]) ⟨by rw[HAB.out,c0O],?_⟩;exact ((HB0.out.trans (HBB.out.mono (by have:=Z0.out;omega))).setCell (by simp;omega) _).trans (belowK_b (w:=w) (Nat.le_refl _) _ D _ _ (by have:=Z0.out;omega) hk3 rfl rfl)
 case stop=>
  rintro D c pre W hD-⟨⟨rfl,hy⟩,hB⟩ hK
  gi_wp2
  have hy4:=hy.kept (grownBy_putObj' _ D (.deferred none)) (fun r e=>by cases e;exact⟨_,hK,rfl⟩);have hc4:=hy4.cell 0;simp only[List.getElem?_toArray,List.getElem?_cons_zero]at hc4;refine c0i hK (v:=.int .i64 (b0e a b)) (by simp[results,Tryz.results95,go_sem,hc4]) ⟨rfl,?_⟩;exact hB.trans (belowK_b (w:=w) (Nat.le_refl _) _ D _ _ (by have:=Z0.out;omega) hK rfl rfl)
theorem l0s (w:World)(v u:Value)(a b:Nat)(ha:IsN .u64 w v a)(hb:IsN .u64 w u b)(hla:(limbs a).length≤1000000):
 Calls Tryz.prog 95 #[v,u] w fun e w'=>e=.returned (.int .i64 (b0e a b))∧Below w.heap.size w w':=by
 by_cases h:(limbs a).length=(limbs b).length
 ·exact n0B w v u a b ha hb h hla
 ·exact n0A w v u a b ha hb h
open Go.Lib (decDigits nDigits)
theorem p0z {a b k l:Nat}(ha:(limbs a).length≤k)(hb:(limbs b).length≤l):(limbs (a+b)).length≤k+l+1:=by
 have h1:=a0e.1 ha;have h2:=a0e.1 hb;refine a0e.2 ?_;have h3:1000000000 ^ k≤1000000000 ^ (k+l):=Nat.pow_le_pow_right (by omega) (by omega);have h4:1000000000 ^ l≤1000000000 ^ (k+l):=Nat.pow_le_pow_right (by omega) (by omega);rw[Nat.pow_succ];omega
theorem d0E {a b k l:Nat}(ha:(limbs a).length≤k)(hb:(limbs b).length≤l):(limbs (a*b)).length≤k+l:=by
 have h1:=a0e.1 ha;have h2:=a0e.1 hb;refine a0e.2 ?_;rw[Nat.pow_add];exact Nat.mul_lt_mul'' h1 h2
end Go.Proofs.YtlimaehdmcnjaaaGreatDoor
namespace Go.Proofs.YtlimaehdmcnjaaaGreatDoor
open Go.RowKit
open Go.Lib (decDigits nDigits)
theorem c0q (n:Nat):bN (b0h n)=n:=by rw[bN,a0D,b0G]
def sdV (N D K T:Nat):Nat:=if N*T≤K*D then 0 else 1
def sdB (N D K T:Nat):Bool:=decide (N*T≤K*D) || decide (K*D+D≤N*T)
def s0q (N D:Nat):Nat→Nat→List UInt8→Bool×Nat×Nat
 | K,T,l=>
  if sdB N D K T=true then (true,sdV N D K T,0)
  else match l with
   | []=>(false,0,0)
   | b::r=>
    let x:=s0q N D (2*K+(if b=49 then 1 else 0)) (2*T) r
    (x.1,x.2.1,x.2.2+1)
 termination_by _ _ l=>l.length
def eN:Nat:=1000
theorem e0J {a b k l:Nat}(ha:a<10 ^ k)(hb:b<10 ^ l):a*b<10 ^ (k+l):=by
 rw[Nat.pow_add];exact Nat.mul_lt_mul'' ha hb
theorem p0R {a b k:Nat}(ha:a<10 ^ k)(hb:b<10 ^ k):a+b<10 ^ (k+1):=by
 rw[Nat.pow_succ];omega
theorem l0J {a k l:Nat}(ha:a<10 ^ k)(h:k≤l):a<10 ^ l:=Nat.lt_of_lt_of_le ha (Nat.pow_le_pow_right (by omega) h)
theorem h0F {s:ByteArray}(h:fB s=true):s=b0h (bN s):=by
 have h1:=c0U (b0F.1 h);apply ByteArray.ext
 show s.data=(decDigits (dv s.data.toList)).toArray
 rw[← h1]
end Go.Proofs.YtlimaehdmcnjaaaGreatDoor
