/- Texts that the proof rests on, merged: R1d, R1k, R1l, R1m, R1n, R1c, R2d, R2e, R2f, R2i, R2h, R1q, R1f, R1g, R1h, R1i, R1j, R2a, R1e, Rp11, Rp12, Pn6, Rp13, Fd4. -/
import Derived.Test.YtlmnpocifldpmaaGreatDoorKc5
import Derived.IntWalk
import Derived.Laws.IdiomStrings
import Derived.WalkSpells
import Derived.Laws.Concat
import Derived.Deep.RegionHeld3
import Derived.Deep.DeepCutAuto
import Derived.Deep.CutBlock
import Derived.Deep.AppendLies
import Derived.WalkLawsBesides
import Derived.Sort.Walk0
set_option linter.unusedVariables false
set_option linter.unusedSimpArgs false
set_option linter.unusedSectionVars false
set_option maxRecDepth 100000
set_option maxHeartbeats 8000000
namespace Go.Proofs.YtlmnpocifldpmaaGreatDoor
open Go.RowKit
theorem d0x (n:Nat)(hn:n≤3000000)(W:World):(Instr.makeSlice 89 (.int .i64 (n:Int)) (.int .i64 (n:Int))).run Tryz.prog W=.ok (.slice (some ⟨W.heap.size,0,none⟩) n n) (W.alloc (.cells (madeCells #[.int .i64 0] n) 3)):=
 run_make_row' (P:=Tryz.prog) 89 3 (.int .i64 0) 8 Tryz.underlying89 (by kernel_rfl) rfl .i64 .i64 n (by omega) (by omega) W
theorem b0y (w:World)(v u:Value)(a b:Nat)(ha:IsN .i64 w v a)(hb:IsN .i64 w u b)(hla:(limbs a).length≤1000000)(hlb:(limbs b).length≤1000000):
 Calls Tryz.prog 132 #[v,u] w fun e w'=>j0T .i64 (a*b) e w'∧Below w.heap.size w w':=by
 obtain⟨a1,c1,rfl,h1,h2,h3⟩:=ha.openI;obtain⟨a2,c2,rfl,k1,k2,k3⟩:=hb.openI;have H3:=hid h3;have K3:=hid k3;clear h3 k3 ha hb;obtain⟨n,ea⟩:∃ n,(limbs a).length=n:=⟨_,rfl⟩;obtain⟨m,eb⟩:∃ m,(limbs b).length=m:=⟨_,rfl⟩;rw[ea]at h1 hla ⊢;rw[eb]at k1 hlb ⊢;have HA:=hid ea;have HB:=hid eb;clear ea eb;have hmk:∀ W:World,(Instr.makeSlice 89 (.int .i64 ((n:Int)+m)) (.int .i64 ((n:Int)+m))).run Tryz.prog W=.ok (.slice (some ⟨W.heap.size,0,none⟩) (n+m) (n+m)) (W.alloc (.cells (madeCells #[.int .i64 0] (n+m)) 3)):=fun W=>by
  have:=d0x (n+m) (by omega) W;rwa[Int.natCast_add]at this
 go_enter Tryz.func132,Tryz.ntmps132;go_wp2_with fail;clear hmk
 go_loopw [6] (fun i wr=>∃ (k:Nat) (o:List Nat),i=.int .i64 k∧k≤n∧Hid (MulI a b k o)∧Hid (Arr .i64 3 wr w.heap.size o)∧Hid (Below w.heap.size w wr)) (fun i _=>n-(intOf i).toNat)
 case atStart=>exact⟨0,_,rfl,Nat.zero_le _,MulI.start a b,by rw[HA.out,HB.out];exact Arr.made w .i64 3 (n+m),(Below.refl _ _).alloc (Nat.le_refl _) _⟩
 case round=>
  obtain⟨i,o,rfl,hin,hM,hO,hB⟩:=hrel;by_cases hlt:i<n
  ·obtain⟨x,hx⟩:∃ x,(limbs a)[i]?=some x:=⟨_,List.getElem?_eq_getElem (by rw[HA.out];exact hlt)⟩;obtain⟨g,og,rfl,hg,hc⟩:=H3.out _ x hx;have HX:=hid hx;have HC:=hid hc;clear hx hc;have hsize:=hid (show o.length=n+m from by rw[hM.out.len,HA.out,HB.out]);go_wp2_with fail;obtain⟨wo,rfl⟩:∃ wo:World,wo=wr:=⟨_,rfl⟩
   go_loopw [7,8,9] (fun cc kk nn wq=>∃ (c k:Nat) (o:List Nat),cc=.int .i64 c∧kk=.int .i64 k∧k≤m∧Hid (MulJ a b i x k c o)∧Hid (Arr .i64 3 wq w.heap.size o)∧Hid (Below w.heap.size w wq)) (fun _ kk _ _=>m-(intOf kk).toNat)
   case atStart=>exact⟨0,0,o,rfl,rfl,Nat.zero_le _,hM.out.enter,hO,hB⟩
   case round=>
    obtain⟨c,k,o,rfl,rfl,hkm,hJ,hO,hB⟩:=hrel;have hsz:Hid (o.length=n+m):=by rw[Hid,hJ.out.len,HA.out,HB.out]
    by_cases hkl:k<m
    ·obtain⟨y,hy⟩:∃ y,(limbs b)[k]?=some y:=⟨_,List.getElem?_eq_getElem (by rw[HB.out];exact hkl)⟩;obtain⟨g',og',rfl,hg',hd⟩:=K3.out _ y hy;obtain⟨old,ho⟩:∃ old,o[i+k]?=some old:=⟨_,List.getElem?_eq_getElem (by rw[hsz.out];omega)⟩;have d1:=(hB.out.cell (p:=⟨g,og+i,none⟩) hg).trans HC.out;have d2:=(hB.out.cell (p:=⟨g',og'+k,none⟩) hg').trans hd;have d3:=hO.out.cell ho;have d4:=hO.out.free (i+k);have hb1:=d0d (hJ.out.sm.get ho) ((a0l a).get HX.out) ((a0l b).get hy) hJ.out.c1;have HN:=hid (hJ.out.next HX.out hy ho);have hol:=hJ.out.sm.get ho;have hcl:=hJ.out.c1;have HP:=hid (show ((x:Int)*(y:Int))=((x*y:Nat):Int) from (Int.natCast_mul x y).symm);obtain⟨p,hp⟩:∃ p,x*y=p:=⟨_,rfl⟩;rw[hp]at hb1 HN HP;have hp2:=hb1.2;have hb1:=hb1.1;clear hd hy ho hp;have e1:(0:Int)≤(i:Int)+k:=by omega
     have e2:(i:Int)+k<(n:Int)+m:=by omega
     have f1:(0:Int)≤(i:Int):=by omega
     have f2:(i:Int)<(n:Int):=by omega
     have f3:(0:Int)≤(k:Int):=by omega
     have f4:(k:Int)<(m:Int):=by omega
     have e3:IntKind.i64.wrap ((i:Int)+k)=(i:Int)+k:=IntWalk.i64_in _ (by omega);have e4:((i:Int)+k).toNat=i+k:=by omega
     have e5:IntKind.i64.wrap ((x:Int)*(y:Int))=(p:Int):=by rw[HP.out];exact IntWalk.i64_in _ (by omega)
     have e6:IntKind.i64.wrap ((old:Int)+(p:Int))=(old:Int)+(p:Int):=IntWalk.i64_in _ (by omega);have e7:IntKind.i64.wrap ((old:Int)+(p:Int)+(c:Int))=(old:Int)+(p:Int)+(c:Int):=IntWalk.i64_in _ (by omega);go_wp2_with fail;go_quiet (fail)
     clear e3 e4 e5 e6 e7;go_wp2_with fail;go_roundw
     case rel=>
      have hz:(((old:Int)+p+c)%1000000000)=(((old+p+c)%1000000000:Nat):Int):=by omega
      rw[hz];exact⟨(old+p+c) / 1000000000,k+1,_,by go_num,by go_num,by omega,HN,(hO.out.drewN _).set (i+k) _,a0B (a0h hB.out _) (Nat.le_refl _) _⟩
     case measure=>simp[intOf]<;>omega
    ·obtain rfl:k=m:=by omega
     have HJ:=hid (show MulI a b (i+1) (o.set (i+k) c) from by have:=hJ.out;rw[← HB.out]at this ⊢;exact this.leave HX.out);obtain⟨z,hz⟩:∃ z,o[i+k]?=some z:=⟨_,List.getElem?_eq_getElem (by rw[hsz.out];omega)⟩;have d3:=hO.out.cell hz;have d4:=hO.out.free (i+k);clear hz;go_wp2_with fail;go_roundw
     case rel=>exact⟨i+1,_,by go_num,by omega,HJ,hO.out.set (i+k) c,a0B hB.out (Nat.le_refl _) _⟩
     case measure=>simp[intOf]<;>omega
  ·obtain rfl:i=n:=by omega
   have hv:=hid (show val o=a*b from MulI.done (by have:=hM.out;rw[← HA.out]at this;exact this));have hl:=hid (show o.length=i+m from by rw[hM.out.len,HA.out,HB.out]);have hr:=hid (show Row wr (.slice (some ⟨w.heap.size,0,none⟩) (i+m) (i+m)) (b0c .i64 o) from by
    have:=hO.out.row (n:=i+m) (c:=i+m) (by rw[hl.out];exact Nat.le_refl _) (Nat.le_refl _) (by unfold maxLen;omega);rwa[List.take_of_length_le (by rw[hl.out];exact Nat.le_refl _)]at this)
   go_wp2_with (go_at_call 109;refine (f0P _ _ o hM.out.sm hr.out).mono ?_;rintro e w1 ⟨⟨v1,rfl,hv1⟩,rfl⟩)
   go_ret
   exact⟨⟨v1,rfl,by rw[← hv.out];exact hv1⟩,hB.out⟩
theorem f0o (w:World)(s:ByteArray)(hd:allDig s.data.toList)(hs:s.size≤1000000):
 Calls Tryz.prog 50 #[.string s] w fun e w'=>RetFr w.heap.size .i64 (dv s.data.toList) e w'∧Below w.heap.size w w':=by
 obtain⟨i0,hi,hz0,hz1,hz2⟩:=info_parts h0Y;have HD:=hid hd;clear hd;have hsl:=hid (show s.data.toList.length=s.size from by simp);go_enter Tryz.func50,Tryz.ntmps50;go_wp2_with fail
 go_loopw [3,4,5,6] (fun o ee nn ii wr=>∃ (l:List Nat) (t:Int) (e:Nat),ee=.int .i64 t∧t≤s.size ∧ -9<t∧e=t.toNat∧l.length≤s.size∧l.length+e≤s.size∧Hid (ReadI s.data.toList e l)∧Hid (wr.ownsRow w.heap.size 3 1 o l.length (b0c .i64 l))∧Hid (Below w.heap.size w wr))
  (fun _ ee _ _ _=>(intOf ee).toNat)
 case atStart=>exact⟨[],_,s.size,rfl,by omega,by omega,by simp,by simp,by simp,by have:=ReadI.start s.data.toList;rw[hsl.out]at this;exact this,World.ownsRow_nil _ _ _ _,Below.refl _ _⟩
 case round=>
  obtain⟨l,t,e,rfl,ht1,ht2,he,hl1,hl2,hR,hO,hB⟩:=hrel;obtain⟨ao,co,rfl⟩:=a0p hO.out;by_cases h0:e=0
  ·have q0:decide ((0:Int)<t)=false:=by simp;omega
   subst h0;have hv:=hid hR.out.done;clear he;go_wp2_with fail;refine (d0t _ _ _ l hR.out.sm (Row.of_owns hO.out)).mono ?_;rintro e w1 ⟨⟨m,rfl,hv1⟩,rfl⟩;go_wp2_with fail;go_ret
   refine⟨⟨_,rfl,by rw[← hv.out];exact hv1,fun g hg=>(hO.out.lt g ?_).1⟩,hB.out⟩;cases ao with
   | none=>simp[Value.ownBlock]at hg
   | some ad=>simpa[Value.ownBlock]using hg
  ·obtain rfl:t=(e:Int):=by omega
   clear he;have q0:decide ((0:Int)<(e:Int))=true:=by simp;omega
   obtain⟨L,hL⟩:∃ L,s.data.toList=L:=⟨_,rfl⟩;obtain⟨s0,hs0⟩:∃ s0,s0=e-9:=⟨_,rfl⟩;have HS0:=hid hs0;have h3:s0≤e:=by omega
   have h4:e≤s0+9:=by omega
   have hI:(9<e∧(e:Int)-9=(s0:Int))∨(e≤9∧(0:Int)=(s0:Int)):=by omega
   clear hs0;rcases hI with ⟨h9,hse⟩ | ⟨h9,hse⟩
   all_goals
    have HSE:=hid hse;clear hse;go_wp2_with fail
    go_loop [5,6] (fun nn ii=>∃ (i x:Nat),ii=.int .i64 i∧nn=.int .i64 x∧s0≤i∧i≤e∧x<1000000000∧Hid (x=dv ((L.drop s0).take (i-s0)))) (fun _ ii=>e-(intOf ii).toNat)
    case atStart=>exact⟨s0,0,by have hh:=HSE.out;first | (rw[← hh];done) | (congr 1;omega),rfl,Nat.le_refl _,h3,by omega,by simp[Hid]⟩
    case round=>
     obtain⟨i,x,rfl,rfl,hi1,hi2,hx,hxd⟩:=hrel;by_cases hlt:i<e
     ·have hsz:i<s.size:=by omega
      have hb:=d0G hsz;rw[hL]at hb;have hdig:=a0K.1 (HD.out s[i] (List.mem_of_getElem? (by rw[hL];exact hb)));have hd1:=hdig.1;have hd2:=hdig.2;have hcs:=hid (n0h hb hi1);have hlt9:=hid (l0X (L:=L) (a:=s0) (k:=i+1-s0) (by rw[← hL];exact HD.out) (by omega));clear hb hdig;go_wp2_with fail;go_round
      case rel=>
       refine⟨i+1,10*x+(s[i].toNat-48),by go_num,?_,by omega,by omega,?_,?_⟩
       ·congr 1;omega
       ·have:=hlt9.out;rw[hcs.out,← hxd.out]at this;exact this
       ·rw[Hid,hcs.out,← hxd.out]
      case measure=>simp[intOf]<;>omega
     ·obtain rfl:i=e:=by omega
      have HN:=hid (hR.out.next HD.out);rw[hL,← HS0.out,← hxd.out]at HN;go_wp2_with (at_builtin;refine wpList_append_own _ rfl _ _ 89 rfl w.heap.size 3 i0 (.int .i64 0) 1 8 Tryz.underlying89 hi hz0 hz1 hz2 rfl (by decide) _ l.length _ rfl (hO.out.alloc _) ⟨wr.heap.size,0,none⟩ 1 1 [.int .i64 (x:Int)] rfl rfl (cell_one_new wr (.int .i64 (x:Int)) 3) (by simp[Value.oneCell']) (by unfold maxLen;omega) (by omega) (by have:=hB.out.size;simp;omega) ?_;intro v' w3 hown3 hgrow3 _;have HO3:=hid hown3;have HG3:=hid hgrow3;clear hown3 hgrow3)
      obtain⟨n1,n2⟩:=a0x hO.out hB.out HO3.out HG3.out;have N1:=hid n1;have N2:=hid n2;clear n1 n2 HO3 HG3;obtain⟨a3,k3,rfl⟩:=a0p N1.out;have hS:=HS0.out;go_wp2_with fail;go_roundw
      case rel=>exact⟨l ++ [x],_,s0,rfl,by omega,by omega,by omega,by simp<;>omega,by simp<;>omega,by rw[hL];exact HN,N1,N2⟩
      case measure=>simp[intOf]<;>omega
open Go.Lib (decDigits nDigits)
theorem m0N (n:Nat)(hn:n≤100000000)(W:World):(Instr.makeSlice 196 (.int .i64 (n:Int)) (.int .i64 (n:Int))).run Tryz.prog W=.ok (.slice (some ⟨W.heap.size,0,none⟩) n n) (W.alloc (.cells (madeCells #[.int .u8 0] n) 5)):=
 run_make_row' (P:=Tryz.prog) 196 5 (.int .u8 0) 1 Tryz.underlying196 (by kernel_rfl) rfl .i64 .i64 n (by omega) (by omega) W
theorem h0B (w:World)(v:Value)(h:IsN .i64 w v 0):Calls Tryz.prog 107 #[v] w fun e w'=>e=.returned (u0c 0)∧Below w.heap.size w w':=by
 obtain⟨a,c,rfl,_⟩:=h.openI;have hl:(limbs 0).length=0:=by rw[limbs_zero];rfl
 rw[hl];have e:u0c 0=.string ⟨#[48]⟩:=by rw[u0c,b0W]
 have E:=hid e;clear h hl e;go_enter Tryz.func107,Tryz.ntmps107;go_wp2_with fail;go_ret
 exact⟨by rw[E.out];rfl,Below.refl _ _⟩
theorem j0e (w:World)(v:Value)(n:Nat)(h:IsN .i64 w v n)(h0:0<n)(hl:(limbs n).length≤1000000):Calls Tryz.prog 107 #[v] w fun e w'=>e=.returned (u0c n)∧Below w.heap.size w w':=by
 obtain⟨a,c,rfl,h1,h2,h3⟩:=h.openI;have H3:=hid h3;clear h3 h;obtain⟨L,hL⟩:∃ L,(limbs n).length=L:=⟨_,rfl⟩;have hLp:0<L:=by rw[← hL];exact List.length_pos_iff.2 (fun e=>by have:=b0D.1 e;omega)
 rw[hL]at h1 hl ⊢;have HL:=hid hL;clear hL;have q0:((L:Int)==0)=false:=by simp;omega
 have hmk:∀ W:World,(Instr.makeSlice 196 (.int .i64 (9*(L:Int))) (.int .i64 (9*(L:Int)))).run Tryz.prog W=.ok (.slice (some ⟨W.heap.size,0,none⟩) (9*L) (9*L)) (W.alloc (.cells (madeCells #[.int .u8 0] (9*L)) 5)):=fun W=>by
  have:=m0N (9*L) (by omega) W;rwa[Int.natCast_mul]at this
 go_enter Tryz.func107,Tryz.ntmps107;go_wp2_with fail;clear hmk q0
 go_loopw [4,5,6] (fun ii nn kk wr=>∃ (i:Nat) (bs:List UInt8),ii=.int .i64 i∧i≤L∧Hid (WrI n i bs)∧Hid (BArr 5 wr w.heap.size bs)∧Hid (Below w.heap.size w wr)) (fun ii _ _ _=>L-(intOf ii).toNat)
 case atStart=>exact⟨0,_,rfl,Nat.zero_le _,WrI.start n,by rw[HL.out];exact BArr.made w 5 (9*L),(Below.refl _ _).alloc (Nat.le_refl _) _⟩
 case round=>
  obtain⟨i,bs,rfl,hi,hW,hO,hB⟩:=hrel;by_cases hlt:i<L
  ·obtain⟨x,hx⟩:∃ x,(limbs n)[L-1-i]?=some x:=⟨_,List.getElem?_eq_getElem (by rw[HL.out];omega)⟩;obtain⟨g,o,rfl,hg,hc⟩:=H3.out _ x hx;have d1:=(hB.out.cell (p:=⟨g,o+(L-1-i),none⟩) hg).trans hc;have hxl:=(a0l n).get hx;have HX:=hid hx;clear hx hc;go_wp2_with fail
   go_loopw [5,6] (fun nn kk wq=>∃ (k y:Nat) (t:Int) (bs:List UInt8),nn=.int .i64 y∧kk=.int .i64 t∧t=(k:Int)-1∧k≤9∧y<1000000000∧Hid (WrJ n i x k y bs)∧Hid (BArr 5 wq w.heap.size bs)∧Hid (Below w.heap.size w wq)) (fun _ kk _=>(intOf kk+1).toNat)
   case atStart=>exact⟨9,x,_,bs,rfl,rfl,by omega,by omega,hxl,hW.out.enter,hO,hB⟩
   case round=>
    obtain⟨k,y,t,bs2,rfl,rfl,ht,hk,hy,hJ,hO2,hB2⟩:=hrel;have hbl:=hid (show bs2.length=9*L from by rw[hJ.out.len,HL.out]);cases k with
    | zero=>
     obtain rfl:t = -1:=by omega
     clear ht;have HN:=hid (hJ.out.leave (by rw[HL.out];exact HX.out) (by rw[HL.out];exact hlt));go_wp2_with fail;go_roundw
     case rel=>exact⟨i+1,bs2,by go_num,by omega,HN,hO2,hB2⟩
     case measure=>simp[intOf]<;>omega
    | succ k=>
     obtain rfl:t=(k:Int):=by omega
     clear ht;have HN:=hid (hJ.out.next (by omega) (by rw[HL.out];exact hlt));obtain⟨z,hz⟩:∃ z,bs2[9*i+k]?=some z:=⟨_,List.getElem?_eq_getElem (by rw[hbl.out];omega)⟩;have d3:=hO2.out.cell hz;have d4:=hO2.out.free (9*i+k);clear hz;go_wp2_with fail;go_roundw
     case rel=>
      refine⟨k,y / 10,_,bs2.set (9*i+k) (UInt8.ofNat (48+y%10)),by go_num,rfl,by omega,by omega,by omega,HN,?_,a0B hB2.out (Nat.le_refl _) _⟩;have hz:(48+(y:Int)%10)=((UInt8.ofNat (48+y%10)).toNat:Int):=by rw[b0g (by omega)];omega
      rw[hz];exact hO2.out.set _ _
     case measure=>simp[intOf]<;>omega
  ·obtain rfl:i=L:=by omega
   obtain⟨hdig,hval⟩:=WrI.done (by have:=hW.out;rw[← HL.out]at this;exact this);have HD:=hid hdig;have HV:=hid hval;have hbl:=hid (show bs.length=9*i from by rw[hW.out.len,HL.out]);clear hdig hval;go_wp2_with fail
   go_loop [3] (fun b=>∃ r:Nat,r+1≤9*i∧b=.slice (some ⟨w.heap.size,r,none⟩) (9*i-r) (9*i-r)∧Hid (dv (bs.drop r)=n)) (fun b=>match b with | .slice _ m _=>m | _=>0)
   case atStart=>exact⟨0,by omega,rfl,by rw[Hid,List.drop_zero];exact HV.out⟩
   case round=>
    obtain⟨r,hr,rfl,hv⟩:=hrel;obtain⟨z,hz⟩:∃ z,bs[r]?=some z:=⟨_,List.getElem?_eq_getElem (by rw[hbl.out];omega)⟩;have d3:=hO.out.cell hz;obtain⟨m,hm⟩:∃ m,m=9*i-r:=⟨_,rfl⟩;rw[← hm];have hm1:1≤m:=by omega
    have hm9:m≤9000000:=by omega
    have HM:=hid hm;by_cases hgo:1<m∧z=48
    ·obtain⟨g1,rfl⟩:=hgo;have q1:decide ((1:Int)<(m:Int))=true:=by simp;omega
     have HN:=hid (j0H hz);clear hz hm;go_wp2_with fail;go_round
     case rel=>exact⟨r+1,by have:=HM.out;omega,by rw[show 9*i-(r+1)=m-1 by have:=HM.out;omega],by rw[Hid,HN.out];exact hv.out⟩
     case measure=>simp;omega
    ·have hfin:=hid (m0p HD.out hv.out (by rw[hbl.out];omega) (by
      rw[hbl.out];by_cases h1:1<m
      ·right
       rw[hz];intro e;injection e with e
       exact hgo ⟨h1,e⟩
      ·left;omega))
     have hcv:(convert 196 9 (.slice (some ⟨w.heap.size,r,none⟩) m m)).run Tryz.prog wr=.ok (u0c n) wr:=by
      have hlen:(bs.drop r).length=m:=by rw[List.length_drop,hbl.out,hm]
      have:=Go.run_convert_bytes_back (P:=Tryz.prog) wr 196 9 5 ⟨w.heap.size,r,none⟩ m (bs.drop r) Tryz.underlying196 Tryz.underlying5 Tryz.underlying9 (fun j hj=>by
       rw[Addr.add_lit];refine hO.out.cell ?_;have h2:r+j<bs.length:=by rw[hlen]at hj;rw[hbl.out];omega
       rw[List.getElem?_eq_getElem h2,List.getElem_drop])
      rw[hlen,hfin.out]at this;exact this
     by_cases h1:1<m
     ·have q1:decide ((1:Int)<(m:Int))=true:=by simp;omega
      have q2:((z.toNat:Int)==48)=false:=by
       rw[beq_eq_false_iff_ne];intro e;refine hgo ⟨h1,?_⟩;have:z.toNat=(48:UInt8).toNat:=by simp;omega
       exact UInt8.toNat_inj.1 this
      clear hz hm hgo h1;go_wp2_with fail;go_ret
      exact⟨rfl,hB.out⟩
     ·obtain rfl:m=1:=by omega
      clear hz hm hgo h1;go_wp2_with fail;go_ret
      exact⟨rfl,hB.out⟩
theorem h0C (w:World)(s:ByteArray)(hs:s.size≤9223372036854775807):Calls Tryz.prog 177 #[.string s] w fun e w'=>e=.returned (.int .i64 (b0O s.data.toList))∧w=w':=by
 have hsl:=hid (show s.data.toList.length=s.size from by simp);by_cases h0:s.size=0
 ·have hnil:s.data.toList = []:=List.eq_nil_of_length_eq_zero (by rw[hsl.out,h0]);obtain rfl:s=⟨#[]⟩:=by
   cases s with
   | mk d=>simp at hnil;rw[hnil]
  clear hsl h0 hnil hs;go_enter Tryz.func177,Tryz.ntmps177;go_wp2_with fail;go_ret
  exact⟨a0L (by rw[e0K];exact fun h=>h.1 rfl),rfl⟩
 ·have hpos:0<s.size:=by omega
  have hne:s.data.toList.isEmpty=false:=by
   rw[List.isEmpty_eq_false_iff];intro e;have:=hsl.out;rw[e]at this;simp at this;omega
  have hn:¬ s.toList = []:=by rw[Go.ByteArray.toList_eq];intro e;rw[e]at hne;cases hne
  have hn2:s.toList.isEmpty=false:=by rw[Go.ByteArray.toList_eq];exact hne
  have hb0:=hid (d0G hpos);clear hne;by_cases hz:s[0]=48∧1<s.size
  ·have q1:((s[0].toNat:Int)==48)=true:=by rw[hz.1];rfl
   have q2:decide ((1:Int)<(s.size:Int))=true:=by simp;omega
   have hbad:=hid (show ¬ c0u s.data.toList from fun h=>by
    rcases h.2.1 with h1 | h1
    ·have:=congrArg List.length h1;rw[hsl.out]at this;simp at this;omega
    ·rw[List.head?_eq_getElem?,hb0.out,hz.1]at h1;exact h1 rfl)
   clear hz;go_enter Tryz.func177,Tryz.ntmps177;go_wp2_with fail;go_ret
   exact⟨a0L (by rw[e0K hbad.out]),rfl⟩
  ·have hform:allDig s.data.toList→c0u s.data.toList:=fun hd=>by
    refine⟨fun e=>by have:=hsl.out;rw[e]at this;simp at this;omega,?_,hd⟩;by_cases h48:s[0]=48
    ·left
     have h1:s.data.toList.length=1:=by
      have:¬ 1<s.size:=fun h=>hz ⟨h48,h⟩
      rw[hsl.out];omega
     match hm:s.data.toList,h1 with
     | [c],_=>
      have:=hb0.out;rw[hm]at this;simp at this;rw[this,h48]
    ·right
     rw[List.head?_eq_getElem?,hb0.out];simpa using h48
   have HF:=hid hform;have hI:(((s[0].toNat:Int)==48)=false∧decide ((1:Int)<(s.size:Int))=decide ((1:Int)<(s.size:Int)))∨(((s[0].toNat:Int)==48)=true∧decide ((1:Int)<(s.size:Int))=false):=by
    by_cases h48:s[0]=48
    ·right
     have:¬ 1<s.size:=fun h=>hz ⟨h48,h⟩
     refine⟨by rw[h48];rfl,by simp;omega⟩
    ·left
     refine⟨?_,rfl⟩;rw[beq_eq_false_iff_ne];intro e;refine h48 ?_;have:s[0].toNat=(48:UInt8).toNat:=by simp;omega
     exact UInt8.toNat_inj.1 this
   clear hform hz;rcases hI with ⟨q1,-⟩ | ⟨q1,q2⟩
   all_goals
    go_enter Tryz.func177,Tryz.ntmps177;go_wp2_with fail;clear q1
    go_loop [3] (fun ii=>∃ i:Nat,ii=.int .i64 i∧i≤s.size∧Hid (∀ (j:Nat) (b:UInt8),j<i→s.data.toList[j]?=some b→g0w b=true)) (fun ii=>s.size-(intOf ii).toNat)
    case atStart=>exact⟨0,rfl,Nat.zero_le _,fun j b hj=>absurd hj (by omega)⟩
    case round=>
     obtain⟨i,rfl,hi,hI⟩:=hrel;by_cases hlt:i<s.size
     ·have hb:=hid (d0G hlt);have hbad:¬ g0w s[i]=true→¬ c0u s.data.toList:=fun h hf=>h (hf.2.2 _ (List.mem_of_getElem? hb.out))
      by_cases c1:s[i].toNat<48
      ·have q1:decide ((s[i].toNat:Int)<48)=true:=by simp;omega
       have hB:=hid (hbad (fun e=>by have:=a0K.1 e;omega));clear hbad c1;go_wp2_with fail;go_ret
       exact⟨a0L (by rw[e0K hB.out]),rfl⟩
      ·by_cases c2:57<s[i].toNat
       ·have q1:decide ((s[i].toNat:Int)<48)=false:=by simp;omega
        have q2:decide ((57:Int)<(s[i].toNat:Int))=true:=by simp;omega
        have hB:=hid (hbad (fun e=>by have:=a0K.1 e;omega));clear hbad c1 c2;go_wp2_with fail;go_ret
        exact⟨a0L (by rw[e0K hB.out]),rfl⟩
       ·have q1:decide ((s[i].toNat:Int)<48)=false:=by simp;omega
        have q2:decide ((57:Int)<(s[i].toNat:Int))=false:=by simp;omega
        have hD:=hid (a0K.2 (show 48≤s[i].toNat∧s[i].toNat≤57 by omega));clear hbad c1 c2;go_wp2_with fail;go_round
        case rel=>exact⟨i+1,by go_num,by omega,fun j b hj hjb=>by
         by_cases e:j=i
         ·subst e;have:=hb.out;rw[hjb]at this;cases this;exact hD.out
         ·exact hI.out j b (by omega) hjb⟩
        case measure=>simp[intOf]<;>omega
     ·obtain rfl:i=s.size:=by omega
      have hF:=hid (HF.out fun b hb=>by
       obtain⟨j,hj⟩:=List.getElem?_of_mem hb;exact hI.out j b (by have:=(List.getElem?_eq_some_iff.1 hj).1;rw[hsl.out]at this;exact this) hj)
      by_cases hlong:4000<s.size
      ·have q3:decide ((4000:Int)<(s.size:Int))=true:=by simp;omega
       have HL:=hid hlong;clear hlong;go_wp2_with fail;go_ret
       exact⟨a0L (by rw[j0F hF.out (by rw[hsl.out];exact HL.out)]),rfl⟩
      ·have q3:decide ((4000:Int)<(s.size:Int))=false:=by simp;omega
       have HL:=hid hlong;clear hlong;go_wp2_with fail;go_ret
       exact⟨a0L (by rw[i0d hF.out (by rw[hsl.out];exact HL.out)]),rfl⟩
theorem b0o (w:World)(v:Value)(n:Nat)(h:IsN .i64 w v n)(hl:(limbs n).length≤1000000):Calls Tryz.prog 107 #[v] w fun e w'=>e=.returned (u0c n)∧Below w.heap.size w w':=by
 rcases Nat.eq_zero_or_pos n with rfl | h0
 ·exact h0B w v h
 ·exact j0e w v n h h0 hl
end Go.Proofs.YtlmnpocifldpmaaGreatDoor
namespace Go.Proofs.YtlmnpocifldpmaaGreatDoor
open Go.RowKit
theorem r0h (w:World)(v u:Value)(a b:Nat)(ha:IsN .i64 w v a)(hb:IsN .i64 w u b)(hla:(limbs a).length≤1000000)(hlb:(limbs b).length≤1000000):
 Calls Tryz.prog 111 #[v,u] w fun e w'=>RetFr w.heap.size .i64 (a+b) e w'∧Below w.heap.size w w':=by
 obtain⟨i0,hi,hz0,hz1,hz2⟩:=info_parts h0Y;obtain⟨a1,c1,rfl,h1,h2,h3⟩:=ha.openI;obtain⟨a2,c2,rfl,k1,k2,k3⟩:=hb.openI;have H3:=hid h3;have K3:=hid k3;clear h3 k3 ha hb;obtain⟨n,ea⟩:∃ n,(limbs a).length=n:=⟨_,rfl⟩;obtain⟨m,eb⟩:∃ m,(limbs b).length=m:=⟨_,rfl⟩;rw[ea]at h1 hla ⊢;rw[eb]at k1 hlb ⊢;have HA:=hid ea;have HB:=hid eb;clear ea eb;go_enter Tryz.func111,Tryz.ntmps111;go_wp2_with fail
 go_loopw [5,6,7] (fun o cc i wr=>∃ (s:List Nat) (c:Nat) (C:Int),i=.int .i64 s.length∧cc=.int .i64 C∧C=(c:Int)∧c≤1∧s.length≤1000001∧(s.length≤n∨s.length≤m∨c=0)∧Hid (PlusI a b s c)∧Hid (wr.ownsRow w.heap.size 3 1 o s.length (b0c .i64 s))∧Hid (Below w.heap.size w wr))
  (fun _ _ i _=>1000002-(intOf i).toNat)
 case atStart=>exact⟨[],0,0,rfl,rfl,rfl,by omega,by simp,.inl (by simp),PlusI.start a b,World.ownsRow_nil _ _ _ _,Below.refl _ _⟩
 case round=>
  obtain⟨s,c,C,rfl,rfl,hC,hc1,hs1,hs2,hP,hO,hB⟩:=hrel;obtain⟨ao,co,rfl⟩:=a0p hO.out;by_cases hA:s.length<n
  ·obtain⟨x,hx⟩:∃ x,(limbs a)[s.length]?=some x:=⟨_,List.getElem?_eq_getElem (by rw[HA.out];exact hA)⟩;obtain⟨g,og,rfl,hg,hc⟩:=H3.out _ x hx;have hc':=(hB.out.cell (p:=⟨g,og+s.length,none⟩) hg).trans hc;have hxl:=(a0l a).get hx;have HX:=hid hx;clear hx hc;by_cases hB':s.length<m
   ·obtain⟨y,hy⟩:∃ y,(limbs b)[s.length]?=some y:=⟨_,List.getElem?_eq_getElem (by rw[HB.out];exact hB')⟩;obtain⟨g',og',rfl,hg',hd⟩:=K3.out _ y hy;have hd':=(hB.out.cell (p:=⟨g',og'+s.length,none⟩) hg').trans hd;have hyl:=(a0l b).get hy;have HY:=hid hy;clear hy hd;rcases (show c=0∨c=1 by omega) with rfl | rfl
    ·obtain rfl:C=0:=by omega
     clear hC;have HN:=hid (hP.out.next (by rw[HA.out];exact .inl hA));rw[a0v HX.out,a0v HY.out]at HN;go_wp2_with (at_builtin;refine wpList_append_own _ rfl _ _ 89 rfl w.heap.size 3 i0 (.int .i64 0) 1 8 Tryz.underlying89 hi hz0 hz1 hz2 rfl (by decide) _ s.length _ rfl (hO.out.alloc _) ⟨wr.heap.size,0,none⟩ 1 1 [.int .i64 ((↑x + ↑y:Int)%1000000000)] rfl rfl (cell_one_new wr (.int .i64 ((↑x + ↑y:Int)%1000000000)) 3) (by simp[Value.oneCell']) (by unfold maxLen;omega) (by omega) (by have:=hB.out.size;simp;omega) ?_;intro v' w3 hown3 hgrow3 _;have HO3:=hid hown3;have HG3:=hid hgrow3;clear hown3 hgrow3)
     have hz:((↑x + ↑y:Int)%1000000000)=(((x+0+y)%1000000000:Nat):Int):=by omega
     rw[hz]at HO3;obtain⟨n1,n2⟩:=a0x hO.out hB.out HO3.out HG3.out;have N1:=hid n1;have N2:=hid n2;clear n1 n2 hz HO3 HG3;obtain⟨a3,k3,rfl⟩:=a0p N1.out;go_wp2_with fail;go_roundw
     case rel=>exact⟨s ++ [(x+0+y)%1000000000],(x+0+y) / 1000000000,_,by simp,rfl,by omega,HN.out.c1,by simp<;>omega,by simp<;>omega,HN,N1,N2⟩
     case measure=>simp[intOf]<;>omega
    ·obtain rfl:C=1:=by omega
     clear hC;have HN:=hid (hP.out.next (by rw[HA.out];exact .inl hA));rw[a0v HX.out,a0v HY.out]at HN;go_wp2_with (at_builtin;refine wpList_append_own _ rfl _ _ 89 rfl w.heap.size 3 i0 (.int .i64 0) 1 8 Tryz.underlying89 hi hz0 hz1 hz2 rfl (by decide) _ s.length _ rfl (hO.out.alloc _) ⟨wr.heap.size,0,none⟩ 1 1 [.int .i64 ((1 + ↑x + ↑y:Int)%1000000000)] rfl rfl (cell_one_new wr (.int .i64 ((1 + ↑x + ↑y:Int)%1000000000)) 3) (by simp[Value.oneCell']) (by unfold maxLen;omega) (by omega) (by have:=hB.out.size;simp;omega) ?_;intro v' w3 hown3 hgrow3 _;have HO3:=hid hown3;have HG3:=hid hgrow3;clear hown3 hgrow3)
     have hz:((1 + ↑x + ↑y:Int)%1000000000)=(((x+1+y)%1000000000:Nat):Int):=by omega
     rw[hz]at HO3;obtain⟨n1,n2⟩:=a0x hO.out hB.out HO3.out HG3.out;have N1:=hid n1;have N2:=hid n2;clear n1 n2 hz HO3 HG3;obtain⟨a3,k3,rfl⟩:=a0p N1.out;go_wp2_with fail;go_roundw
     case rel=>exact⟨s ++ [(x+1+y)%1000000000],(x+1+y) / 1000000000,_,by simp,rfl,by omega,HN.out.c1,by simp<;>omega,by simp<;>omega,HN,N1,N2⟩
     case measure=>simp[intOf]<;>omega
   ·skip
    rcases (show c=0∨c=1 by omega) with rfl | rfl
    ·obtain rfl:C=0:=by omega
     clear hC;have HN:=hid (hP.out.next (by rw[HA.out];exact .inl hA));rw[a0v HX.out,a0G (by rw[HB.out];omega)]at HN;go_wp2_with (at_builtin;refine wpList_append_own _ rfl _ _ 89 rfl w.heap.size 3 i0 (.int .i64 0) 1 8 Tryz.underlying89 hi hz0 hz1 hz2 rfl (by decide) _ s.length _ rfl (hO.out.alloc _) ⟨wr.heap.size,0,none⟩ 1 1 [.int .i64 ((↑x:Int)%1000000000)] rfl rfl (cell_one_new wr (.int .i64 ((↑x:Int)%1000000000)) 3) (by simp[Value.oneCell']) (by unfold maxLen;omega) (by omega) (by have:=hB.out.size;simp;omega) ?_;intro v' w3 hown3 hgrow3 _;have HO3:=hid hown3;have HG3:=hid hgrow3;clear hown3 hgrow3)
     have hz:((↑x:Int)%1000000000)=(((x+0+0)%1000000000:Nat):Int):=by omega
     rw[hz]at HO3;obtain⟨n1,n2⟩:=a0x hO.out hB.out HO3.out HG3.out;have N1:=hid n1;have N2:=hid n2;clear n1 n2 hz HO3 HG3;obtain⟨a3,k3,rfl⟩:=a0p N1.out;go_wp2_with fail;go_roundw
     case rel=>exact⟨s ++ [(x+0+0)%1000000000],(x+0+0) / 1000000000,_,by simp,rfl,by omega,HN.out.c1,by simp<;>omega,by simp<;>omega,HN,N1,N2⟩
     case measure=>simp[intOf]<;>omega
    ·obtain rfl:C=1:=by omega
     clear hC;have HN:=hid (hP.out.next (by rw[HA.out];exact .inl hA));rw[a0v HX.out,a0G (by rw[HB.out];omega)]at HN;go_wp2_with (at_builtin;refine wpList_append_own _ rfl _ _ 89 rfl w.heap.size 3 i0 (.int .i64 0) 1 8 Tryz.underlying89 hi hz0 hz1 hz2 rfl (by decide) _ s.length _ rfl (hO.out.alloc _) ⟨wr.heap.size,0,none⟩ 1 1 [.int .i64 ((1 + ↑x:Int)%1000000000)] rfl rfl (cell_one_new wr (.int .i64 ((1 + ↑x:Int)%1000000000)) 3) (by simp[Value.oneCell']) (by unfold maxLen;omega) (by omega) (by have:=hB.out.size;simp;omega) ?_;intro v' w3 hown3 hgrow3 _;have HO3:=hid hown3;have HG3:=hid hgrow3;clear hown3 hgrow3)
     have hz:((1 + ↑x:Int)%1000000000)=(((x+1+0)%1000000000:Nat):Int):=by omega
     rw[hz]at HO3;obtain⟨n1,n2⟩:=a0x hO.out hB.out HO3.out HG3.out;have N1:=hid n1;have N2:=hid n2;clear n1 n2 hz HO3 HG3;obtain⟨a3,k3,rfl⟩:=a0p N1.out;go_wp2_with fail;go_roundw
     case rel=>exact⟨s ++ [(x+1+0)%1000000000],(x+1+0) / 1000000000,_,by simp,rfl,by omega,HN.out.c1,by simp<;>omega,by simp<;>omega,HN,N1,N2⟩
     case measure=>simp[intOf]<;>omega
  ·skip
   by_cases hB':s.length<m
   ·obtain⟨y,hy⟩:∃ y,(limbs b)[s.length]?=some y:=⟨_,List.getElem?_eq_getElem (by rw[HB.out];exact hB')⟩;obtain⟨g',og',rfl,hg',hd⟩:=K3.out _ y hy;have hd':=(hB.out.cell (p:=⟨g',og'+s.length,none⟩) hg').trans hd;have hyl:=(a0l b).get hy;have HY:=hid hy;clear hy hd;rcases (show c=0∨c=1 by omega) with rfl | rfl
    ·obtain rfl:C=0:=by omega
     clear hC;have HN:=hid (hP.out.next (by rw[HB.out];exact .inr (.inl hB')));rw[a0G (by rw[HA.out];omega),a0v HY.out]at HN;go_wp2_with (at_builtin;refine wpList_append_own _ rfl _ _ 89 rfl w.heap.size 3 i0 (.int .i64 0) 1 8 Tryz.underlying89 hi hz0 hz1 hz2 rfl (by decide) _ s.length _ rfl (hO.out.alloc _) ⟨wr.heap.size,0,none⟩ 1 1 [.int .i64 ((↑y:Int)%1000000000)] rfl rfl (cell_one_new wr (.int .i64 ((↑y:Int)%1000000000)) 3) (by simp[Value.oneCell']) (by unfold maxLen;omega) (by omega) (by have:=hB.out.size;simp;omega) ?_;intro v' w3 hown3 hgrow3 _;have HO3:=hid hown3;have HG3:=hid hgrow3;clear hown3 hgrow3)
     have hz:((↑y:Int)%1000000000)=(((0+0+y)%1000000000:Nat):Int):=by omega
     rw[hz]at HO3;obtain⟨n1,n2⟩:=a0x hO.out hB.out HO3.out HG3.out;have N1:=hid n1;have N2:=hid n2;clear n1 n2 hz HO3 HG3;obtain⟨a3,k3,rfl⟩:=a0p N1.out;go_wp2_with fail;go_roundw
     case rel=>exact⟨s ++ [(0+0+y)%1000000000],(0+0+y) / 1000000000,_,by simp,rfl,by omega,HN.out.c1,by simp<;>omega,by simp<;>omega,HN,N1,N2⟩
     case measure=>simp[intOf]<;>omega
    ·obtain rfl:C=1:=by omega
     clear hC;have HN:=hid (hP.out.next (by rw[HB.out];exact .inr (.inl hB')));rw[a0G (by rw[HA.out];omega),a0v HY.out]at HN;go_wp2_with (at_builtin;refine wpList_append_own _ rfl _ _ 89 rfl w.heap.size 3 i0 (.int .i64 0) 1 8 Tryz.underlying89 hi hz0 hz1 hz2 rfl (by decide) _ s.length _ rfl (hO.out.alloc _) ⟨wr.heap.size,0,none⟩ 1 1 [.int .i64 ((1 + ↑y:Int)%1000000000)] rfl rfl (cell_one_new wr (.int .i64 ((1 + ↑y:Int)%1000000000)) 3) (by simp[Value.oneCell']) (by unfold maxLen;omega) (by omega) (by have:=hB.out.size;simp;omega) ?_;intro v' w3 hown3 hgrow3 _;have HO3:=hid hown3;have HG3:=hid hgrow3;clear hown3 hgrow3)
     have hz:((1 + ↑y:Int)%1000000000)=(((0+1+y)%1000000000:Nat):Int):=by omega
     rw[hz]at HO3;obtain⟨n1,n2⟩:=a0x hO.out hB.out HO3.out HG3.out;have N1:=hid n1;have N2:=hid n2;clear n1 n2 hz HO3 HG3;obtain⟨a3,k3,rfl⟩:=a0p N1.out;go_wp2_with fail;go_roundw
     case rel=>exact⟨s ++ [(0+1+y)%1000000000],(0+1+y) / 1000000000,_,by simp,rfl,by omega,HN.out.c1,by simp<;>omega,by simp<;>omega,HN,N1,N2⟩
     case measure=>simp[intOf]<;>omega
   ·skip
    rcases (show c=0∨c=1 by omega) with rfl | rfl
    ·obtain rfl:C=0:=by omega
     clear hC;have hs:=hid (hP.out.done (by rw[HA.out];exact hA) (by rw[HB.out];exact hB') rfl);go_wp2_with fail;go_ret
     exact⟨⟨_,rfl,d0u hO.out hs.out,fun g hg=>(hO.out.lt g hg).1⟩,hB.out⟩
    ·obtain rfl:C=1:=by omega
     clear hC;have HN:=hid (hP.out.next (by exact .inr (.inr (by omega))));rw[a0G (by rw[HA.out];omega),a0G (by rw[HB.out];omega)]at HN;go_wp2_with (at_builtin;refine wpList_append_own _ rfl _ _ 89 rfl w.heap.size 3 i0 (.int .i64 0) 1 8 Tryz.underlying89 hi hz0 hz1 hz2 rfl (by decide) _ s.length _ rfl (hO.out.alloc _) ⟨wr.heap.size,0,none⟩ 1 1 [.int .i64 (1)] rfl rfl (cell_one_new wr (.int .i64 (1)) 3) (by simp[Value.oneCell']) (by unfold maxLen;omega) (by omega) (by have:=hB.out.size;simp;omega) ?_;intro v' w3 hown3 hgrow3 _;have HO3:=hid hown3;have HG3:=hid hgrow3;clear hown3 hgrow3)
     have hz:(1)=(((0+1+0)%1000000000:Nat):Int):=by omega
     rw[hz]at HO3;obtain⟨n1,n2⟩:=a0x hO.out hB.out HO3.out HG3.out;have N1:=hid n1;have N2:=hid n2;clear n1 n2 hz HO3 HG3;obtain⟨a3,k3,rfl⟩:=a0p N1.out;go_wp2_with fail;go_roundw
     case rel=>exact⟨s ++ [(0+1+0)%1000000000],(0+1+0) / 1000000000,_,by simp,rfl,by omega,HN.out.c1,by simp<;>omega,by simp<;>omega,HN,N1,N2⟩
     case measure=>simp[intOf]<;>omega
theorem t0P (w:World)(v u:Value)(a b:Nat)(ha:IsN .i64 w v a)(hb:IsN .i64 w u b)(hla:(limbs a).length≤1000000)(hlb:(limbs b).length≤1000000):
 Calls Tryz.prog 111 #[v,u] w fun e w'=>j0T .i64 (a+b) e w'∧Below w.heap.size w w':=
 (r0h w v u a b ha hb hla hlb).mono fun _ _ h=>⟨h.1.ret,h.2⟩
theorem e0w (w:World)(s:ByteArray)(hs:s.size≤9223372036854775807):Calls Tryz.prog 198 #[.string s] w fun e w'=>
 e=.returned (.bool (c0y s.data.toList))∧w=w':=by
 by_cases hf:c0y s.data.toList=true
 ·by_cases hl:4000<s.data.toList.length
  ·have H5:=hid (show b0O s.data.toList=5 from by rw[b0O,if_pos hf,if_pos hl]);have HF:=hid hf;rw[hf];clear hf hl;go_enter Tryz.func198,Tryz.ntmps198;go_wp2_with fail;refine (h0C _ s hs).mono ?_;rintro e w1 ⟨rfl,rfl⟩;rw[H5.out];go_wp2_with fail;go_ret
   exact⟨rfl,rfl⟩
  ·have H5:=hid (show b0O s.data.toList=0 from by rw[b0O,if_pos hf,if_neg hl]);have HF:=hid hf;rw[hf];clear hf hl;go_enter Tryz.func198,Tryz.ntmps198;go_wp2_with fail;refine (h0C _ s hs).mono ?_;rintro e w1 ⟨rfl,rfl⟩;rw[H5.out];go_wp2_with fail;go_ret
   exact⟨rfl,rfl⟩
 ·have H5:=hid (show b0O s.data.toList=3 from by rw[b0O,if_neg hf]);have hf':c0y s.data.toList=false:=by simpa using hf
  rw[hf'];clear hf hf';go_enter Tryz.func198,Tryz.ntmps198;go_wp2_with fail;refine (h0C _ s hs).mono ?_;rintro e w1 ⟨rfl,rfl⟩;rw[H5.out];go_wp2_with fail;go_ret
  exact⟨rfl,rfl⟩
def h0X (l:List UInt8)(k:Nat):Prop:=k≤l.length∧(∀ (j:Nat) (b:UInt8),j<k→l[j]?=some b→b≠47)∧(k<l.length→l[k]?=some 47)
theorem r0d (w:World)(s:ByteArray)(hs:s.size≤9223372036854775807):Calls Tryz.prog 197 #[.string s] w fun e w'=>
 (∃ k:Nat,e=.returned (.int .i64 k)∧h0X s.data.toList k)∧w=w':=by
 have hsl:=hid (show s.data.toList.length=s.size from by simp);go_enter Tryz.func197,Tryz.ntmps197;go_wp2_with fail
 go_loop [3] (fun ii=>∃ i:Nat,ii=.int .i64 i∧i≤s.size∧Hid (∀ (j:Nat) (b:UInt8),j<i→s.data.toList[j]?=some b→b≠47)) (fun ii=>s.size-(intOf ii).toNat)
 case atStart=>exact⟨0,rfl,Nat.zero_le _,fun j b hj=>absurd hj (by omega)⟩
 case round=>
  obtain⟨i,rfl,hi,hI⟩:=hrel;by_cases hlt:i<s.size
  ·have hb:=hid (d0G hlt);by_cases c1:s[i]=47
   ·have q1:((s[i].toNat:Int)==47)=true:=by rw[c1];rfl
    have hB:=hid c1;clear c1;go_wp2_with fail;go_ret
    exact⟨⟨i,rfl,by rw[hsl.out];omega,hI.out,fun _=>by rw[hb.out,hB.out]⟩,rfl⟩
   ·have q1:((s[i].toNat:Int)==47)=false:=by
     rw[beq_eq_false_iff_ne];intro e;refine c1 ?_;have:s[i].toNat=(47:UInt8).toNat:=by simp;omega
     exact UInt8.toNat_inj.1 this
    have hB:=hid c1;clear c1;go_wp2_with fail;go_round
    case rel=>exact⟨i+1,by go_num,by omega,fun j b hj hjb=>by
     by_cases e:j=i
     ·subst e;rw[hb.out]at hjb;cases hjb;exact hB.out
     ·exact hI.out j b (by omega) hjb⟩
    case measure=>simp[intOf]<;>omega
  ·have e1:i=s.size:=by omega
   subst e1;go_wp2_with fail;go_ret
   exact⟨⟨s.size,rfl,by rw[hsl.out];omega,hI.out,fun h=>by rw[hsl.out]at h;omega⟩,rfl⟩
theorem f0i (w:World)(s:ByteArray)(hs:s.size≤9223372036854775807)(h0:0<s.size)(h1:s[0]=45):Calls Tryz.prog 176 #[.string s] w fun e w'=>
 e=.returned (.tuple #[.bool true,.string (s.extract 1 s.size),.bool (c0y (s.extract 1 s.size).data.toList && !decide ((s.extract 1 s.size).data.toList = [48]))])∧w=w':=by
 have q0:decide ((0:Int)<(s.size:Int))=true:=by simp;omega
 have q1:((s[0].toNat:Int)==45)=true:=by rw[h1];rfl
 have H0:=hid h1;clear h1;have hts:(s.extract 1 s.size).size≤9223372036854775807:=by simp;omega
 obtain⟨t,ht⟩:∃ t,s.extract 1 s.size=t:=⟨_,rfl⟩;rw[ht]at hts ⊢;have HT:=hid ht;obtain⟨f,hf⟩:∃ f,c0y t.data.toList=f:=⟨_,rfl⟩;rw[hf];have HF:=hid hf;clear ht hf;go_enter Tryz.func176,Tryz.ntmps176;go_wp2_with fail;rw[HT.out];refine (e0w _ t hts).mono ?_;rintro e w1 ⟨rfl,rfl⟩;rw[HF.out];cases f
 ·go_wp2_with fail;exact bodyPost_ret (v:=.tuple #[.bool true,.string t,.bool false]) (by simp[results,Tryz.results176,go_sem]) rfl ⟨by simp,rfl⟩
 ·go_wp2_with fail;refine bodyPost_ret (v:=.tuple #[.bool true,.string t,.bool (!(t.toList == [48]))]) (by simp[results,Tryz.results176,go_sem]) rfl ⟨?_,rfl⟩;rw[Go.ByteArray.toList_eq];simp;exact Bool.eq_iff_iff.2 (by simp)
theorem f0h (w:World)(s:ByteArray)(hs:s.size≤9223372036854775807)(h1:∀ h:0<s.size,s[0]≠45):Calls Tryz.prog 176 #[.string s] w fun e w'=>
 e=.returned (.tuple #[.bool false,.string s,.bool (c0y s.data.toList)])∧w=w':=by
 obtain⟨f,hf⟩:∃ f,c0y s.data.toList=f:=⟨_,rfl⟩;rw[hf];have HF:=hid hf;clear hf;by_cases h0:0<s.size
 ·have q0:decide ((0:Int)<(s.size:Int))=true:=by simp;omega
  have q1:((s[0].toNat:Int)==45)=false:=by
   rw[beq_eq_false_iff_ne];intro e;refine h1 h0 ?_;have:s[0].toNat=(45:UInt8).toNat:=by simp;omega
   exact UInt8.toNat_inj.1 this
  clear h1;go_enter Tryz.func176,Tryz.ntmps176;go_wp2_with fail;refine (e0w _ s hs).mono ?_;rintro e w1 ⟨rfl,rfl⟩;rw[HF.out];cases f
  all_goals
   go_wp2_with fail;exact bodyPost_ret (v:=.tuple #[.bool false,.string s,.bool _]) (by simp[results,Tryz.results176,go_sem]) rfl ⟨rfl,rfl⟩
 ·obtain rfl:s=⟨#[]⟩:=by
   apply ByteArray.ext
   exact Array.eq_empty_of_size_eq_zero (by have:s.data.size=s.size:=rfl;omega)
  clear h1 h0 hs;go_enter Tryz.func176,Tryz.ntmps176;go_wp2_with fail;refine (e0w _ ⟨#[]⟩ (Nat.zero_le _)).mono ?_;rintro e w1 ⟨rfl,rfl⟩;rw[HF.out];cases f
  all_goals
   go_wp2_with fail;exact bodyPost_ret (v:=.tuple #[.bool false,.string ⟨#[]⟩,.bool _]) (by simp[results,Tryz.results176,go_sem]) rfl ⟨rfl,rfl⟩
open Go.Lib (decDigits nDigits)
theorem k0S {a b:ByteArray}:a.data.toList=b.data.toList↔a=b:=⟨a0Y,fun e=>by rw[e]⟩
theorem m0y (w:World)(s:ByteArray)(hs:s.size≤9223372036854775807):Calls Tryz.prog 176 #[.string s] w fun e w'=>
 e=.returned (.tuple #[.bool (iM s),.string (iD s),.bool (iB s)])∧w=w':=by
 have hl:s.data.toList.length=s.size:=by simp
 by_cases h:∃ h0:0<s.size,s[0]=45
 ·obtain⟨h0,h1⟩:=h;have hg:=d0G h0;rw[h1]at hg;obtain⟨t,ht⟩:∃ t,s.data.toList=45::t:=by
   cases hc:s.data.toList with
   | nil=>rw[hc]at hg;simp at hg
   | cons b t=>rw[hc]at hg;simp at hg;exact⟨t,by rw[hg]⟩
  have hM:iM s=true:=by unfold iM Lib.hasPrefix;rw[ht];simp[List.isPrefixOf]
  have hD:iD s=s.extract 1 s.size:=by
   apply a0Y
   rw[a0U,ht];unfold iD Lib.trimPrefix;rw[show Lib.hasPrefix s.data.toList [45]=true from hM,ht];have:s.size=t.length+1:=by rw[← hl,ht];simp
   simp[this]
  have H:=f0i w s hs h0 h1;rw[← hD]at H;have e:iB s=(c0y (iD s).data.toList && !decide ((iD s).data.toList = [48])):=by
   unfold iB fB;rw[hM,Bool.true_and];have:decide (iD s=⟨#[48]⟩)=decide ((iD s).data.toList = [48]):=decide_eq_decide.2 (by rw[← k0S]);rw[this]
  rw[hM,e];exact H
 ·have h1:∀ h:0<s.size,s[0]≠45:=fun h0 e=>h ⟨h0,e⟩
  have hM:iM s=false:=by
   unfold iM Lib.hasPrefix;cases hc:s.data.toList with
   | nil=>rfl
   | cons b t=>
    have h0:0<s.size:=by rw[← hl,hc];simp
    have hg:=d0G h0;rw[hc]at hg;simp at hg;have h3:((45:UInt8)==b)=false:=by rw[beq_eq_false_iff_ne,hg];exact fun e=>h1 h0 e.symm
    simp[List.isPrefixOf,h3]
  have hD:iD s=s:=by
   apply a0Y
   unfold iD Lib.trimPrefix;rw[show Lib.hasPrefix s.data.toList [45]=false from hM];simp
  have H:=f0h w s hs h1;have e:iB s=c0y s.data.toList:=by unfold iB fB;rw[hM,hD];simp
  rw[hM,hD,e];exact H
theorem i0V {s:ByteArray}{k:Nat}(h:h0X s.data.toList k):k≤s.size∧cW s=s.extract 0 k∧cS s=decide (k<s.size)∧(k<s.size→cB s=s.extract (k+1) s.size):=by
 obtain⟨h1,h2,h3⟩:=h;have hl:s.data.toList.length=s.size:=by simp
 rcases f0m s.data.toList with hn | ⟨A,B,hA,e⟩
 ·have hk:k=s.size:=by
   rcases Nat.lt_or_ge k s.data.toList.length with hlt | hge
   ·exact absurd rfl (hn 47 (List.mem_of_getElem? (h3 hlt)))
   ·omega
  have hc:=i0m hn;subst hk;refine⟨Nat.le_refl _,?_,?_,fun h=>absurd h (Nat.lt_irrefl _)⟩
  ·apply a0Y;rw[a0U];unfold cW;rw[hc,List.drop_zero,Nat.sub_zero,← hl,List.take_length]
  ·unfold cS;rw[hc];simp
 ·have hL:s.data.toList.length=A.length+1+B.length:=by rw[e];simp;omega
  have hk:k=A.length:=by
   rcases Nat.lt_trichotomy k A.length with hlt | heq | hgt
   ·have:=h3 (by omega);rw[e,List.getElem?_append_left hlt]at this;exact absurd rfl (hA 47 (List.mem_of_getElem? this))
   ·exact heq
   ·exact absurd rfl (h2 A.length 47 hgt (by rw[e];simp))
  have hc:=p0V (r:=B) hA;rw[← e]at hc;subst hk;refine⟨by omega,?_,?_,fun _=>?_⟩
  ·apply a0Y;rw[a0U,e];unfold cW;rw[hc];simp
  ·unfold cS;rw[hc];simp;omega
  ·apply a0Y;rw[a0U];unfold cB;rw[hc]
   have:s.size-(A.length+1)=B.length:=by omega
   rw[this,e,show A++47::B=(A ++ [47])++B by simp,List.drop_left' (by simp),List.take_length]
def v0c (m:Bool)(B1 B2 T:ByteArray)(x:Int):Prop:=
 (4000<B1.size∧T=⟨#[]⟩∧x=5)∨(B1.size≤4000∧4000<B2.size∧T=⟨#[]⟩∧x=5) ∨
 (B1.size≤4000∧B2.size≤4000∧x=0∧((m=false∧B2=⟨#[49]⟩∧T=B1)∨(m=true∧B2=⟨#[49]⟩∧T=⟨#[45]⟩++B1)∨(m=false∧¬ B2=⟨#[49]⟩∧T=B1++⟨#[47]⟩++B2)∨(m=true∧¬ B2=⟨#[49]⟩∧T=⟨#[45]⟩++B1++⟨#[47]⟩++B2)))
theorem h0z (w:World)(m:Bool)(N D:Value)(n d:Nat)(B1 B2 T:ByteArray)(x:Int)(hn:IsN .i64 w N n)(hd:IsN .i64 w D d)(hln:(limbs n).length≤1000000)(hld:(limbs d).length≤1000000)
 (e1:a0f n=B1) (e2:a0f d=B2) (key:v0c m B1 B2 T x):
 Calls Tryz.prog 59 #[.agg #[.bool m,N,D]] w fun e w'=>e=.returned (.tuple #[.string T,.int .i64 x])∧Below w.heap.size w w':=by
 have HN:=hid hn;have HD:=hid hd;have LN:=hid hln;have LD:=hid hld;have E1:=hid e1;have E2:=hid e2;obtain⟨a1,c1,rfl,_⟩:=hn.openI;obtain⟨a2,c2,rfl,_⟩:=hd.openI;obtain⟨k1,hk1⟩:∃ k,(limbs n).length=k:=⟨_,rfl⟩;obtain⟨k2,hk2⟩:∃ k,(limbs d).length=k:=⟨_,rfl⟩;rw[hk1]at HN ⊢;rw[hk2]at HD ⊢;clear hn hd hln hld e1 e2 hk1 hk2;unfold v0c at key;rcases key with ⟨h1,rfl,rfl⟩ | ⟨h1,h2,rfl,rfl⟩ | ⟨h1,h2,rfl,⟨rfl,rfl,rfl⟩ | ⟨rfl,rfl,rfl⟩ | ⟨rfl,h3,rfl⟩ | ⟨rfl,h3,rfl⟩⟩
 ·have q0:decide ((4000:Int)<(B1.size:Int))=true:=by simp;omega
  clear h1;go_enter Tryz.func59,Tryz.ntmps59;go_wp2_with fail;obtain⟨W,hW⟩:∃ W,w.alloc (.cells #[.bool m,.slice a1 k1 c1,.slice a2 k2 c2] 100)=W:=⟨_,rfl⟩;rw[hW];have X0:Below w.heap.size w W:=by rw[← hW];exact (Below.refl _ _).alloc (Nat.le_refl _) _
  have Y0:Blk W w.heap.size #[.bool m,.slice a1 k1 c1,.slice a2 k2 c2] 100:=by rw[← hW];exact Blk.new w _ _
  have K:Hid (∀ w',Below W.heap.size W w'→w'.cell? ⟨w.heap.size,0,none⟩=some (.bool m)∧w'.cell? ⟨w.heap.size,1,none⟩=some (.slice a1 k1 c1)∧w'.cell? ⟨w.heap.size,2,none⟩=some (.slice a2 k2 c2)):=
   fun w' hb=>⟨(Y0.call hb).cell 0,(Y0.call hb).cell 1,(Y0.call hb).cell 2⟩
  have HX0:=hid X0;obtain⟨k0,k1',k2'⟩:=K W (Below.refl _ _);have XN:=hid (HN.out.call HX0.out);have XD:=hid (HD.out.call HX0.out);clear Y0 X0 hW
  go_region_held3 (fun w'=>w'.cell? ⟨w.heap.size,0,none⟩=some (.bool m)∧w'.cell? ⟨w.heap.size,1,none⟩=some (.slice a1 k1 c1)∧w'.cell? ⟨w.heap.size,2,none⟩=some (.slice a2 k2 c2))
   (first
    | exact K.out _ (Below.refl _ _).drew
    | exact K.out _ bb2.out
    | exact K.out _ bb1.out)
   (first
    | (go_at_call_of 107 (Value.slice a1 k1 c1);refine (b0o _ _ n (XN.out.call (by first | exact bb2.out | exact (Below.refl _ _).drew)) LN.out).mono ?_;rintro e w1 ⟨rfl,hb1⟩;rw[b0P,E1.out];have bb1:=hid (a0a (by first | exact bb2.out | exact (Below.refl _ _).drew) hb1))
    | (go_at_call_of 107 (Value.slice a2 k2 c2);refine (b0o _ _ d (XD.out.call (by first | exact bb1.out | exact (Below.refl _ _).drew)) LD.out).mono ?_;rintro e w2 ⟨rfl,hb2⟩;rw[b0P,E2.out];have bb2:=hid (a0a (by first | exact bb1.out | exact (Below.refl _ _).drew) hb2)))
  go_wp2_with fail;go_ret2
  exact⟨rfl,a0a HX0.out bb2.out⟩
 ·have q0:decide ((4000:Int)<(B1.size:Int))=false:=by simp;omega
  have q1:decide ((4000:Int)<(B2.size:Int))=true:=by simp;omega
  clear h1 h2;go_enter Tryz.func59,Tryz.ntmps59;go_wp2_with fail;obtain⟨W,hW⟩:∃ W,w.alloc (.cells #[.bool m,.slice a1 k1 c1,.slice a2 k2 c2] 100)=W:=⟨_,rfl⟩;rw[hW];have X0:Below w.heap.size w W:=by rw[← hW];exact (Below.refl _ _).alloc (Nat.le_refl _) _
  have Y0:Blk W w.heap.size #[.bool m,.slice a1 k1 c1,.slice a2 k2 c2] 100:=by rw[← hW];exact Blk.new w _ _
  have K:Hid (∀ w',Below W.heap.size W w'→w'.cell? ⟨w.heap.size,0,none⟩=some (.bool m)∧w'.cell? ⟨w.heap.size,1,none⟩=some (.slice a1 k1 c1)∧w'.cell? ⟨w.heap.size,2,none⟩=some (.slice a2 k2 c2)):=
   fun w' hb=>⟨(Y0.call hb).cell 0,(Y0.call hb).cell 1,(Y0.call hb).cell 2⟩
  have HX0:=hid X0;obtain⟨k0,k1',k2'⟩:=K W (Below.refl _ _);have XN:=hid (HN.out.call HX0.out);have XD:=hid (HD.out.call HX0.out);clear Y0 X0 hW
  go_region_held3 (fun w'=>w'.cell? ⟨w.heap.size,0,none⟩=some (.bool m)∧w'.cell? ⟨w.heap.size,1,none⟩=some (.slice a1 k1 c1)∧w'.cell? ⟨w.heap.size,2,none⟩=some (.slice a2 k2 c2))
   (first
    | exact K.out _ (Below.refl _ _).drew
    | exact K.out _ bb2.out
    | exact K.out _ bb1.out)
   (first
    | (go_at_call_of 107 (Value.slice a1 k1 c1);refine (b0o _ _ n (XN.out.call (by first | exact bb2.out | exact (Below.refl _ _).drew)) LN.out).mono ?_;rintro e w1 ⟨rfl,hb1⟩;rw[b0P,E1.out];have bb1:=hid (a0a (by first | exact bb2.out | exact (Below.refl _ _).drew) hb1))
    | (go_at_call_of 107 (Value.slice a2 k2 c2);refine (b0o _ _ d (XD.out.call (by first | exact bb1.out | exact (Below.refl _ _).drew)) LD.out).mono ?_;rintro e w2 ⟨rfl,hb2⟩;rw[b0P,E2.out];have bb2:=hid (a0a (by first | exact bb1.out | exact (Below.refl _ _).drew) hb2)))
  go_wp2_with fail;go_ret2
  exact⟨rfl,a0a HX0.out bb2.out⟩
 ·have q0:decide ((4000:Int)<(T.size:Int))=false:=by simp;omega
  clear h2;go_enter Tryz.func59,Tryz.ntmps59;go_wp2_with fail;obtain⟨W,hW⟩:∃ W,w.alloc (.cells #[.bool false,.slice a1 k1 c1,.slice a2 k2 c2] 100)=W:=⟨_,rfl⟩;rw[hW];have X0:Below w.heap.size w W:=by rw[← hW];exact (Below.refl _ _).alloc (Nat.le_refl _) _
  have Y0:Blk W w.heap.size #[.bool false,.slice a1 k1 c1,.slice a2 k2 c2] 100:=by rw[← hW];exact Blk.new w _ _
  have K:Hid (∀ w',Below W.heap.size W w'→w'.cell? ⟨w.heap.size,0,none⟩=some (.bool false)∧w'.cell? ⟨w.heap.size,1,none⟩=some (.slice a1 k1 c1)∧w'.cell? ⟨w.heap.size,2,none⟩=some (.slice a2 k2 c2)):=
   fun w' hb=>⟨(Y0.call hb).cell 0,(Y0.call hb).cell 1,(Y0.call hb).cell 2⟩
  have HX0:=hid X0;obtain⟨k0,k1',k2'⟩:=K W (Below.refl _ _);have XN:=hid (HN.out.call HX0.out);have XD:=hid (HD.out.call HX0.out);clear Y0 X0 hW
  go_region_held3 (fun w'=>w'.cell? ⟨w.heap.size,0,none⟩=some (.bool false)∧w'.cell? ⟨w.heap.size,1,none⟩=some (.slice a1 k1 c1)∧w'.cell? ⟨w.heap.size,2,none⟩=some (.slice a2 k2 c2))
   (first
    | exact K.out _ (Below.refl _ _).drew
    | exact K.out _ bb2.out
    | exact K.out _ bb1.out)
   (first
    | (go_at_call_of 107 (Value.slice a1 k1 c1);refine (b0o _ _ n (XN.out.call (by first | exact bb2.out | exact (Below.refl _ _).drew)) LN.out).mono ?_;rintro e w1 ⟨rfl,hb1⟩;rw[b0P,E1.out];have bb1:=hid (a0a (by first | exact bb2.out | exact (Below.refl _ _).drew) hb1))
    | (go_at_call_of 107 (Value.slice a2 k2 c2);refine (b0o _ _ d (XD.out.call (by first | exact bb1.out | exact (Below.refl _ _).drew)) LD.out).mono ?_;rintro e w2 ⟨rfl,hb2⟩;rw[b0P,E2.out];have bb2:=hid (a0a (by first | exact bb1.out | exact (Below.refl _ _).drew) hb2)))
  go_wp2_with fail;go_ret2
  exact⟨rfl,a0a HX0.out bb2.out⟩
 ·have q0:decide ((4000:Int)<(B1.size:Int))=false:=by simp;omega
  clear h2;go_enter Tryz.func59,Tryz.ntmps59;go_wp2_with fail;obtain⟨W,hW⟩:∃ W,w.alloc (.cells #[.bool true,.slice a1 k1 c1,.slice a2 k2 c2] 100)=W:=⟨_,rfl⟩;rw[hW];have X0:Below w.heap.size w W:=by rw[← hW];exact (Below.refl _ _).alloc (Nat.le_refl _) _
  have Y0:Blk W w.heap.size #[.bool true,.slice a1 k1 c1,.slice a2 k2 c2] 100:=by rw[← hW];exact Blk.new w _ _
  have K:Hid (∀ w',Below W.heap.size W w'→w'.cell? ⟨w.heap.size,0,none⟩=some (.bool true)∧w'.cell? ⟨w.heap.size,1,none⟩=some (.slice a1 k1 c1)∧w'.cell? ⟨w.heap.size,2,none⟩=some (.slice a2 k2 c2)):=
   fun w' hb=>⟨(Y0.call hb).cell 0,(Y0.call hb).cell 1,(Y0.call hb).cell 2⟩
  have HX0:=hid X0;obtain⟨k0,k1',k2'⟩:=K W (Below.refl _ _);have XN:=hid (HN.out.call HX0.out);have XD:=hid (HD.out.call HX0.out);clear Y0 X0 hW
  go_region_held3 (fun w'=>w'.cell? ⟨w.heap.size,0,none⟩=some (.bool true)∧w'.cell? ⟨w.heap.size,1,none⟩=some (.slice a1 k1 c1)∧w'.cell? ⟨w.heap.size,2,none⟩=some (.slice a2 k2 c2))
   (first
    | exact K.out _ (Below.refl _ _).drew
    | exact K.out _ bb2.out
    | exact K.out _ bb1.out)
   (first
    | (go_at_call_of 107 (Value.slice a1 k1 c1);refine (b0o _ _ n (XN.out.call (by first | exact bb2.out | exact (Below.refl _ _).drew)) LN.out).mono ?_;rintro e w1 ⟨rfl,hb1⟩;rw[b0P,E1.out];have bb1:=hid (a0a (by first | exact bb2.out | exact (Below.refl _ _).drew) hb1))
    | (go_at_call_of 107 (Value.slice a2 k2 c2);refine (b0o _ _ d (XD.out.call (by first | exact bb1.out | exact (Below.refl _ _).drew)) LD.out).mono ?_;rintro e w2 ⟨rfl,hb2⟩;rw[b0P,E2.out];have bb2:=hid (a0a (by first | exact bb1.out | exact (Below.refl _ _).drew) hb2)))
  go_wp2_with fail;go_ret2
  exact⟨rfl,a0a HX0.out bb2.out⟩
 ·have q0:decide ((4000:Int)<(B1.size:Int))=false:=by simp;omega
  have q1:decide ((4000:Int)<(B2.size:Int))=false:=by simp;omega
  have i3:=a0J (l:=[49]) h3;go_enter Tryz.func59,Tryz.ntmps59;go_wp2_with fail;obtain⟨W,hW⟩:∃ W,w.alloc (.cells #[.bool false,.slice a1 k1 c1,.slice a2 k2 c2] 100)=W:=⟨_,rfl⟩;rw[hW];have X0:Below w.heap.size w W:=by rw[← hW];exact (Below.refl _ _).alloc (Nat.le_refl _) _
  have Y0:Blk W w.heap.size #[.bool false,.slice a1 k1 c1,.slice a2 k2 c2] 100:=by rw[← hW];exact Blk.new w _ _
  have K:Hid (∀ w',Below W.heap.size W w'→w'.cell? ⟨w.heap.size,0,none⟩=some (.bool false)∧w'.cell? ⟨w.heap.size,1,none⟩=some (.slice a1 k1 c1)∧w'.cell? ⟨w.heap.size,2,none⟩=some (.slice a2 k2 c2)):=
   fun w' hb=>⟨(Y0.call hb).cell 0,(Y0.call hb).cell 1,(Y0.call hb).cell 2⟩
  have HX0:=hid X0;obtain⟨k0,k1',k2'⟩:=K W (Below.refl _ _);have XN:=hid (HN.out.call HX0.out);have XD:=hid (HD.out.call HX0.out);clear Y0 X0 hW
  go_region_held3 (fun w'=>w'.cell? ⟨w.heap.size,0,none⟩=some (.bool false)∧w'.cell? ⟨w.heap.size,1,none⟩=some (.slice a1 k1 c1)∧w'.cell? ⟨w.heap.size,2,none⟩=some (.slice a2 k2 c2))
   (first
    | exact K.out _ (Below.refl _ _).drew
    | exact K.out _ bb2.out
    | exact K.out _ bb1.out)
   (first
    | (go_at_call_of 107 (Value.slice a1 k1 c1);refine (b0o _ _ n (XN.out.call (by first | exact bb2.out | exact (Below.refl _ _).drew)) LN.out).mono ?_;rintro e w1 ⟨rfl,hb1⟩;rw[b0P,E1.out];have bb1:=hid (a0a (by first | exact bb2.out | exact (Below.refl _ _).drew) hb1))
    | (go_at_call_of 107 (Value.slice a2 k2 c2);refine (b0o _ _ d (XD.out.call (by first | exact bb1.out | exact (Below.refl _ _).drew)) LD.out).mono ?_;rintro e w2 ⟨rfl,hb2⟩;rw[b0P,E2.out];have bb2:=hid (a0a (by first | exact bb1.out | exact (Below.refl _ _).drew) hb2)))
  go_wp2_with fail;go_ret2
  exact⟨rfl,a0a HX0.out bb2.out⟩
 ·have q0:decide ((4000:Int)<(B1.size:Int))=false:=by simp;omega
  have q1:decide ((4000:Int)<(B2.size:Int))=false:=by simp;omega
  have i3:=a0J (l:=[49]) h3;go_enter Tryz.func59,Tryz.ntmps59;go_wp2_with fail;obtain⟨W,hW⟩:∃ W,w.alloc (.cells #[.bool true,.slice a1 k1 c1,.slice a2 k2 c2] 100)=W:=⟨_,rfl⟩;rw[hW];have X0:Below w.heap.size w W:=by rw[← hW];exact (Below.refl _ _).alloc (Nat.le_refl _) _
  have Y0:Blk W w.heap.size #[.bool true,.slice a1 k1 c1,.slice a2 k2 c2] 100:=by rw[← hW];exact Blk.new w _ _
  have K:Hid (∀ w',Below W.heap.size W w'→w'.cell? ⟨w.heap.size,0,none⟩=some (.bool true)∧w'.cell? ⟨w.heap.size,1,none⟩=some (.slice a1 k1 c1)∧w'.cell? ⟨w.heap.size,2,none⟩=some (.slice a2 k2 c2)):=
   fun w' hb=>⟨(Y0.call hb).cell 0,(Y0.call hb).cell 1,(Y0.call hb).cell 2⟩
  have HX0:=hid X0;obtain⟨k0,k1',k2'⟩:=K W (Below.refl _ _);have XN:=hid (HN.out.call HX0.out);have XD:=hid (HD.out.call HX0.out);clear Y0 X0 hW
  go_region_held3 (fun w'=>w'.cell? ⟨w.heap.size,0,none⟩=some (.bool true)∧w'.cell? ⟨w.heap.size,1,none⟩=some (.slice a1 k1 c1)∧w'.cell? ⟨w.heap.size,2,none⟩=some (.slice a2 k2 c2))
   (first
    | exact K.out _ (Below.refl _ _).drew
    | exact K.out _ bb2.out
    | exact K.out _ bb1.out)
   (first
    | (go_at_call_of 107 (Value.slice a1 k1 c1);refine (b0o _ _ n (XN.out.call (by first | exact bb2.out | exact (Below.refl _ _).drew)) LN.out).mono ?_;rintro e w1 ⟨rfl,hb1⟩;rw[b0P,E1.out];have bb1:=hid (a0a (by first | exact bb2.out | exact (Below.refl _ _).drew) hb1))
    | (go_at_call_of 107 (Value.slice a2 k2 c2);refine (b0o _ _ d (XD.out.call (by first | exact bb1.out | exact (Below.refl _ _).drew)) LD.out).mono ?_;rintro e w2 ⟨rfl,hb2⟩;rw[b0P,E2.out];have bb2:=hid (a0a (by first | exact bb1.out | exact (Below.refl _ _).drew) hb2)))
  go_wp2_with fail;go_ret2
  exact⟨rfl,a0a HX0.out bb2.out⟩
theorem r0x {d:Nat}:a0f d=⟨#[49]⟩↔d=1:=by
 constructor
 ·intro h;rw[← c0k]at h;rcases Nat.decEq d 1 with h1 | h1
  ·exact absurd h (b0Q h1)
  ·exact h1
 ·rintro rfl;exact c0k
theorem h0A (w:World)(v:Value)(q:Rat)(h:IsQ .i64 w v q)(h1:(limbs q.num.natAbs).length≤1000000)(h2:(limbs q.den).length≤1000000):
 Calls Tryz.prog 59 #[v] w fun e w'=>e=.returned (.tuple #[.string (c0I q),.int .i64 (c0U q)])∧Below w.heap.size w w':=by
 obtain⟨N,D,rfl,hn,hd⟩:=h.ex;refine h0z w _ N D q.num.natAbs q.den (a0f q.num.natAbs) (a0f q.den) (c0I q) (c0U q) hn hd h1 h2 rfl rfl ?_;unfold v0c c0I c0U;rw[a0W,a0W];by_cases o1:4000<nDigits q.num.natAbs
 ·have ho:ovQ q:=.inl o1;rw[if_pos ho,if_pos ho];exact .inl ⟨o1,rfl,rfl⟩
 ·by_cases o2:4000<nDigits q.den
  ·have ho:ovQ q:=.inr o2;rw[if_pos ho,if_pos ho];exact .inr (.inl ⟨by omega,o2,rfl,rfl⟩)
  ·have ho:¬ ovQ q:=fun h=>h.elim o1 o2
   rw[if_neg ho,if_neg ho];refine .inr (.inr ⟨by omega,by omega,rfl,?_⟩);unfold txQ;rw[r0x];generalize decide (q.num<0)=m
   by_cases hd1:q.den=1
   ·rw[hd1];cases m
    ·exact .inl ⟨rfl,rfl,a0Y (by simp[txB,a0f])⟩
    ·exact .inr (.inl ⟨rfl,rfl,a0Y (by simp[txB,a0f])⟩)
   ·cases m
    ·exact .inr (.inr (.inl ⟨rfl,hd1,a0Y (by simp[txB,a0f,hd1])⟩))
    ·exact .inr (.inr (.inr ⟨rfl,hd1,a0Y (by simp[txB,a0f,hd1])⟩))
theorem u0o (w:World):IsN .i64 (w.alloc (.cells #[.int .i64 1] 3)) (.slice (some ⟨w.heap.size,0,none⟩) 1 1) 1:=by
 unfold IsN;rw[d0f];exact Row.of_blk (b:=w.heap.size) (n:=1) (c:=1) (cs:=#[.int .i64 1]) (Blk.new w _ _) rfl (by unfold maxLen;omega) (fun i x hx=>by simpa[b0c]using hx) (Nat.le_refl _) (by unfold maxLen;omega)
end Go.Proofs.YtlmnpocifldpmaaGreatDoor
namespace Go.Proofs.YtlmnpocifldpmaaGreatDoor
open Go.RowKit
def x0F (k:IntKind)(n m:Nat)(e:Ending)(w':World):Prop:=∃ v,e=.returned (.tuple #[v,.int k (m:Int)])∧IsN k w' v n
theorem l0w (w:World)(v:Value)(a d:Nat)(ha:IsN .i64 w v a)(hd0:0<d)(hd1:d<1000000000)(hla:(limbs a).length≤1000000):
 Calls Tryz.prog 253 #[v,.int .i64 d] w fun e w'=>x0F .i64 (a / d) (a%d) e w'∧Below w.heap.size w w':=by
 obtain⟨a1,c1,rfl,h1,h2,h3⟩:=ha.openI;have H3:=hid h3;clear h3 ha;obtain⟨n,ea⟩:∃ n,(limbs a).length=n:=⟨_,rfl⟩;rw[ea]at h1 hla ⊢;have HA:=hid ea;clear ea;have hmk:=fun W=>d0x n (by omega) W
 have hdz:((d:Int)==0)=false:=by simp;omega
 go_enter Tryz.func253,Tryz.ntmps253;go_wp2_with fail;clear hmk
 go_loopw [7,8,9] (fun rr ii nn wr=>∃ (j r:Nat) (t:Int) (o:List Nat),rr=.int .i64 r∧ii=.int .i64 t∧t=(j:Int)-1∧j≤n∧Hid (SmallI a d j r o)∧Hid (Arr .i64 3 wr w.heap.size o)∧Hid (Below w.heap.size w wr)) (fun _ ii _ _=>(intOf ii+1).toNat)
 case atStart=>exact⟨n,0,_,_,rfl,rfl,rfl,Nat.le_refl _,by have:=SmallI.start (a:=a) hd0;rw[HA.out]at this;exact this,Arr.made w .i64 3 n,(Below.refl _ _).alloc (Nat.le_refl _) _⟩
 case round=>
  obtain⟨j,r,t,o,rfl,rfl,ht,hj,hS,hO,hB⟩:=hrel;have hsz:Hid (o.length=n):=by rw[Hid,hS.out.len,HA.out]
  cases j with
  | zero=>
   obtain rfl:t = -1:=by omega
   clear ht;have hv:=hid hS.out.done;have hr:=hid (show Row wr (.slice (some ⟨w.heap.size,0,none⟩) n n) (b0c .i64 o) from by
    have:=hO.out.row (n:=n) (c:=n) (by rw[hsz.out];exact Nat.le_refl _) (Nat.le_refl _) (by unfold maxLen;omega);rwa[List.take_of_length_le (by rw[hsz.out];exact Nat.le_refl _)]at this)
   go_wp2_with (go_at_call 109;refine (f0P _ _ o hS.out.sm hr.out).mono ?_;rintro e w1 ⟨⟨v1,rfl,hv1⟩,rfl⟩)
   go_ret2
   exact⟨⟨v1,t0I (by rw[hv.out.2]),by rw[← hv.out.1];exact hv1⟩,hB.out⟩
  | succ j=>
   obtain rfl:t=(j:Int):=by omega
   clear ht;obtain⟨x,hx⟩:∃ x,(limbs a)[j]?=some x:=⟨_,List.getElem?_eq_getElem (by rw[HA.out];omega)⟩;obtain⟨g,og,rfl,hg,hc⟩:=H3.out _ x hx;have d1:=(hB.out.cell (p:=⟨g,og+j,none⟩) hg).trans hc;obtain⟨z,hz⟩:∃ z,o[j]?=some z:=⟨_,List.getElem?_eq_getElem (by rw[hsz.out];omega)⟩;have d3:=hO.out.cell hz;have d4:=hO.out.free j;have HN:=hid (hS.out.next hx);have hxl:=(a0l a).get hx;have hrl:=hS.out.rd;clear hx hc hz;go_wp2_with fail;go_roundw
   case rel=>
    have e1:(((r:Int)*1000000000+x) / d)=(((r*1000000000+x) / d:Nat):Int):=by rw[Int.natCast_ediv];rfl
    have e2:(((r:Int)*1000000000+x)%d)=(((r*1000000000+x)%d:Nat):Int):=by rw[Int.natCast_emod];rfl
    rw[e1];exact⟨j,_,_,_,by rw[e2],rfl,by omega,by omega,HN,hO.out.set j _,a0B hB.out (Nat.le_refl _) _⟩
   case measure=>simp[intOf]<;>omega
def x0a (k:IntKind)(t:TypeId)(B n len:Nat)(e:Ending)(w':World):Prop:=∃ g o,e=.returned (.slice (some ⟨g,0,none⟩) len len)∧B≤g∧Arr k t w' g o∧o.length=len∧Sm o∧val o=n
theorem j0d (w:World)(v:Value)(a d:Nat)(ha:IsN .i64 w v a)(hd1:d<1000000000)(hla:(limbs a).length≤1000000):
 Calls Tryz.prog 254 #[v,.int .i64 d] w fun e w'=>x0a .i64 3 w.heap.size (a*d) ((limbs a).length+1) e w'∧Below w.heap.size w w':=by
 obtain⟨a1,c1,rfl,h1,h2,h3⟩:=ha.openI;have H3:=hid h3;clear h3 ha;obtain⟨n,ea⟩:∃ n,(limbs a).length=n:=⟨_,rfl⟩;rw[ea]at h1 hla ⊢;have HA:=hid ea;clear ea;have hmk:∀ W:World,(Instr.makeSlice 89 (.int .i64 ((n:Int)+1)) (.int .i64 ((n:Int)+1))).run Tryz.prog W=.ok (.slice (some ⟨W.heap.size,0,none⟩) (n+1) (n+1)) (W.alloc (.cells (madeCells #[.int .i64 0] (n+1)) 3)):=fun W=>by
  have:=d0x (n+1) (by omega) W;rwa[Int.natCast_add]at this
 go_enter Tryz.func254,Tryz.ntmps254;go_wp2_with fail;clear hmk
 go_loopw [6,7,8] (fun cc ii nn wr=>∃ (i c:Nat) (o:List Nat),cc=.int .i64 c∧ii=.int .i64 i∧i≤n∧Hid (ScaleI a d i c o)∧Hid (Arr .i64 3 wr w.heap.size o)∧Hid (Below w.heap.size w wr)) (fun _ ii _ _=>n-(intOf ii).toNat)
 case atStart=>exact⟨0,0,_,rfl,rfl,Nat.zero_le _,ScaleI.start a d,by rw[HA.out];exact Arr.made w .i64 3 (n+1),(Below.refl _ _).alloc (Nat.le_refl _) _⟩
 case round=>
  obtain⟨i,c,o,rfl,rfl,hin,hS,hO,hB⟩:=hrel;have hsz:Hid (o.length=n+1):=by rw[Hid,hS.out.len,HA.out]
  by_cases hlt:i<n
  ·obtain⟨x,hx⟩:∃ x,(limbs a)[i]?=some x:=⟨_,List.getElem?_eq_getElem (by rw[HA.out];exact hlt)⟩;obtain⟨g,og,rfl,hg,hc⟩:=H3.out _ x hx;have d1:=(hB.out.cell (p:=⟨g,og+i,none⟩) hg).trans hc;obtain⟨z,hz⟩:∃ z,o[i]?=some z:=⟨_,List.getElem?_eq_getElem (by rw[hsz.out];omega)⟩;have d3:=hO.out.cell hz;have d4:=hO.out.free i;have HN:=hid (hS.out.next hd1 hx);have hb1:=d0d (old:=0) (by omega) ((a0l a).get hx) hd1 hS.out.c1;have hcl:=hS.out.c1;clear hx hc hz;have HP:=hid (show ((x:Int)*(d:Int))=((x*d:Nat):Int) from (Int.natCast_mul x d).symm);obtain⟨p,hp⟩:∃ p,x*d=p:=⟨_,rfl⟩;rw[hp]at hb1 HN HP;have hp2:=hb1.2;clear hb1 hp;have e5:IntKind.i64.wrap ((x:Int)*(d:Int))=(p:Int):=by rw[HP.out];exact IntWalk.i64_in _ (by omega)
   have e5':wrap64 ((x:Int)*(d:Int))=(p:Int):=by rw[HP.out];exact IntWalk.wrap64_in _ (by omega)
   go_wp2_with fail;clear e5 e5';go_roundw
   case rel=>
    have hz:(((p:Int)+c)%1000000000)=(((p+c)%1000000000:Nat):Int):=by omega
    rw[hz];exact⟨i+1,(p+c) / 1000000000,_,by go_num,by go_num,by omega,HN,hO.out.set i _,a0B hB.out (Nat.le_refl _) _⟩
   case measure=>simp[intOf]<;>omega
  ·obtain rfl:i=n:=by omega
   obtain⟨z,hz⟩:∃ z,o[i]?=some z:=⟨_,List.getElem?_eq_getElem (by rw[hsz.out];omega)⟩;have d3:=hO.out.cell hz;have d4:=hO.out.free i;clear hz;have hD:=hid (show val (o.set i c)=a*d∧Sm (o.set i c)∧(o.set i c).length=i+1 from by have:=hS.out;rw[← HA.out]at this ⊢;exact this.done);go_wp2_with fail;go_ret
   exact⟨⟨w.heap.size,_,rfl,Nat.le_refl _,hO.out.set i c,hD.out.2.2,hD.out.2.1,hD.out.1⟩,a0B hB.out (Nat.le_refl _) _⟩
def v0e (us vs:List Nat)(gu j n:Nat)(w:World)(e:Ending)(w':World):Prop:=
 e=.returned (.int .i64 ((val ((us.drop j).take (n+1)) / val vs:Nat):Int))∧∃ o,WinOut us j n (val ((us.drop j).take (n+1))%val vs) o∧Arr .i64 3 w' gu o∧w.grownBy w' (some gu)
theorem t0O (w:World)(gu j cu:Nat)(us:List Nat)(gv ov cv:Nat)(vs:List Nat)(n:Nat)(hS:StepIn us vs j n)(hU:Arr .i64 3 w gu us)(hV:Row w (.slice (some ⟨gv,ov,none⟩) n cv) (b0c .i64 vs))(hne:gv≠gu):
 Calls Tryz.prog 255 #[.slice (some ⟨gu,j,none⟩) (n+1) cu,.slice (some ⟨gv,ov,none⟩) n cv] w fun e w'=>v0e us vs gu j n w e w':=by
 have n2:=hS.n2;have nm:=hS.nm;have lu:=hS.lu;have um:=hS.um;have cv':∀ i,i<n→w.cell? ⟨gv,ov+i,none⟩=some (.int .i64 (vs.getD i 0:Nat)):=fun i hi=>by
  obtain⟨g,o,e,hg,hc⟩:=hV.at (d0A (getD_some (l:=vs) (i:=i) (by rw[hS.lv];exact hi)));simp at e;obtain⟨rfl,rfl⟩:=e;exact hc
 have cu':∀ i,i≤n→w.cell? ⟨gu,j+i,none⟩=some (.int .i64 (us.getD (j+i) 0:Nat)):=fun i hi=>hU.cell (getD_some (by omega))
 have hE:=hid hS.est;have a0:=cu' n (Nat.le_refl _);have a1:=cu' (n-1) (by omega);have a2:=cu' (n-2) (by omega);have b1:=cv' (n-1) (by omega);have b2:=cv' (n-2) (by omega);have CV:=hid cv';have CU:=hid cu';have HS:=hid hS;have HU:=hid hU;clear cv' cu' hS hU hV;obtain⟨u0,hu0⟩:∃ x,us.getD (j+n) 0=x:=⟨_,rfl⟩;obtain⟨u1,hu1⟩:∃ x,us.getD (j+(n-1)) 0=x:=⟨_,rfl⟩;obtain⟨u2,hu2⟩:∃ x,us.getD (j+(n-2)) 0=x:=⟨_,rfl⟩;obtain⟨v1,hv1⟩:∃ x,vs.getD (n-1) 0=x:=⟨_,rfl⟩;obtain⟨v2,hv2⟩:∃ x,vs.getD (n-2) 0=x:=⟨_,rfl⟩;rw[hu0,hu1,hu2,hv1,hv2]at hE;rw[hu0]at a0;rw[hu1]at a1;rw[hu2]at a2;rw[hv1]at b1;rw[hv2]at b2;have HU0:=hid hu0;clear hu0 hu1 hu2 hv1 hv2;have l0:=hE.out.b0;have l1:=hE.out.b1;have l2:=hE.out.b2;have l3:=hE.out.c1;have l4:=hE.out.c2;have l5:=hE.out.v0;have dz:((v1:Int)==0)=false:=by simp;omega
 have f1:(0:Int)≤(n:Int)-1:=by omega
 have f2:(n:Int)-1<(n:Int)+1:=by omega
 have f3:(n:Int)-1<(n:Int):=by omega
 have f4:(0:Int)≤(n:Int)-2:=by omega
 have f5:(n:Int)-2<(n:Int)+1:=by omega
 have f6:(n:Int)-2<(n:Int):=by omega
 have f7:(0:Int)≤(n:Int):=by omega
 have f8:(n:Int)<(n:Int)+1:=by omega
 have e1:IntKind.i64.wrap ((n:Int)-1)=(n:Int)-1:=IntWalk.i64_in _ (by omega);have e2:IntKind.i64.wrap ((n:Int)-2)=(n:Int)-2:=IntWalk.i64_in _ (by omega);have e3:((n:Int)-1).toNat=n-1:=by omega
 have e4:((n:Int)-2).toNat=n-2:=by omega
 have e5:IntKind.i64.wrap ((u0:Int)*1000000000)=(u0:Int)*1000000000:=IntWalk.i64_in _ (by omega);have e6:IntKind.i64.wrap ((u0:Int)*1000000000+u1)=(u0:Int)*1000000000+u1:=IntWalk.i64_in _ (by omega);go_enter Tryz.func255,Tryz.ntmps255;go_wp2_with fail;go_quiet (fail)
 clear e5 e6;go_wp2_with fail;go_quiet (fail)
 go_upto_block 0 with (fail)
 rename_i nq1 nq2
 obtain⟨V,hV⟩:∃ V,val vs=V:=⟨_,rfl⟩;obtain⟨U,hU⟩:∃ U,val ((us.drop j).take (n+1))=U:=⟨_,rfl⟩;rw[hU,hV]at hE;have HVU:=hid (And.intro hU hV);clear hU hV
 go_cut [7] (fun gg wx=>∃ (G q:Nat),gg=.int .i64 G∧wx=w.drewN q∧G<1000000000∧Hid (U / V≤G∧G*V<U+V))
 case first=>
  go_wp2_with fail
  go_loopw [7,8] (fun gg rr wr=>∃ G R q:Nat,gg=.int .i64 G∧rr=.int .i64 R∧wr=w.drewN q∧Hid (EstI U V u0 u1 v1 G R)) (fun gg _ _=>(intOf gg).toNat)
  case atStart=>
   exact⟨_,_,_,by rw[Int.natCast_ediv];rfl,by rw[Int.natCast_emod];rfl,by rw[World.drewN_drewN],EstI.start hE.out⟩
  case round=>
   obtain⟨G,R,q,rfl,rfl,rfl,hI⟩:=hrel;have g2:=hI.out.g2;have r2:=hI.out.r2;by_cases hR:R<1000000000
   ·have q1:decide ((R:Int)<1000000000)=true:=by simp;omega
    by_cases hG:1000000000≤G
    ·have q2:decide ((1000000000:Int)≤(G:Int))=true:=by simp;omega
     have HN:=hid (hI.out.big hE.out hR hG);go_wp2_with fail
     go_big_quiet (fail)
     clear q1 q2;go_wp2_with fail;go_quiet (fail)
     go_wp2_with fail;go_roundw
     case rel=>exact⟨G-1,R+v1,_,by go_num,by go_num,by rw[World.drewN_drewN,World.drewN_drewN],HN⟩
     case measure=>simp[intOf]<;>omega
    ·have q2:decide ((1000000000:Int)≤(G:Int))=false:=by simp;omega
     obtain⟨p,hp⟩:∃ p,G*v2=p:=⟨_,rfl⟩;have hpb:p≤999999999*999999999:=by rw[← hp];exact Nat.mul_le_mul (by omega) (by omega)
     have HPI:=hid (show ((G:Int)*(v2:Int))=(p:Int) from by rw[← Int.natCast_mul,hp]);by_cases hT:R*1000000000+u2<p
     ·have q3:decide ((R:Int)*1000000000+u2<(p:Int))=true:=by simp;omega
      have HN:=hid (hI.out.less hE.out hR (by rw[hp];exact hT));have hg0:=HN.out.2;clear hp hT;obtain⟨x5,x6,x7⟩:IntKind.i64.wrap ((G:Int)*(v2:Int))=(p:Int)∧IntKind.i64.wrap ((R:Int)*1000000000)=(R:Int)*1000000000∧IntKind.i64.wrap ((R:Int)*1000000000+u2)=(R:Int)*1000000000+u2:=by
       refine⟨by rw[HPI.out];exact IntWalk.i64_in _ (by omega),IntWalk.i64_in _ (by omega),IntWalk.i64_in _ (by omega)⟩
      go_wp2_with fail
      go_big_quiet (fail)
      clear q1 q2 q3 x5 x6 x7;go_wp2_with fail;go_quiet (fail)
      go_wp2_with fail;go_roundw
      case rel=>exact⟨G-1,R+v1,_,by go_num,by go_num,by rw[World.drewN_drewN,World.drewN_drewN],HN.out.1⟩
      case measure=>simp[intOf]<;>omega
     ·have q3:decide ((R:Int)*1000000000+u2<(p:Int))=false:=by simp;omega
      have HD:=hid (hI.out.done hE.out (.inr ⟨by omega,by rw[hp];omega⟩));have HQ:=hid hI.out.q;clear hp hT;obtain⟨x5,x6,x7⟩:IntKind.i64.wrap ((G:Int)*(v2:Int))=(p:Int)∧IntKind.i64.wrap ((R:Int)*1000000000)=(R:Int)*1000000000∧IntKind.i64.wrap ((R:Int)*1000000000+u2)=(R:Int)*1000000000+u2:=by
       refine⟨by rw[HPI.out];exact IntWalk.i64_in _ (by omega),IntWalk.i64_in _ (by omega),IntWalk.i64_in _ (by omega)⟩
      go_wp2_with fail
      go_big_quiet (fail)
      clear q1 q2 q3 x5 x6 x7;go_wp2_with fail
      go_meet
      exact⟨G,_,rfl,by rw[World.drewN_drewN],HD.out.1,HQ.out,HD.out.2⟩
   ·have q1:decide ((R:Int)<1000000000)=false:=by simp;omega
    have HD:=hid (hI.out.done hE.out (.inl (by omega)));have HQ:=hid hI.out.q;go_wp2_with fail
    go_big_quiet (fail)
    clear q1;go_wp2_with fail
    go_meet
    exact⟨G,_,rfl,by rw[World.drewN_drewN],HD.out.1,HQ.out,HD.out.2⟩
 case rest=>
  obtain⟨G,q,rfl,rfl,hG,hQ⟩:=hcut;have hE1:=hE;clear a0 a1 a2 b1 b2 dz f1 f2 f3 f4 f5 f6 f7 f8 e1 e2 e3 e4 hE l0 l1 l2 l3 l4 l5;go_wp2_with fail
  go_loopw [9,10,11,12] (fun bb ii tt xx wr=>∃ (i c:Nat) (o:List Nat),bb=.int .i64 c∧ii=.int .i64 i∧i≤n∧Hid (MsubI us vs j n G i c o)∧Hid (Arr .i64 3 wr gu o)∧Hid (w.grownBy wr (some gu))) (fun _ ii _ _ _=>n-(intOf ii).toNat)
  case atStart=>exact⟨0,0,us,rfl,rfl,Nat.zero_le _,MsubI.start HS.out.su,HU.out.drewN q,e0J (World.grownBy.refl w _) q⟩
  case round=>
   obtain⟨i,c,o,rfl,rfl,hin,hM,hO,hB⟩:=hrel;have hol:=hid hM.out.len;have hcG:=hM.out.c1;by_cases hlt:i<n
   ·have d1:=hO.out.cell (getD_some (l:=o) (i:=j+i) (by rw[hol.out];omega));have d4:=hO.out.free (j+i);have d2:=c0M hB.out (CV.out i hlt) hne;have hvl:=HS.out.sv.getD i;have hul:=HS.out.su.getD (j+i);rw[b0t hM.out.hi]at d1;obtain⟨T,M,z,c',hT,hM1,hz,hc',z1,z2,z3,z4,z5,z6,z7,z8⟩:=r0a hul hcG hG hvl;have HN:=hid (hM.out.next (by omega) lu z1 z2 z3);obtain⟨ui,hui⟩:∃ x,us.getD (j+i) 0=x:=⟨_,rfl⟩;obtain⟨vi,hvi⟩:∃ x,vs.getD i 0=x:=⟨_,rfl⟩;rw[hui]at d1 hul hT;rw[hvi]at d2 hvl hT;clear hui hvi z3;obtain⟨p,hp⟩:∃ p,G*vi=p:=⟨_,rfl⟩;have hpb:p≤999999999*999999999:=by rw[← hp];exact Nat.mul_le_mul (by omega) (by omega)
    have HPI:=hid (show ((G:Int)*(vi:Int))=(p:Int) from by rw[← Int.natCast_mul,hp]);rw[hp]at hT;have HT:=hid hT;have HM1:=hid hM1;have HZ:=hid hz;have HC:=hid hc';clear hp hT hM1 hz hc';have f1:(0:Int)≤(i:Int):=by omega
    have f2:(i:Int)<(n:Int):=by omega
    have f3:(i:Int)<(n:Int)+1:=by omega
    obtain⟨x5,x6,x7⟩:IntKind.i64.wrap ((G:Int)*(vi:Int))=(p:Int)∧IntKind.i64.wrap ((ui:Int)-c)=(ui:Int)-c∧IntKind.i64.wrap ((ui:Int)-c-p)=T:=by
     refine⟨by rw[HPI.out];exact IntWalk.i64_in _ (by omega),IntWalk.i64_in _ (by omega),by rw[HT.out];exact IntWalk.i64_in _ (by omega)⟩
    go_wp2_with fail;go_quiet (fail)
    clear x5 x6 x7;have y1:=HM1.out;have y2:=HZ.out;have y3:=HC.out;go_wp2_with fail;clear y1 y2 y3;go_roundw
    case rel=>exact⟨i+1,c',_,by rw[HC.out],by go_num,by omega,HN,(hO.out.drewN _).set (j+i) z,c0T (e0J hB.out _) _ _⟩
    case measure=>simp[intOf]<;>omega
   ·obtain rfl:i=n:=by omega
    have hg0:=b0t hM.out.hi;have d1:=hO.out.cell (getD_some (l:=o) (i:=j+i) (by rw[hol.out];omega));have d4:=hO.out.free (j+i);rw[hg0,HU0.out]at d1;have hV0:=hE1.out.pos;have l0:=hE1.out.b0;clear hg0;by_cases hc:c≤u0
    ·obtain⟨r1,r2,r3⟩:=hM.out.fits lu HS.out.lv HS.out.sv HVU.out.1 HVU.out.2 HU0.out hQ.out.1 hV0 hc;have R1:=hid r1;have R3:=hid r3;subst r2;clear r1 r3 hc;go_wp2_with fail;refine wp_loop_rounds 1 ?_;rw[rounds_succ];go_wp2_with fail;go_ret
     refine⟨a0L (by rw[HVU.out.1,HVU.out.2,← R1.out]),_,by rw[HVU.out.1,HVU.out.2];exact R3.out,hO.out.set (j+i) 0,c0T hB.out _ _⟩
    ·obtain⟨hc1,hadd⟩:=hM.out.lacks lu HS.out.lv HS.out.sv HVU.out.1 HVU.out.2 HU0.out hQ.out.1 hQ.out.2 hV0 (by omega);have HADD:=hid hadd;have hsub:((u0:Int)-(c:Int)) = -1:=by omega
     have hcb:(c:Int)≤1000000000:=by omega
     have HN:=hid (hO.out.setN (j+i) (-1));have HG:=hid (c0T hB.out (j+i) (.int .i64 (-1)));clear hadd hc hc1;go_wp2_with fail;refine wp_loop_rounds 2 ?_;rw[rounds_succ];clear hsub;obtain⟨wx,hwx⟩:∃ wx,wr.setCell ⟨gu,j+i,none⟩ (.int .i64 (-1))=wx:=⟨_,rfl⟩;rw[hwx]at HN HG ⊢;clear hwx d1 d4;have k1:=HN.out.self (m:=j+i) (by rw[hol.out];omega);go_wp2_with fail
     go_loopw [13,14,15] (fun cc ii tt wq=>∃ (y k:Nat) (p:List Nat),cc=.int .i64 k∧ii=.int .i64 y∧y≤i∧Hid (AddI o vs j y k p)∧Hid (ArrN .i64 3 wq gu p (j+i) (-1))∧Hid (w.grownBy wq (some gu))) (fun _ ii _ _=>i-(intOf ii).toNat)
     case atStart=>exact⟨0,0,o,rfl,rfl,Nat.zero_le _,AddI.start hM.out.sm,HN,HG⟩
     case round=>
      obtain⟨y,k,p,rfl,rfl,hyi,hA,hP,hB2⟩:=hrel;have hpl:=hid (show p.length=us.length from by rw[hA.out.len,hol.out]);by_cases hlt2:y<i
      ·have d1:=hP.out.cell (i:=j+y) (by omega) (getD_some (l:=p) (i:=j+y) (by rw[hpl.out];omega));have d4:=hP.out.free (j+y);have d2:=c0M hB2.out (CV.out y hlt2) hne;rw[b0t hA.out.hi]at d1;have HN2:=hid (hA.out.next hM.out.sm HS.out.sv (by rw[hol.out];omega));have hvl:=HS.out.sv.getD y;have hul:=hM.out.sm.getD (j+y);have hk1:=hA.out.k1;obtain⟨ui,hui⟩:∃ x,o.getD (j+y) 0=x:=⟨_,rfl⟩;obtain⟨vi,hvi⟩:∃ x,vs.getD y 0=x:=⟨_,rfl⟩;rw[hui]at d1 hul;rw[hvi]at d2 hvl;rw[hui,hvi]at HN2;clear hui hvi;have f1:(0:Int)≤(y:Int):=by omega
       have f2:(y:Int)<(i:Int):=by omega
       have f3:(y:Int)<(i:Int)+1:=by omega
       have hkI:(k:Int)≤1:=by omega
       obtain⟨x5,x6⟩:IntKind.i64.wrap ((ui:Int)+vi)=(ui:Int)+vi∧IntKind.i64.wrap ((ui:Int)+vi+k)=(ui:Int)+vi+k:=by
        refine⟨IntWalk.i64_in _ (by omega),IntWalk.i64_in _ (by omega)⟩
       go_wp2_with fail;go_quiet (fail)
       clear x5 x6;go_wp2_with fail;go_roundw
       case rel=>
        have hz:(((ui:Int)+vi+k)%1000000000)=(((ui+vi+k)%1000000000:Nat):Int):=by omega
        rw[hz];exact⟨y+1,_,_,by go_num,by go_num,by omega,HN2,(hP.out.drewN _).set (by omega) _,c0T (e0J hB2.out _) _ _⟩
       case measure=>simp[intOf]<;>omega
      ·obtain rfl:y=i:=by omega
       obtain⟨r0,r1,r2,r3⟩:=HADD.out k p hA.out;subst r0;have R1:=hid r1;have R3:=hid r3;have k1:=hP.out.self (m:=j+y) (by rw[hpl.out];omega);have k2:=hP.out.free (j+y);clear r1 r3;go_wp2_with fail;rw[rounds_succ];go_wp2_with fail;go_ret
       refine⟨a0L (by rw[HVU.out.1,HVU.out.2,R1.out];omega),_,by rw[HVU.out.1,HVU.out.2];exact R3.out,hP.out.back 0,c0T hB2.out _ _⟩
theorem k0H (w:World)(v u:Value)(a b:Nat)(ha:IsN .i64 w v a)(hb:IsN .i64 w u b)(hlt:a<b):
 Calls Tryz.prog 200 #[v,u] w fun e w'=>j0S .i64 (a / b) (a%b) e w'∧Below w.heap.size w w':=by
 have HA:=hid ha;have HB:=hid hb;have HL:=hid (b0A hlt);have HQ:=hid (Nat.div_eq_of_lt hlt);have HR:=hid (Nat.mod_eq_of_lt hlt);obtain⟨a1,c1,rfl,_⟩:=ha.openI;obtain⟨a2,c2,rfl,_⟩:=hb.openI;clear ha hb hlt;go_enter Tryz.func200,Tryz.ntmps200;go_wp2_with fail;refine (c0E _ _ _ a b HA.out HB.out).mono ?_;rintro e w1 ⟨rfl,hb1⟩;have B1:=hid hb1;clear hb1;rw[HL.out];go_wp2_with fail;go_ret2
 exact⟨⟨_,_,rfl,by rw[HQ.out];exact IsN.zero _ _,by rw[HR.out];exact HA.out.call B1.out⟩,B1.out⟩
theorem n0c (w:World)(v u:Value)(a b:Nat)(ha:IsN .i64 w v a)(hb:IsN .i64 w u b)(hle:b≤a)(h0:0<b)(h1:b<1000000000)(hla:(limbs a).length≤1000000):
 Calls Tryz.prog 200 #[v,u] w fun e w'=>j0S .i64 (a / b) (a%b) e w'∧Below w.heap.size w w':=by
 have HA:=hid ha;have HB:=hid hb;have hord:b0G a b=0∨b0G a b=1:=by
  unfold b0G;split
  ·omega
  ·split<;>simp
 obtain⟨a1,c1,rfl,h1',_⟩:=ha.openI;obtain⟨a2,c2,rfl,h2',h3',h4'⟩:=hb.openI;have hl1:limbs b = [b]:=c0L h0 h1;obtain⟨g,o,rfl,hg,hc⟩:=h4' 0 b (by rw[hl1];rfl);rw[Nat.add_zero]at hc;have HC:=hid hc;have hlen:(limbs b).length=1:=by rw[hl1];rfl
 rw[hlen]at HB h2' ⊢;clear ha hb hc h4' hl1 hlen;go_enter Tryz.func200,Tryz.ntmps200;go_wp2_with fail;refine (c0E _ _ _ a b HA.out HB.out).mono ?_;rintro e w1 ⟨rfl,hb1⟩;have d1:=(hb1.cell (p:=⟨g,o,none⟩) hg).trans HC.out;have B1:=hid hb1;clear hb1;obtain⟨t,ht⟩:∃ t,b0G a b=t:=⟨_,rfl⟩;rw[ht]at hord ⊢;have q0:decide (t<0)=false:=by simp;omega
 clear ht hord;go_wp2_with fail;refine (l0w _ _ a b (HA.out.call B1.out) h0 h1 hla).mono ?_;rintro e w2 ⟨⟨v2,rfl,hv2⟩,hb2⟩;have B2:=hid hb2;have V2:=hid hv2;clear hb2 hv2;have hrb:a%b<1000000000:=Nat.lt_trans (Nat.mod_lt a h0) h1;go_wp2_with fail;refine (f0P _ _ [a%b] (Sm.cons hrb Sm.nil) ?_).mono ?_
 ·exact Row.of_blk (b:=w2.heap.size) (n:=1) (c:=1) (cs:=#[.int .i64 ((a%b:Nat):Int)]) (Blk.new w2 _ _) rfl (by unfold maxLen;omega) (fun i x hx=>by simpa[b0c]using hx) (Nat.le_refl _) (by unfold maxLen;omega)
 ·rintro e w3 ⟨⟨v3,rfl,hv3⟩,rfl⟩;have V3:=hid hv3;clear hv3;go_wp2_with fail;go_ret2
  have hb3:Below w2.heap.size w2 (w2.alloc (.cells #[.int .i64 ((a%b:Nat):Int)] 3)):=(Below.refl _ _).alloc (Nat.le_refl _) _;refine⟨⟨_,_,rfl,V2.out.call hb3,?_⟩,a0a (a0a B1.out B2.out) hb3⟩;have:=V3.out;rwa[show val [a%b]=a%b by simp[a0E]]at this
theorem k0G (w:World)(v u:Value)(a b m:Nat)(ha:IsN .i64 w v a)(hb:IsN .i64 w u b)(hle:b≤a)(hn:(limbs b).length=m)(hm2:2≤m)(hla:(limbs a).length≤1000000):
 Calls Tryz.prog 200 #[v,u] w fun e w'=>j0S .i64 (a / b) (a%b) e w'∧Below w.heap.size w w':=by
 have HA:=hid ha;have HB:=hid hb;have hord:b0G a b=0∨b0G a b=1:=by
  unfold b0G;split
  ·omega
  ·split<;>simp
 have hmn:=a0e hle;obtain⟨a1,c1,rfl,h1',_⟩:=ha.openI;obtain⟨a2,c2,rfl,h2',h3',h4'⟩:=hb.openI;obtain⟨x,hx⟩:∃ x,(limbs b)[m-1]?=some x:=⟨_,List.getElem?_eq_getElem (by omega)⟩;obtain⟨g,o,rfl,hg,hc⟩:=h4' (m-1) x hx;have HC:=hid hc;have hn1:(limbs b).length=(m-1)+1:=by omega
 obtain⟨s1,s2,s3⟩:=i0W hn1 hx;obtain⟨t1,t2,_⟩:=h0m hn1 hx;obtain⟨d,hd⟩:∃ d,1000000000 / (x+1)=d:=⟨_,rfl⟩;rw[hd]at s1 s2 s3;have HS:=hid (show (limbs (b*d)).length=m by omega);have hdI:=hid (show ((1000000000:Int) / ((x:Int)+1))=(d:Int) from by rw[← hd];rfl);rw[hn]at h2' hmn ⊢;obtain⟨L,hL⟩:∃ L,(limbs a).length=L:=⟨_,rfl⟩;rw[hL]at hmn h1' ⊢;have hla':L≤1000000:=by omega
 have HL:=hid hL;have HN:=hid hn;have HLA:=hid hla;have HLE:=hid hle;rw[hL]at HA;rw[hn]at HB;obtain⟨K,hK⟩:∃ K,K=L+1-m:=⟨_,rfl⟩;have hKI:=hid (show ((L:Int)+1-(m:Int))=(K:Int) by omega);have hKL:K+m=L+1:=by omega
 have hmk:=hid (fun W=>d0x K (by omega) W);clear ha hb hc h4' hx hd s1 hL hn hla hle hn1 hK;go_enter Tryz.func200,Tryz.ntmps200;go_wp2_with fail;refine (c0E _ _ _ a b HA.out HB.out).mono ?_;rintro e w1 ⟨rfl,hb1⟩;have d1:=(hb1.cell (p:=⟨g,o+(m-1),none⟩) hg).trans HC.out;have B1:=hid hb1;clear hb1;obtain⟨t,ht⟩:∃ t,b0G a b=t:=⟨_,rfl⟩;rw[ht]at hord ⊢;have q0:decide (t<0)=false:=by simp;omega
 clear ht hord;go_wp2_with fail;rw[hdI.out];refine (j0d _ _ a d (HA.out.call B1.out) s3 HLA.out).mono ?_;rintro e w2 ⟨⟨gu,ou,rfl,hgu,hAu,lu,su,vu⟩,hb2⟩;have B2:=hid (a0a B1.out hb2);have AU:=hid hAu;have LU:=hid lu;have SU:=hid su;have VU:=hid vu;have hul:=hAu.lt;rw[HL.out]at LU ⊢;clear hAu lu su vu d1;go_wp2_with fail;refine (j0d _ _ b d (HB.out.call B2.out) s3 (by rw[HN.out];omega)).mono ?_;rintro e w3 ⟨⟨gv,ov,rfl,hgv,hAv,lv,sv,vv⟩,hb3⟩;have B3:=hid (a0a B2.out hb3);have AU3:=hid (AU.out.call hb3);have hne:gv≠gu:=by omega
 have LV:=hid lv;have VV:=hid vv;have SV:=hid sv;clear lv vv sv;go_wp2_with fail;rw[← LV.out];refine (d0t _ _ _ ov SV.out (by have:=hAv.row (n:=ov.length) (c:=ov.length) (Nat.le_refl _) (Nat.le_refl _) (by rw[LV.out,HN.out];unfold maxLen;omega);rwa[List.take_of_length_le (Nat.le_refl _)]at this)).mono ?_;rintro e w4 ⟨⟨m',rfl,hm'⟩,rfl⟩;rw[VV.out]at hm';have hmm:m'=m:=by have:=hm'.len.1;rw[ints_length,HS.out]at this;exact this
 subst hmm;have RV:=hid hm';have hvl:=hAv.lt;clear hAv hm' AU;have y1:=hKI.out;have y2:=hmk.out;go_wp2_with fail;clear y1 y2;have hV:=hid (a0q (b*d));have D0:=hid (show DivI (a*d) (b*d) m' (L+1) K ou (List.replicate K 0) from by
  have h1:1000000000 ^ (m'-1)≤b:=a0O.1 (by rw[HN.out];omega);have h2:b*d≤1000000000 ^ m':=Nat.le_of_lt (a0d.1 (by rw[HS.out];exact Nat.le_refl _));have h3:a<1000000000 ^ L:=a0d.1 (by rw[HL.out];exact Nat.le_refl _);have:=DivI.start (U:=a*d) (V:=b*d) (n:=m') h2 SU.out LU.out (by omega) VU.out (m0v LU.out VU.out h3 (by omega) (by omega) h1 s2);rwa[show L+1-m'=K by omega]at this)
 go_loopw [13] (fun jj wr=>∃ (k:Nat) (t:Int) (o Q:List Nat),jj=.int .i64 t∧t=(k:Int)-1∧k≤K∧Hid (DivI (a*d) (b*d) m' (L+1) k o Q)∧Hid (Arr .i64 3 wr gu o)∧Hid (Arr .i64 3 wr w3.heap.size Q)∧Hid (Row wr (.slice (some ⟨gv,0,none⟩) m' ov.length) (b0c .i64 (limbs (b*d))))∧Hid (Below w.heap.size w wr)) (fun jj _=>(intOf jj+1).toNat)
 case atStart=>
  have ha:Below w3.heap.size w3 (w3.alloc (.cells (madeCells #[.int .i64 0] K) 3)):=(Below.refl _ _).alloc (Nat.le_refl _) _;exact⟨K,_,ou,_,rfl,rfl,Nat.le_refl _,D0,AU3.out.call ha,Arr.made w3 .i64 3 K,RV.out.call ha,a0a B3.out ha⟩
 case round=>
  obtain⟨k,t,o2,Q,rfl,ht,hk,hD,hU,hQ,hR,hB⟩:=hrel;have hol:=hid hD.out.lo;have hql:=hid (show Q.length=K from by rw[hD.out.lq];omega);cases k with
  | zero=>
   obtain rfl:t = -1:=by omega
   clear ht;obtain⟨r1,r2,r3⟩:=hD.out.done (by omega);have hfin:=hid (p0M (a:=a) (b:=b) s2 r1 r2);have R3:=hid r3;have hlen:(limbs (val (o2.take m'))).length≤1000000:=by
    rw[r3];have:=a0e (Nat.le_of_lt r2);rw[HS.out]at this;omega
   clear r1 r2 r3;go_wp2_with fail;refine (f0P _ _ (o2.take m') (hD.out.so.take _) (hU.out.row (by rw[hol.out];omega) (by omega) (by unfold maxLen;omega))).mono ?_;rintro e w5 ⟨⟨v5,rfl,hv5⟩,rfl⟩;go_wp2_with fail;refine (l0w _ v5 _ d hv5 s2 s3 hlen).mono ?_;rintro e w6 ⟨⟨v6,rfl,hv6⟩,hb6⟩;have V6:=hid hv6;have B6:=hid hb6;have Q6:=hid (hQ.out.call hb6);clear hv5 hv6 hb6;go_wp2_with fail;refine (f0P _ _ Q hD.out.sq (by have:=Q6.out.row (n:=K) (c:=K) (by rw[hql.out];exact Nat.le_refl _) (Nat.le_refl _) (by unfold maxLen;omega);rwa[List.take_of_length_le (by rw[hql.out];exact Nat.le_refl _)]at this)).mono ?_;rintro e w7 ⟨⟨v7,rfl,hv7⟩,rfl⟩;go_wp2_with fail;go_ret2
   refine⟨⟨v7,v6,rfl,by rw[← hfin.out.1];exact hv7,?_⟩,a0a hB.out B6.out⟩;have:=V6.out;rwa[R3.out,hfin.out.2]at this
  | succ j=>
   obtain rfl:t=(j:Int):=by omega
   clear ht;have hS:=hid (show StepIn o2 (limbs (b*d)) j m' from⟨hm2,by omega,HS.out,by rw[hol.out];omega,by rw[hol.out];omega,hD.out.so,a0l _,j0r (n:=m'-1) (by rw[HS.out];omega),by rw[hV.out];exact hD.out.win (by omega)⟩);obtain⟨z,hz⟩:∃ z,Q[j]?=some z:=⟨_,List.getElem?_eq_getElem (by rw[hql.out];omega)⟩;have hgq:w3.heap.size≠gu:=by omega
   have hgw:w.heap.size≤gu:=Nat.le_trans B1.out.size hgu;have hqw:w.heap.size≤w3.heap.size:=B3.out.size;go_wp2_with fail;rw[show j+m'+1-j=m'+1 by omega];refine (t0O _ gu j _ o2 gv 0 _ (limbs (b*d)) m' hS.out hU.out hR.out hne).mono ?_;rintro e w5 ⟨he,o5,hw5,hA5,hg5⟩;rw[hV.out]at he hw5;have HN5:=hid (hD.out.next (by omega) hw5);obtain⟨qv,hqv⟩:∃ q,val ((o2.drop j).take (m'+1)) / (b*d)=q:=⟨_,rfl⟩;rw[hqv]at he HN5;subst he;have Q5:=hid (hQ.out.gb hg5 hgq);have R5:=hid (hR.out.gb hg5 hne);have B5:=hid (s0k hB.out hB.out.size hg5 hgw);have A5:=hid hA5;have d3:=Q5.out.cell hz;have d4:=Q5.out.free j;clear hw5 hA5 hg5 hqv hz;go_wp2_with fail;go_roundw
   case rel=>
    have hs:Below w5.heap.size w5 w5:=Below.refl _ _;have hset:w5.grownBy (w5.setCell ⟨w3.heap.size,j,none⟩ (.int .i64 (qv:Int))) (some w3.heap.size):=c0T (World.grownBy.refl _ _) _ _;exact⟨j,_,o5,_,rfl,rfl,by omega,HN5,A5.out.gb hset (fun e=>hgq e.symm),Q5.out.set j qv,R5.out.gb hset (by omega),a0B B5.out hqw _⟩
   case measure=>simp[intOf]<;>omega
theorem f0Q (w:World)(v u:Value)(a b:Nat)(ha:IsN .i64 w v a)(hb:IsN .i64 w u b)(h0:0<b)(hla:(limbs a).length≤1000000):
 Calls Tryz.prog 200 #[v,u] w fun e w'=>j0S .i64 (a / b) (a%b) e w'∧Below w.heap.size w w':=by
 by_cases hlt:a<b
 ·exact k0H w v u a b ha hb hlt
 ·by_cases h1:b<1000000000
  ·exact n0c w v u a b ha hb (by omega) h0 h1 hla
  ·refine k0G w v u a b _ ha hb (by omega) rfl ?_ hla;have:1<(limbs b).length:=a0O.2 (by omega);omega
theorem f0R (w:World)(v u:Value)(a b:Nat)(ha:IsN .i64 w v a)(hb:IsN .i64 w u b)(hla:(limbs a).length≤1000000)(hlb:(limbs b).length≤1000000):
 Calls Tryz.prog 199 #[v,u] w fun e w'=>j0T .i64 (Nat.gcd a b) e w'∧Below w.heap.size w w':=by
 have HA:=hid ha;have HB:=hid hb;have LA:=hid hla;have LB:=hid hlb;clear ha hb hla hlb;go_enter Tryz.func199,Tryz.ntmps199;go_wp2_with fail
 go_loopw [0,1,5,6] (fun x y q r wr=>∃ m n:Nat,Hid (IsN .i64 wr x m)∧Hid (IsN .i64 wr y n)∧Hid ((limbs m).length≤1000000)∧Hid ((limbs n).length≤1000000)∧Hid (Nat.gcd m n=Nat.gcd a b)∧Hid (Below w.heap.size w wr))
  (fun x y q r wr=>r0u .i64 wr y)
 case atStart=>exact⟨a,b,HA,HB,LA,LB,rfl,Below.refl _ _⟩
 case round=>
  obtain⟨m,n,hx,hy,hm,hn,hg,hB⟩:=hrel;have hnum:=hid (f0q hy.out);obtain⟨a1,c1,rfl,h1,h1',h1''⟩:=hx.out.openI;obtain⟨a2,c2,rfl,h2,h2',h2''⟩:=hy.out.openI;clear h1'' h2'';by_cases h0:n=0
  ·subst h0;have hl:(limbs 0).length=0:=by rw[limbs_zero];rfl
   rw[hl]at *;clear hl;go_wp2_with fail;go_ret
   exact⟨⟨_,rfl,by rw[← hg.out,Nat.gcd_zero_right];exact hx.out⟩,hB.out⟩
  ·have hpos:0<(limbs n).length:=List.length_pos_iff.2 (fun e=>h0 (b0D.1 e));have q0:decide ((0:Int)<((limbs n).length:Int))=true:=by simp;omega
   go_wp2_with fail;refine (f0Q _ _ _ m n hx.out hy.out (by omega) hm.out).mono ?_;rintro e w1 ⟨⟨v1,v2,rfl,hv1,hv2⟩,hb1⟩;have V2:=hid hv2;have B1:=hid (a0a hB.out hb1);have Y1:=hid (hy.out.call hb1);have hlt:=hid (Nat.mod_lt m (y:=n) (by omega));have hll:=hid (show (limbs (m%n)).length≤1000000 from Nat.le_trans (a0e (Nat.le_of_lt hlt.out)) hn.out);have hgg:=hid (show Nat.gcd n (m%n)=Nat.gcd a b from by rw[← hg.out,Nat.gcd_comm m n,Nat.gcd_rec n m,Nat.gcd_comm]) ;clear hv1 hv2 hb1;go_wp2_with fail;go_roundw
   case rel=>exact⟨n,m%n,Y1,V2,hn,hll,hgg,B1⟩
   case measure=>rw[f0q V2.out,hnum.out];exact hlt.out
open Go.Lib (decDigits nDigits)
theorem o0n (w:World):Calls Tryz.prog 113 #[] w fun e w'=>j0T .i64 1 e w'∧Below w.heap.size w w':=by
 have H1:=hid (u0o w);go_enter Tryz.func113,Tryz.ntmps113;go_wp2_with fail;go_ret
 exact⟨⟨_,rfl,H1.out⟩,(Below.refl _ _).alloc (Nat.le_refl _) _⟩
theorem e0x (w:World)(m:Bool)(v u:Value)(n d:Nat)(hn:IsN .i64 w v n)(hd:IsN .i64 w u d)(h0:0<d)(hln:(limbs n).length≤1000000)(hld:(limbs d).length≤1000000):
 Calls Tryz.prog 131 #[.bool m,v,u] w fun e w'=>n0n .i64 (qmk m n d) e w'∧Below w.heap.size w w':=by
 have HN:=hid hn;have HD:=hid hd;obtain⟨a1,c1,rfl,_⟩:=hn.openI;obtain⟨a2,c2,rfl,_⟩:=hd.openI;clear hn hd;rcases Nat.eq_zero_or_pos n with rfl | hp
 ·have hl:(limbs 0).length=0:=by rw[limbs_zero];rfl
  rw[hl]at HN ⊢;have hq:=hid (l0y m d);rw[hq.out];clear hl;go_enter Tryz.func131,Tryz.ntmps131;go_wp2_with fail;refine (o0n _).mono ?_;rintro e w1 ⟨⟨v1,rfl,hv1⟩,hb1⟩;obtain⟨a3,c3,rfl,_⟩:=hv1.openI;have HV:=hid hv1;have HB:=hid (show Blk w1 w.heap.size #[.bool false,.slice none 0 0,.slice none 0 0] 100 from (Blk.new w _ _).call hb1);have d0:=HB.out.cell 0;have d1:=HB.out.cell 1;have d2:=HB.out.cell 2;have e0:=HB.out.free 0;have e1:=HB.out.free 1;have e2:=HB.out.free 2;have HBB:=hid hb1;clear hb1 hv1;simp at d0 d1 d2;go_wp2_with fail;obtain⟨s1,s2⟩:=c0c HB.out false none a3 0 0 (limbs 1).length c3;have f0:=s2.cell 0;have f1:=s2.cell 1;have f2:=s2.cell 2;simp at f0 f1 f2;refine bodyPost_ret (v:=.agg #[.bool false,.slice none 0 0,.slice a3 (limbs 1).length c3]) (by simp[results,Tryz.results131,go_sem,f0,f1,f2]) rfl ⟨⟨_,rfl,IsQ.zero_ (s1 _ _ _ (IsN.zero _ _)) (s1 _ _ _ HV.out)⟩,?_⟩;exact (((((Below.refl _ _).alloc (Nat.le_refl _) _).trans (HBB.out.mono (by simp))).setCell (Nat.le_refl _) _).setCell (Nat.le_refl _) _).setCell (Nat.le_refl _) _
 ·have hpos:0<(limbs n).length:=List.length_pos_iff.2 (fun e=>by have:=b0D.1 e;omega);have q0:(((limbs n).length:Int)==0)=false:=beq_eq_false_iff_ne.2 (by omega);obtain⟨g,hg⟩:∃ g,Nat.gcd n d=g:=⟨_,rfl⟩;have hgp:0<g:=hg ▸ Nat.gcd_pos_of_pos_left d hp;have HG:=hid hg;have HGP:=hid hgp;have HP:=hid hp;have H0:=hid h0;have HLN:=hid hln;have HLD:=hid hld;clear hg hgp hp h0 hln hld hpos;go_enter Tryz.func131,Tryz.ntmps131;go_wp2_with fail;refine (f0R _ _ _ n d (HN.out.call ((Below.refl _ _).alloc (Nat.le_refl _) _)) (HD.out.call ((Below.refl _ _).alloc (Nat.le_refl _) _)) HLN.out HLD.out).mono ?_;rintro e w1 ⟨⟨v1,rfl,hv1⟩,hb1⟩;rw[HG.out]at hv1;have HB1:=hid (show Blk w1 w.heap.size #[.bool false,.slice none 0 0,.slice none 0 0] 100 from (Blk.new w _ _).call hb1);have B1:=hid (((Below.refl w.heap.size w).alloc (Nat.le_refl _) (.cells #[.bool false,.slice none 0 0,.slice none 0 0] 100)).trans (hb1.mono (by simp)));have N1:=hid (HN.out.call B1.out);have D1:=hid (HD.out.call B1.out);have G1:=hid hv1;clear hb1 hv1;go_wp2_with fail;refine (f0Q _ _ _ n g N1.out G1.out HGP.out HLN.out).mono ?_;rintro e w2 ⟨⟨v2,v3,rfl,hv2,-⟩,hb2⟩;have HB2:=hid (HB1.out.call hb2);have B2:=hid (a0a B1.out hb2);have D2:=hid (D1.out.call hb2);have G2:=hid (G1.out.call hb2);have V2:=hid hv2;clear hb2 hv2;go_wp2_with fail;refine (f0Q _ _ _ d g D2.out G2.out HGP.out HLD.out).mono ?_;rintro e w3 ⟨⟨v4,v5,rfl,hv4,-⟩,hb3⟩;have HB3:=hid (HB2.out.call hb3);have B3:=hid (a0a B2.out hb3);have W2:=hid (V2.out.call hb3);have W4:=hid hv4;clear hb3 hv4;obtain⟨a3,c3,rfl,_⟩:=W2.out.openI;obtain⟨a4,c4,rfl,_⟩:=W4.out.openI;have d0:=HB3.out.cell 0;have d1:=HB3.out.cell 1;have d2:=HB3.out.cell 2;have e0:=HB3.out.free 0;have e1:=HB3.out.free 1;have e2:=HB3.out.free 2;simp at d0 d1 d2;go_wp2_with fail;obtain⟨s1,s2⟩:=c0c HB3.out m a3 a4 (limbs (n / g)).length c3 (limbs (d / g)).length c4;have f0:=s2.cell 0;have f1:=s2.cell 1;have f2:=s2.cell 2;simp at f0 f1 f2;refine bodyPost_ret (v:=.agg #[.bool m,.slice a3 (limbs (n / g)).length c3,.slice a4 (limbs (d / g)).length c4]) (by simp[results,Tryz.results131,go_sem,f0,f1,f2]) rfl ⟨⟨_,rfl,IsQ.mk' HP.out H0.out (HG.out ▸ s1 _ _ _ W2.out) (HG.out ▸ s1 _ _ _ W4.out)⟩,?_⟩;exact ((B3.out.setCell (Nat.le_refl _) _).setCell (Nat.le_refl _) _).setCell (Nat.le_refl _) _
end Go.Proofs.YtlmnpocifldpmaaGreatDoor
namespace Go.Proofs.YtlmnpocifldpmaaGreatDoor
open Go.RowKit
theorem o0q (w:World)(v u:Value)(a b:Nat)(ha:IsN .i64 w v a)(hb:IsN .i64 w u b)(hle:b≤a)(hla:(limbs a).length≤1000000):
 Calls Tryz.prog 151 #[v,u] w fun e w'=>RetFr w.heap.size .i64 (a-b) e w'∧Below w.heap.size w w':=by
 obtain⟨i0,hi,hz0,hz1,hz2⟩:=info_parts h0Y;obtain⟨a1,c1,rfl,h1,h2,h3⟩:=ha.openI;obtain⟨a2,c2,rfl,k1,k2,k3⟩:=hb.openI;have H3:=hid h3;have K3:=hid k3;clear h3 k3 ha hb;have hmn:=a0e hle;obtain⟨n,ea⟩:∃ n,(limbs a).length=n:=⟨_,rfl⟩;obtain⟨m,eb⟩:∃ m,(limbs b).length=m:=⟨_,rfl⟩;rw[ea]at h1 hla hmn ⊢;rw[eb]at k1 hmn ⊢;have HA:=hid ea;have HB:=hid eb;have HL:=hid hle;clear ea eb hle;go_enter Tryz.func151,Tryz.ntmps151;go_wp2_with fail
 go_loopw [5,6,7,8] (fun o cc i nn wr=>∃ (s:List Nat) (c:Nat) (C:Int),i=.int .i64 s.length∧cc=.int .i64 C∧C=(c:Int)∧c≤1∧s.length≤n∧Hid (MinusI a b s c)∧Hid (wr.ownsRow w.heap.size 3 1 o s.length (b0c .i64 s))∧Hid (Below w.heap.size w wr))
  (fun _ _ i _ _=>n-(intOf i).toNat)
 case atStart=>exact⟨[],0,0,rfl,rfl,rfl,by omega,by simp,MinusI.start a b,World.ownsRow_nil _ _ _ _,Below.refl _ _⟩
 case round=>
  obtain⟨s,c,C,rfl,rfl,hC,hc1,hs1,hP,hO,hB⟩:=hrel;obtain⟨ao,co,rfl⟩:=a0p hO.out;by_cases hA:s.length<n
  ·obtain⟨x,hx⟩:∃ x,(limbs a)[s.length]?=some x:=⟨_,List.getElem?_eq_getElem (by rw[HA.out];exact hA)⟩;obtain⟨g,og,rfl,hg,hc⟩:=H3.out _ x hx;have hc':=(hB.out.cell (p:=⟨g,og+s.length,none⟩) hg).trans hc;have hxl:=(a0l a).get hx;have HX:=hid hx;clear hx hc;by_cases hB':s.length<m
   ·obtain⟨y,hy⟩:∃ y,(limbs b)[s.length]?=some y:=⟨_,List.getElem?_eq_getElem (by rw[HB.out];exact hB')⟩;obtain⟨g',og',rfl,hg',hd⟩:=K3.out _ y hy;have hd':=(hB.out.cell (p:=⟨g',og'+s.length,none⟩) hg').trans hd;have hyl:=(a0l b).get hy;have HY:=hid hy;clear hy hd;rcases (show c=0∨c=1 by omega) with rfl | rfl
    ·obtain rfl:C=0:=by omega
     clear hC;by_cases hneg:x<y+0
     ·obtain⟨z,hz0',hz1',hzI⟩:∃ z:Nat,x+1000000000*1=z+0+y∧z<1000000000∧Hid ((↑x - ↑y+1000000000:Int)=(z:Int)):=⟨((↑x - ↑y+1000000000:Int)).toNat,by omega,by omega,by rw[Hid];omega⟩;have HN:=hid (hP.out.next (z:=z) (c':=1) (by rw[a0v HX.out,a0v HY.out];omega) hz1' (by omega));clear hz0' hz1';have q1:decide ((x:Int)-(y:Int)<0)=true:=by simp<;>omega
      clear hneg;go_wp2_with (at_builtin;refine wpList_append_own _ rfl _ _ 89 rfl w.heap.size 3 i0 (.int .i64 0) 1 8 Tryz.underlying89 hi hz0 hz1 hz2 rfl (by decide) _ s.length _ rfl (hO.out.alloc _) ⟨wr.heap.size,0,none⟩ 1 1 [.int .i64 ((↑x - ↑y+1000000000:Int))] rfl rfl (cell_one_new wr (.int .i64 ((↑x - ↑y+1000000000:Int))) 3) (by simp[Value.oneCell']) (by unfold maxLen;omega) (by omega) (by have:=hB.out.size;simp;omega) ?_;intro v' w3 hown3 hgrow3 _;have HO3:=hid hown3;have HG3:=hid hgrow3;clear hown3 hgrow3)
      rw[hzI.out]at HO3;obtain⟨n1,n2⟩:=a0x hO.out hB.out HO3.out HG3.out;have N1:=hid n1;have N2:=hid n2;clear n1 n2 HO3 HG3;obtain⟨a3,k3,rfl⟩:=a0p N1.out;go_wp2_with fail;go_roundw
      case rel=>exact⟨s ++ [z],1,_,by simp,rfl,by simp,by omega,by simp<;>omega,HN,N1,N2⟩
      case measure=>simp[intOf]<;>omega
     ·obtain⟨z,hz0',hz1',hzI⟩:∃ z:Nat,x+1000000000*0=z+0+y∧z<1000000000∧Hid ((↑x - ↑y:Int)=(z:Int)):=⟨((↑x - ↑y:Int)).toNat,by omega,by omega,by rw[Hid];omega⟩;have HN:=hid (hP.out.next (z:=z) (c':=0) (by rw[a0v HX.out,a0v HY.out];omega) hz1' (by omega));clear hz0' hz1';have q1:decide ((x:Int)-(y:Int)<0)=false:=by simp<;>omega
      clear hneg;go_wp2_with (at_builtin;refine wpList_append_own _ rfl _ _ 89 rfl w.heap.size 3 i0 (.int .i64 0) 1 8 Tryz.underlying89 hi hz0 hz1 hz2 rfl (by decide) _ s.length _ rfl (hO.out.alloc _) ⟨wr.heap.size,0,none⟩ 1 1 [.int .i64 ((↑x - ↑y:Int))] rfl rfl (cell_one_new wr (.int .i64 ((↑x - ↑y:Int))) 3) (by simp[Value.oneCell']) (by unfold maxLen;omega) (by omega) (by have:=hB.out.size;simp;omega) ?_;intro v' w3 hown3 hgrow3 _;have HO3:=hid hown3;have HG3:=hid hgrow3;clear hown3 hgrow3)
      rw[hzI.out]at HO3;obtain⟨n1,n2⟩:=a0x hO.out hB.out HO3.out HG3.out;have N1:=hid n1;have N2:=hid n2;clear n1 n2 HO3 HG3;obtain⟨a3,k3,rfl⟩:=a0p N1.out;go_wp2_with fail;go_roundw
      case rel=>exact⟨s ++ [z],0,_,by simp,rfl,by simp,by omega,by simp<;>omega,HN,N1,N2⟩
      case measure=>simp[intOf]<;>omega
    ·obtain rfl:C=1:=by omega
     clear hC;by_cases hneg:x<y+1
     ·obtain⟨z,hz0',hz1',hzI⟩:∃ z:Nat,x+1000000000*1=z+1+y∧z<1000000000∧Hid ((↑x-1 - ↑y+1000000000:Int)=(z:Int)):=⟨((↑x-1 - ↑y+1000000000:Int)).toNat,by omega,by omega,by rw[Hid];omega⟩;have HN:=hid (hP.out.next (z:=z) (c':=1) (by rw[a0v HX.out,a0v HY.out];omega) hz1' (by omega));clear hz0' hz1';have q1:decide ((x:Int)-1-(y:Int)<0)=true:=by simp<;>omega
      clear hneg;go_wp2_with (at_builtin;refine wpList_append_own _ rfl _ _ 89 rfl w.heap.size 3 i0 (.int .i64 0) 1 8 Tryz.underlying89 hi hz0 hz1 hz2 rfl (by decide) _ s.length _ rfl (hO.out.alloc _) ⟨wr.heap.size,0,none⟩ 1 1 [.int .i64 ((↑x-1 - ↑y+1000000000:Int))] rfl rfl (cell_one_new wr (.int .i64 ((↑x-1 - ↑y+1000000000:Int))) 3) (by simp[Value.oneCell']) (by unfold maxLen;omega) (by omega) (by have:=hB.out.size;simp;omega) ?_;intro v' w3 hown3 hgrow3 _;have HO3:=hid hown3;have HG3:=hid hgrow3;clear hown3 hgrow3)
      rw[hzI.out]at HO3;obtain⟨n1,n2⟩:=a0x hO.out hB.out HO3.out HG3.out;have N1:=hid n1;have N2:=hid n2;clear n1 n2 HO3 HG3;obtain⟨a3,k3,rfl⟩:=a0p N1.out;go_wp2_with fail;go_roundw
      case rel=>exact⟨s ++ [z],1,_,by simp,rfl,by simp,by omega,by simp<;>omega,HN,N1,N2⟩
      case measure=>simp[intOf]<;>omega
     ·obtain⟨z,hz0',hz1',hzI⟩:∃ z:Nat,x+1000000000*0=z+1+y∧z<1000000000∧Hid ((↑x-1 - ↑y:Int)=(z:Int)):=⟨((↑x-1 - ↑y:Int)).toNat,by omega,by omega,by rw[Hid];omega⟩;have HN:=hid (hP.out.next (z:=z) (c':=0) (by rw[a0v HX.out,a0v HY.out];omega) hz1' (by omega));clear hz0' hz1';have q1:decide ((x:Int)-1-(y:Int)<0)=false:=by simp<;>omega
      clear hneg;go_wp2_with (at_builtin;refine wpList_append_own _ rfl _ _ 89 rfl w.heap.size 3 i0 (.int .i64 0) 1 8 Tryz.underlying89 hi hz0 hz1 hz2 rfl (by decide) _ s.length _ rfl (hO.out.alloc _) ⟨wr.heap.size,0,none⟩ 1 1 [.int .i64 ((↑x-1 - ↑y:Int))] rfl rfl (cell_one_new wr (.int .i64 ((↑x-1 - ↑y:Int))) 3) (by simp[Value.oneCell']) (by unfold maxLen;omega) (by omega) (by have:=hB.out.size;simp;omega) ?_;intro v' w3 hown3 hgrow3 _;have HO3:=hid hown3;have HG3:=hid hgrow3;clear hown3 hgrow3)
      rw[hzI.out]at HO3;obtain⟨n1,n2⟩:=a0x hO.out hB.out HO3.out HG3.out;have N1:=hid n1;have N2:=hid n2;clear n1 n2 HO3 HG3;obtain⟨a3,k3,rfl⟩:=a0p N1.out;go_wp2_with fail;go_roundw
      case rel=>exact⟨s ++ [z],0,_,by simp,rfl,by simp,by omega,by simp<;>omega,HN,N1,N2⟩
      case measure=>simp[intOf]<;>omega
   ·skip
    rcases (show c=0∨c=1 by omega) with rfl | rfl
    ·obtain rfl:C=0:=by omega
     clear hC;by_cases hneg:x<0+0
     ·omega
     ·obtain⟨z,hz0',hz1',hzI⟩:∃ z:Nat,x+1000000000*0=z+0+0∧z<1000000000∧Hid ((↑x:Int)=(z:Int)):=⟨((↑x:Int)).toNat,by omega,by omega,by rw[Hid];omega⟩;have HN:=hid (hP.out.next (z:=z) (c':=0) (by rw[a0v HX.out,a0G (by rw[HB.out];omega)];omega) hz1' (by omega));clear hz0' hz1';have q1:decide ((x:Int)<0)=false:=by simp<;>omega
      clear hneg;go_wp2_with (at_builtin;refine wpList_append_own _ rfl _ _ 89 rfl w.heap.size 3 i0 (.int .i64 0) 1 8 Tryz.underlying89 hi hz0 hz1 hz2 rfl (by decide) _ s.length _ rfl (hO.out.alloc _) ⟨wr.heap.size,0,none⟩ 1 1 [.int .i64 ((↑x:Int))] rfl rfl (cell_one_new wr (.int .i64 ((↑x:Int))) 3) (by simp[Value.oneCell']) (by unfold maxLen;omega) (by omega) (by have:=hB.out.size;simp;omega) ?_;intro v' w3 hown3 hgrow3 _;have HO3:=hid hown3;have HG3:=hid hgrow3;clear hown3 hgrow3)
      rw[hzI.out]at HO3;obtain⟨n1,n2⟩:=a0x hO.out hB.out HO3.out HG3.out;have N1:=hid n1;have N2:=hid n2;clear n1 n2 HO3 HG3;obtain⟨a3,k3,rfl⟩:=a0p N1.out;go_wp2_with fail;go_roundw
      case rel=>exact⟨s ++ [z],0,_,by simp,rfl,by simp,by omega,by simp<;>omega,HN,N1,N2⟩
      case measure=>simp[intOf]<;>omega
    ·obtain rfl:C=1:=by omega
     clear hC;by_cases hneg:x<0+1
     ·obtain⟨z,hz0',hz1',hzI⟩:∃ z:Nat,x+1000000000*1=z+1+0∧z<1000000000∧Hid ((↑x-1+1000000000:Int)=(z:Int)):=⟨((↑x-1+1000000000:Int)).toNat,by omega,by omega,by rw[Hid];omega⟩;have HN:=hid (hP.out.next (z:=z) (c':=1) (by rw[a0v HX.out,a0G (by rw[HB.out];omega)];omega) hz1' (by omega));clear hz0' hz1';have q1:decide ((x:Int)-1<0)=true:=by simp<;>omega
      clear hneg;go_wp2_with (at_builtin;refine wpList_append_own _ rfl _ _ 89 rfl w.heap.size 3 i0 (.int .i64 0) 1 8 Tryz.underlying89 hi hz0 hz1 hz2 rfl (by decide) _ s.length _ rfl (hO.out.alloc _) ⟨wr.heap.size,0,none⟩ 1 1 [.int .i64 ((↑x-1+1000000000:Int))] rfl rfl (cell_one_new wr (.int .i64 ((↑x-1+1000000000:Int))) 3) (by simp[Value.oneCell']) (by unfold maxLen;omega) (by omega) (by have:=hB.out.size;simp;omega) ?_;intro v' w3 hown3 hgrow3 _;have HO3:=hid hown3;have HG3:=hid hgrow3;clear hown3 hgrow3)
      rw[hzI.out]at HO3;obtain⟨n1,n2⟩:=a0x hO.out hB.out HO3.out HG3.out;have N1:=hid n1;have N2:=hid n2;clear n1 n2 HO3 HG3;obtain⟨a3,k3,rfl⟩:=a0p N1.out;go_wp2_with fail;go_roundw
      case rel=>exact⟨s ++ [z],1,_,by simp,rfl,by simp,by omega,by simp<;>omega,HN,N1,N2⟩
      case measure=>simp[intOf]<;>omega
     ·obtain⟨z,hz0',hz1',hzI⟩:∃ z:Nat,x+1000000000*0=z+1+0∧z<1000000000∧Hid ((↑x-1:Int)=(z:Int)):=⟨((↑x-1:Int)).toNat,by omega,by omega,by rw[Hid];omega⟩;have HN:=hid (hP.out.next (z:=z) (c':=0) (by rw[a0v HX.out,a0G (by rw[HB.out];omega)];omega) hz1' (by omega));clear hz0' hz1';have q1:decide ((x:Int)-1<0)=false:=by simp<;>omega
      clear hneg;go_wp2_with (at_builtin;refine wpList_append_own _ rfl _ _ 89 rfl w.heap.size 3 i0 (.int .i64 0) 1 8 Tryz.underlying89 hi hz0 hz1 hz2 rfl (by decide) _ s.length _ rfl (hO.out.alloc _) ⟨wr.heap.size,0,none⟩ 1 1 [.int .i64 ((↑x-1:Int))] rfl rfl (cell_one_new wr (.int .i64 ((↑x-1:Int))) 3) (by simp[Value.oneCell']) (by unfold maxLen;omega) (by omega) (by have:=hB.out.size;simp;omega) ?_;intro v' w3 hown3 hgrow3 _;have HO3:=hid hown3;have HG3:=hid hgrow3;clear hown3 hgrow3)
      rw[hzI.out]at HO3;obtain⟨n1,n2⟩:=a0x hO.out hB.out HO3.out HG3.out;have N1:=hid n1;have N2:=hid n2;clear n1 n2 HO3 HG3;obtain⟨a3,k3,rfl⟩:=a0p N1.out;go_wp2_with fail;go_roundw
      case rel=>exact⟨s ++ [z],0,_,by simp,rfl,by simp,by omega,by simp<;>omega,HN,N1,N2⟩
      case measure=>simp[intOf]<;>omega
  ·obtain rfl:s.length=n:=by omega
   have hv:=hid (hP.out.done HA.out.symm HL.out);go_wp2_with (go_at_call 109;refine (d0t _ _ _ s hP.out.sm (Row.of_owns hO.out)).mono ?_;rintro e w1 ⟨⟨m1,rfl,hv1⟩,rfl⟩)
   go_ret
   exact⟨⟨_,rfl,by rw[← hv.out];exact hv1,fun g hg=>(hO.out.lt g (by cases ao<;>exact hg)).1⟩,hB.out⟩
theorem l0x (w:World)(v u:Value)(a b:Nat)(ha:IsN .i64 w v a)(hb:IsN .i64 w u b)(hle:b≤a)(hla:(limbs a).length≤1000000):
 Calls Tryz.prog 151 #[v,u] w fun e w'=>j0T .i64 (a-b) e w'∧Below w.heap.size w w':=
 (o0q w v u a b ha hb hle hla).mono fun _ _ h=>⟨h.1.ret,h.2⟩
open Go.Shelf
open Go.Lib (decDigits nDigits)
def ltB (x z:ByteArray):Bool:=Op.bytesLess x.toList z.toList
def x0P (L:List (ByteArray×ByteArray))(key p:ByteArray):List (ByteArray×ByteArray):=
 if p=⟨#[48]⟩ then L else L.takeWhile (fun x=>ltB x.1 key)++(key,p)::L.dropWhile (fun x=>ltB x.1 key)
theorem o0Y {x z:ByteArray}:ltB x z=true ↔ ¬ z.data.toList≤x.data.toList:=by
 unfold ltB;rw[bytesLess_eq,Lib.toList_data,Lib.toList_data,decide_eq_true_eq];exact List.not_le.symm
theorem e0L {key:ByteArray}:∀ {L:List (ByteArray×ByteArray)},L.Pairwise (fun p q=>leB (b0p p) (b0p q)=true)→∀ x∈L.dropWhile (fun x=>ltB x.1 key),leB key.data.toList (b0p x)=true:=by
 intro L
 induction L with
 | nil=>intro _ x hx;simp at hx
 | cons a r ih=>
  intro h x hx;obtain⟨h1,h2⟩:=List.pairwise_cons.1 h;by_cases ha:ltB a.1 key=true
  ·rw[List.dropWhile_cons,if_pos ha]at hx;exact ih h2 x hx
  ·rw[List.dropWhile_cons,if_neg ha]at hx;have hle:leB key.data.toList (b0p a)=true:=by
    have:=mt o0Y.2 ha;unfold leB;rw[decide_eq_true_eq];exact Decidable.not_not.1 this
   rcases List.mem_cons.1 hx with rfl | hx
   ·exact hle
   ·exact g0c _ _ _ hle (h1 x hx)
theorem w0g {α : Type}{f : α→Bool}{x : α}:∀ {L:List α},x∈L.takeWhile f→f x=true:=by
 intro L
 induction L with
 | nil=>intro h;simp at h
 | cons a r ih=>
  intro h;by_cases ha:f a=true
  ·rw[List.takeWhile_cons,if_pos ha]at h;rcases List.mem_cons.1 h with rfl | h
   ·exact ha
   ·exact ih h
  ·rw[List.takeWhile_cons,if_neg ha]at h;simp at h
theorem v0V {L:List (ByteArray×ByteArray)}:L.Pairwise (fun x y=>x.1≠y.1)→∀ x∈L,∀ y∈L,x.1=y.1→x=y:=by
 induction L with
 | nil=>intro _ x hx;simp at hx
 | cons a r ih=>
  intro h x hx y hy e;obtain⟨h1,h2⟩:=List.pairwise_cons.1 h;rcases List.mem_cons.1 hx with e1 | hx'<;>rcases List.mem_cons.1 hy with e2 | hy'
  ·rw[e1,e2]
  ·rw[e1]at e;exact absurd e (h1 y hy')
  ·rw[e2]at e;exact absurd e.symm (h1 x hx')
  ·exact ih h2 x hx' y hy' e
theorem h0n {key:ByteArray}{L:List (ByteArray×ByteArray)}:∀ x∈L.takeWhile (fun x=>ltB x.1 key),leB (b0p x) key.data.toList=true:=fun x hx=>by
 have h:=w0g hx;have:=o0Y.1 h;unfold leB;rw[decide_eq_true_eq];rcases List.le_total (b0p x) key.data.toList with h' | h'
 ·exact h'
 ·exact absurd h' this
theorem q0l {L:List (ByteArray×ByteArray)}{key p:ByteArray}(hp:p≠⟨#[48]⟩)(hk:∀ x∈L,x.1≠key)(hn:L.Pairwise (fun x y=>x.1≠y.1)):x0P (a0D L) key p=a0D (L ++ [(key,p)]):=by
 rw[x0P,if_neg hp];have hs:=c0j L;have hperm:((a0D L).takeWhile (fun x=>ltB x.1 key)++(key,p)::(a0D L).dropWhile (fun x=>ltB x.1 key)).Perm (a0D (L ++ [(key,p)])):=by
  refine List.Perm.trans List.perm_middle ?_;rw[List.takeWhile_append_dropWhile];refine List.Perm.trans ?_ (List.mergeSort_perm _ _).symm;exact (List.Perm.cons _ (List.mergeSort_perm _ _)).trans (List.perm_append_singleton _ _).symm
 have hinj:∀ x∈L ++ [(key,p)],∀ y∈L ++ [(key,p)],x.1=y.1→x=y:=by
  have hpw:(L ++ [(key,p)]).Pairwise (fun x y=>x.1≠y.1):=by
   rw[List.pairwise_append];exact⟨hn,by simp,fun a ha b hb=>by simp at hb;subst hb;exact hk a ha⟩
  exact v0V hpw
 refine List.Perm.eq_of_pairwise (le:=fun p q=>leB (b0p p) (b0p q)=true) ?_ ?_ (c0j _) hperm
 ·intro a b ha hb h1 h2;have ha':a∈L ++ [(key,p)]:=b0x.1 (hperm.mem_iff.1 ha);have hb':b∈L ++ [(key,p)]:=b0x.1 hb;refine hinj a ha' b hb' ?_;simp only[leB,decide_eq_true_eq]at h1 h2;exact a0Y (List.le_antisymm h1 h2)
 ·rw[List.pairwise_append];refine⟨hs.sublist (List.takeWhile_sublist _),?_,fun a ha b hb=>?_⟩
  ·rw[List.pairwise_cons];exact⟨fun x hx=>e0L hs x hx,hs.sublist (List.dropWhile_sublist _)⟩
  ·have h1:=h0n a ha;rcases List.mem_cons.1 hb with rfl | hb
   ·exact h1
   ·exact g0c _ _ _ h1 (e0L hs b hb)
end Go.Proofs.YtlmnpocifldpmaaGreatDoor
namespace Go.Proofs.YtlmnpocifldpmaaGreatDoor
open Go.RowKit
open Go.Lib (decDigits nDigits)
structure Few (ws:List Nat):Prop where
 len:ws.length≤64
 dig:∀ x∈ws,nDigits x≤300
 pos:0<ws.sum
section
variable {ws : List Nat} {m : Nat} (h : Few ws) (hm : m ≤ 256)
include h
include hm
omit hm
end
open Go.Shelf
theorem v0B {a b:Nat}(hb:b≠0)(h1:nDigits a≤4000)(h2:nDigits b≤4000)(ha:a≠0):shB a b≠⟨#[48]⟩:=fun e=>by
 rw[← h0s b,e0Z hb h1 h2,e0Z hb (by rw[b0L];omega) h2]at e;have e':=congrArg vQ e;rw[e0W,e0W]at e';have h3:=(Rat.mkRat_eq_iff hb hb).1 e';have h4:((a*b:Nat):Int)=0:=by rw[Int.natCast_mul,h3];simp
 have hp:0<a*b:=Nat.mul_pos (by omega) (by omega);omega
end Go.Proofs.YtlmnpocifldpmaaGreatDoor
namespace Go.Proofs.YtlmnpocifldpmaaGreatDoor
open Go.RowKit
open Go.Lib (decDigits nDigits)
section
variable {g : Int → Nat} {n : Nat} (hg : ∀ v : Int, v < 0 → g v = 0) (hz : zS n g ≤ 2 ^ n)
include hg hz
omit hg hz in
omit hg hz in
end
def s0J (p:ByteArray×ByteArray):Bool:=decide (p.2≠⟨#[48]⟩)
theorem n0b {x m:Nat}(hx:x≤2 ^ m)(h:m≤1000):dyB x m=⟨#[48]⟩↔x=0:=
 ⟨fun e=>Classical.byContradiction fun h0=>v0B (c0S m) (n0a hx h) (n0a (Nat.le_refl _) h) h0 e,fun e=>e ▸ i0e m⟩
end Go.Proofs.YtlmnpocifldpmaaGreatDoor
