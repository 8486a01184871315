/- Texts that the proof rests on, merged: Sh5, AtW, Pc0, Cv1, Tot, Cv2, G5, Coin2, Coins, Ser, Cv3, Cv6, Cv7, Sy3, R2da, Iz, Iw, Rf2, Rqa, Rf3, Ap3, R2t, Rf4, Rqb. -/
import Derived.Test.YtlimaehdmcnjaaaGreatDoorMg7
import Derived.Shelf.Strconv.Atoi
import Derived.Ground.NamesProg
import Derived.Test.YtlimaehdmcnjaaaGreatDoorProg
import Derived.Lib.SmallJoins
import Derived.Sort.KeysCollected
import Derived.Maps.StringElems
import Derived.Lib.ItoaMem
import Derived.Deep.AppendLies
import Derived.Deep.DeepCutAuto
import Derived.Sort.Walk0
import Derived.WalkLawsBesides
set_option linter.unusedVariables false
set_option linter.unusedSimpArgs false
set_option linter.unusedSectionVars false
set_option maxRecDepth 100000
set_option maxHeartbeats 8000000
namespace Go.Proofs
open Go.Shelf
def Tryz.lays172_ren:Go.Shelf.Ren:=⟨fun | 172=>66 | 244=>115 | 245=>116 | 247=>156 | 279=>157 | 280=>158 | 281=>159 | 282=>160 | 287=>181 | 316=>182 | 171=>184 | 205=>183 | 321=>202 | 322=>203 | 243=>204 | 246=>219 | 283=>187 | 284=>188 | 285=>189 | 286=>190 | 129=>142 | 317=>206 | 318=>207 | 319=>208 | 320=>209 | 337=>220 | 338=>221 | n=>n,fun | 9=>9 | 3=>3 | 75=>89 | 76=>90 | 4=>4 | 5=>5 | 167=>176 | 37=>136 | 0=>0 | 85=>177 | 2=>2 | 168=>179 | 53=>122 | 175=>190 | 46=>118 | 210=>205 | 127=>185 | 145=>229 | 143=>227 | 21=>21 | 171=>210 | 173=>212 | 212=>232 | 51=>161 | 20=>20 | 213=>233 | 232=>243 | 233=>244 | 80=>94 | n=>n,fun | 15=>0 | 16=>1 | 17=>2 | 18=>4 | 19=>5 | n=>n⟩
theorem Tryz.lays172:Go.Proofs.Lays.n172 Tryz.prog Tryz.lays172_ren:={
 mixed:=by kernel_rfl
 f129:=Tryz.func142.trans (congrArg some (by kernel_rfl))
 f171:=Tryz.func184.trans (congrArg some (by kernel_rfl))
 f172:=Tryz.func66.trans (congrArg some (by kernel_rfl))
 f205:=Tryz.func183.trans (congrArg some (by kernel_rfl))
 f243:=Tryz.func204.trans (congrArg some (by kernel_rfl))
 f244:=Tryz.func115.trans (congrArg some (by kernel_rfl))
 f245:=Tryz.func116.trans (congrArg some (by kernel_rfl))
 f246:=Tryz.func219.trans (congrArg some (by kernel_rfl))
 f247:=Tryz.func156.trans (congrArg some (by kernel_rfl))
 f279:=Tryz.func157.trans (congrArg some (by kernel_rfl))
 f280:=Tryz.func158.trans (congrArg some (by kernel_rfl))
 f281:=Tryz.func159.trans (congrArg some (by kernel_rfl))
 f282:=Tryz.func160.trans (congrArg some (by kernel_rfl))
 f283:=Tryz.func187.trans (congrArg some (by kernel_rfl))
 f284:=Tryz.func188.trans (congrArg some (by kernel_rfl))
 f285:=Tryz.func189.trans (congrArg some (by kernel_rfl))
 f286:=Tryz.func190.trans (congrArg some (by kernel_rfl))
 f287:=Tryz.func181.trans (congrArg some (by kernel_rfl))
 f316:=Tryz.func182.trans (congrArg some (by kernel_rfl))
 f317:=Tryz.func206.trans (congrArg some (by kernel_rfl))
 f318:=Tryz.func207.trans (congrArg some (by kernel_rfl))
 f319:=Tryz.func208.trans (congrArg some (by kernel_rfl))
 f320:=Tryz.func209.trans (congrArg some (by kernel_rfl))
 f321:=Tryz.func202.trans (congrArg some (by kernel_rfl))
 f322:=Tryz.func203.trans (congrArg some (by kernel_rfl))
 f337:=Tryz.func220.trans (congrArg some (by kernel_rfl))
 f338:=Tryz.func221.trans (congrArg some (by kernel_rfl))
 t0:=Tryz.underlying0
 a0:=Tryz.isAgg0
 z0:=Tryz.sizeOf0
 v0:=Tryz.zeroValue0
 t2:=Tryz.underlying2
 a2:=Tryz.isAgg2
 z2:=Tryz.sizeOf2
 v2:=Tryz.zeroValue2
 t3:=Tryz.underlying3
 a3:=Tryz.isAgg3
 z3:=Tryz.sizeOf3
 v3:=Tryz.zeroValue3
 t4:=Tryz.underlying4
 a4:=Tryz.isAgg4
 z4:=Tryz.sizeOf4
 v4:=Tryz.zeroValue4
 t5:=Tryz.underlying5
 a5:=Tryz.isAgg5
 z5:=Tryz.sizeOf5
 v5:=Tryz.zeroValue5
 t9:=Tryz.underlying9
 a9:=Tryz.isAgg9
 z9:=Tryz.sizeOf9
 v9:=Tryz.zeroValue9
 t20:=Tryz.underlying20
 a20:=Tryz.isAgg20
 z20:=Tryz.sizeOf20
 v20:=Tryz.zeroValue20
 t21:=Tryz.underlying21
 a21:=Tryz.isAgg21
 z21:=Tryz.sizeOf21
 v21:=Tryz.zeroValue21
 t37:=Tryz.underlying136
 a37:=Tryz.isAgg136
 z37:=Tryz.sizeOf136
 v37:=Tryz.zeroValue136
 t46:=Tryz.underlying118
 a46:=Tryz.isAgg118
 z46:=Tryz.sizeOf118
 v46:=Tryz.zeroValue118
 t51:=Tryz.underlying161
 a51:=Tryz.isAgg161
 z51:=Tryz.sizeOf161
 v51:=Tryz.zeroValue161
 t53:=Tryz.underlying122
 a53:=Tryz.isAgg122
 z53:=Tryz.sizeOf122
 v53:=Tryz.zeroValue122
 t75:=Tryz.underlying89
 a75:=Tryz.isAgg89
 z75:=Tryz.sizeOf89
 v75:=Tryz.zeroValue89
 t76:=Tryz.underlying90
 a76:=Tryz.isAgg90
 z76:=Tryz.sizeOf90
 v76:=Tryz.zeroValue90
 t85:=Tryz.underlying177
 a85:=Tryz.isAgg177
 z85:=Tryz.sizeOf177
 v85:=Tryz.zeroValue177
 t127:=Tryz.underlying185
 a127:=Tryz.isAgg185
 z127:=Tryz.sizeOf185
 v127:=Tryz.zeroValue185
 t143:=Tryz.underlying227
 a143:=Tryz.isAgg227
 z143:=Tryz.sizeOf227
 v143:=Tryz.zeroValue227
 t145:=Tryz.underlying229
 a145:=Tryz.isAgg229
 z145:=Tryz.sizeOf229
 v145:=Tryz.zeroValue229
 t167:=Tryz.underlying176
 a167:=Tryz.isAgg176
 z167:=Tryz.sizeOf176
 v167:=Tryz.zeroValue176
 t168:=Tryz.underlying179
 a168:=Tryz.isAgg179
 z168:=Tryz.sizeOf179
 v168:=Tryz.zeroValue179
 t171:=Tryz.underlying210
 a171:=Tryz.isAgg210
 z171:=Tryz.sizeOf210
 v171:=Tryz.zeroValue210
 t173:=Tryz.underlying212
 a173:=Tryz.isAgg212
 z173:=Tryz.sizeOf212
 v173:=Tryz.zeroValue212
 t175:=Tryz.underlying190
 a175:=Tryz.isAgg190
 z175:=Tryz.sizeOf190
 v175:=Tryz.zeroValue190
 t210:=Tryz.underlying205
 a210:=Tryz.isAgg205
 z210:=Tryz.sizeOf205
 v210:=Tryz.zeroValue205
 t212:=Tryz.underlying232
 a212:=Tryz.isAgg232
 z212:=Tryz.sizeOf232
 v212:=Tryz.zeroValue232
 t213:=Tryz.underlying233
 a213:=Tryz.isAgg233
 z213:=Tryz.sizeOf233
 t232:=Tryz.underlying243
 a232:=Tryz.isAgg243
 z232:=Tryz.sizeOf243
 v232:=Tryz.zeroValue243
 t233:=Tryz.underlying244
 a233:=Tryz.isAgg244
 z233:=Tryz.sizeOf244
 v233:=Tryz.zeroValue244
 g15:=by kernel_rfl
 g16:=by kernel_rfl
 g17:=by kernel_rfl
 g18:=by kernel_rfl
 g19:=by kernel_rfl }
theorem Tryz.strconv_Atoi (s:ByteArray)(n:Int)(hl:s.size≤18)(h:Lib.atoi s.data.toList=some n)(w:World):
 Calls Tryz.prog 66 #[.string s] w fun e w'=>e=.returned (.tuple #[.int .i64 n,.nilIface])∧∃ t,w'=Lib.bytesWorld w 5 t:=Any.strconv_Atoi Tryz.lays172 s n hl h w
end Go.Proofs
namespace Go.Proofs.YtlimaehdmcnjaaaGreatDoor
open Go.RowKit
open Go.Shelf
open Go.Lib (decDigits nDigits)
theorem f0w (n:Nat):Lib.decNat (decDigits n)=some n:=by
 have hd:=b0g n;have hne:decDigits n ≠ []:=by
  intro e;have:=Lib.decDigits_length n;rw[e]at this;have:=l0e n;simp at *;omega
 unfold Lib.decNat;rw[if_neg (by simpa using hne),j0T hd,b0G,Nat.mul_zero,Nat.zero_add]
theorem j0f (n:Nat):Lib.atoi (decDigits n)=some (n:Int):=by
 have hd:=b0g n;have hv:=f0w n;cases h:decDigits n with
 | nil=>
  exfalso
  have:=Lib.decDigits_length n;rw[h]at this;have:=l0e n;simp at *;omega
 | cons b r=>
  have hb:=a0E.1 (hd b (by rw[h];exact List.mem_cons_self ..));unfold Lib.atoi;have n1:(b==45)=false:=by rw[beq_eq_false_iff_ne];rintro rfl;revert hb;decide
  have n2:(b==43)=false:=by rw[beq_eq_false_iff_ne];rintro rfl;revert hb;decide
  simp only[n1,n2,Bool.false_eq_true,if_false];rw[← h,hv];rfl
theorem e0h (q:Rat):(txQ (flQ q)).data.toList=(if q.floor<0 then [45] else [])++decDigits q.floor.natAbs:=by
 unfold txQ flQ;rw[b0w,Rat.num_intCast,Rat.den_intCast,if_pos rfl,List.append_nil];simp only[decide_eq_true_eq]
theorem q0o (q:Rat):Lib.atoi (txQ (flQ q)).data.toList=some q.floor:=by
 rw[e0h];by_cases h:q.floor<0
 ·rw[if_pos h];rw[List.singleton_append];unfold Lib.atoi;have e:((45:UInt8)==45)=true:=by decide
  simp only[e,if_true,f0w];show some (-(q.floor.natAbs:Int))=some q.floor
  congr 1;omega
 ·rw[if_neg h,List.nil_append,j0f]
  congr 1;omega
theorem e0g {q:Rat}(h:q.floor.natAbs<10 ^ 13):(txQ (flQ q)).size≤18:=by
 have hd:=a0q (n:=q.floor.natAbs) (k:=13) (by omega) h;rw[← b0k,e0h,List.length_append,Lib.decDigits_length]
 split
 ·rw[List.length_singleton];omega
 ·rw[List.length_nil];omega
theorem q0n (w:World)(q:Rat)(h:q.floor.natAbs<10 ^ 13):
 Calls Tryz.prog 66 #[.string (txQ (flQ q))] w fun e w'=>e=.returned (.tuple #[.int .i64 q.floor,.nilIface])∧Below w.heap.size w w':=by
 refine (Tryz.strconv_Atoi (txQ (flQ q)) q.floor (e0g h) (q0o q) w).mono ?_;rintro e w' ⟨rfl,t,rfl⟩;exact⟨rfl,Go.Joins.below_bytesWorld w.heap.size w 5 t (Nat.le_refl _)⟩
theorem q0m (w:World)(n:Nat)(h:n<10 ^ 13):
 Calls Tryz.prog 66 #[.string ⟨(decDigits n).toArray⟩] w fun e w'=>e=.returned (.tuple #[.int .i64 (n:Nat),.nilIface])∧Below w.heap.size w w':=by
 have hd:=a0q (n:=n) (k:=13) (by omega) h;have hl:(⟨(decDigits n).toArray⟩:ByteArray).data.toList=decDigits n:=by simp
 refine (Tryz.strconv_Atoi ⟨(decDigits n).toArray⟩ n (by rw[← b0k,hl,Lib.decDigits_length];omega) (by rw[hl];exact j0f n) w).mono ?_;rintro e w' ⟨rfl,t,rfl⟩;exact⟨rfl,Go.Joins.below_bytesWorld w.heap.size w 5 t (Nat.le_refl _)⟩
theorem d0C {q:Rat}(h:¬ (b0O<q∨q < -b0O)):q.floor.natAbs<10 ^ 13:=by
 have h1:q≤((1000000000000:Int):Rat):=by
  have:b0O=((1000000000000:Int):Rat):=rfl
  grind
 have h2:((-1000000000000:Int):Rat)≤q:=by
  have:b0O=((1000000000000:Int):Rat):=rfl;have e:((-1000000000000:Int):Rat) = -((1000000000000:Int):Rat):=by rw[← Rat.intCast_neg]
  grind
 have h3:=Rat.floor_monotone h1;have h4:=Rat.floor_monotone h2;rw[Rat.floor_intCast]at h3 h4;omega
theorem g0J {q:Rat}(h:q.floor.natAbs<10 ^ 13):¬ ovQ (flQ q):=by
 have hd:=a0q (n:=q.floor.natAbs) (k:=13) (by omega) h;unfold ovQ flQ;rw[Rat.num_intCast,Rat.den_intCast];have h1:=a0q (n:=1) (k:=1) (by omega) (by omega);omega
theorem i0P {s:ByteArray}(hs:qE s=0)(h:(vQ s).floor.natAbs<10 ^ 13):j0N s=txQ (flQ (vQ s))∧p0Q s=0:=by
 have hn:=g0J h;unfold j0N p0Q;refine⟨?_,?_⟩
 ·rw[wB,if_pos hs,e0s hn]
 ·rw[wE,if_pos hs,g0I hn]
theorem h0G {q:Rat}(h:q.floor.natAbs<10 ^ 13):qE (txQ (flQ q))=0∧vQ (txQ (flQ q))=flQ q:=⟨k0Q (g0J h),k0j _⟩
end Go.Proofs.YtlimaehdmcnjaaaGreatDoor
namespace Go.Proofs.YtlimaehdmcnjaaaGreatDoor
open Go.RowKit
def m0J (c:Nat→Nat):Nat→Nat
 | 0=>0
 | i+1=>m0J c i+c i
end Go.Proofs.YtlimaehdmcnjaaaGreatDoor
namespace Go.Proofs.YtlimaehdmcnjaaaGreatDoor
def cvo (f g:Nat→Nat)(n:Nat):Nat:=m0J (fun s=>f s*g (n-s)) (n+1)
def chi (c:Nat→Bool)(j:Nat):Nat:=if c j=true then 1 else 0
def dlt (j:Nat):Nat:=if j=0 then 1 else 0
open Go.RowKit
def sdx (N D:Nat):Nat→Nat×Bool
 | 0=>(N,decide (N≠0))
 | j+1=>if (sdx N D j).2=true then (if D≤2*(sdx N D j).1 then (2*(sdx N D j).1-D,decide (2*(sdx N D j).1≠D)) else (2*(sdx N D j).1,true)) else sdx N D j
def s0t (N D:Nat):Nat→Bool
 | 0=>false
 | j+1=>(sdx N D j).2 && decide (D≤2*(sdx N D j).1)
def r0Q (N D:Nat):Nat→Bool
 | 0=>decide (N=0)
 | j+1=>(sdx N D j).2 && decide (2*(sdx N D j).1≤D)
def cw:Nat→(List UInt8→Bool)→Nat
 | 0,P=>if P []=true then 1 else 0
 | n+1,P=>cw n (fun l=>P (48::l))+cw n (fun l=>P (49::l))
open Go.Shelf
def pD (s:ByteArray):ByteArray:=if qE s=0 then qD s else ⟨#[]⟩
end Go.Proofs.YtlimaehdmcnjaaaGreatDoor
namespace Go.Proofs.YtlimaehdmcnjaaaGreatDoor
open Go.RowKit
open Go.Lib (decDigits nDigits)
def q0G (N D:Nat)(l:List UInt8)(K T u:Nat):Bool×Nat×Nat:=let x:=s0q N D K T (l.drop u);(x.1,x.2.1,x.2.2+u)
def m0k (N D:Nat)(l:List UInt8)(p:Nat):Bool×Nat×Nat:=q0G N D (l.drop p) 0 1 0
def ser (N D:Nat)(l:List UInt8):Nat→Nat→Nat→List Nat→Nat→Option (List Nat×Nat)
 | 0,_,_,_,_=>none
 | f+1,m,p,vs,n=>
  if (m0k N D l p).1=false then none
  else if (m0k N D l p).2.1=1 then ser N D l f m (p+(m0k N D l p).2.2) vs (n+1)
  else if m≤1 then some (vs ++ [n],p+(m0k N D l p).2.2)
  else ser N D l f (m-1) (p+(m0k N D l p).2.2) (vs ++ [n]) 0
def sr (N D:Nat)(l:List UInt8)(m p:Nat)(vs:List Nat)(n:Nat):Option (List Nat×Nat):=ser N D l (l.length-p+m) m p vs n
def s1 (N D:Nat)(l:List UInt8)(p n:Nat):Option (Nat×Nat):=match sr N D l 1 p [] n with | some (x::_,at')=>some (x,at') | _=>none
end Go.Proofs.YtlimaehdmcnjaaaGreatDoor
namespace Go.Proofs.YtlimaehdmcnjaaaGreatDoor
open Go.RowKit
def opn (N D:Nat):Nat→Nat→Nat
 | 0=>dlt
 | i+1=>cvo (chi (s0t N D)) (opn N D i)
def edn (N D i:Nat):Nat→Nat:=cvo (chi (r0Q N D)) (opn N D i)
def c1 (N D n i s:Nat)(v:Int):Nat:=m0J (fun i'=>if (i':Int)=v then m0J (fun s'=>edn N D i' s'*2 ^ (n-s')) (n+1) else 0) i+(if (i:Int)=v then m0J (fun s'=>edn N D i s'*2 ^ (n-s')) s else 0)
def p2 (N D n i s k u:Nat)(v:Int):Nat:=if (i:Int)-(k:Int)=v then m0J (fun u'=>edn N D i s*edn N D k u'*2 ^ (n-s-u')) u else 0
def q2 (N D n i s k:Nat)(v:Int):Nat:=m0J (fun k'=>p2 N D n i s k' (n-s+1) v) k
def r2 (N D n i s:Nat)(v:Int):Nat:=m0J (fun s'=>q2 N D n i s' (n+1) v) s
def t2 (N D n i:Nat)(v:Int):Nat:=m0J (fun i'=>r2 N D n i' (n+1) v) i
def c2 (N D n i s k u:Nat)(v:Int):Nat:=t2 N D n i v+r2 N D n i s v+q2 N D n i s k v+p2 N D n i s k u v
open Go.Lib (decDigits nDigits)
def zB (v:Int):ByteArray:=⟨(Lib.itoa v).toArray⟩
theorem k0c (v:Int):(zB v).data.toList=Lib.itoa v:=by simp[zB]
theorem q0x (n:Nat):zB (n:Int)=b0h n:=by
 unfold zB b0h;rw[Lib.itoa_nonneg]
theorem q0v (z:Int):zB z=txQ ((z:Int):Rat):=by
 have h:=e0h ((z:Int):Rat);have e:flQ ((z:Int):Rat)=((z:Int):Rat):=by unfold flQ;rw[Rat.floor_intCast]
 rw[e,Rat.floor_intCast]at h;apply b0b
 rw[h,k0c];by_cases hz:z<0
 ·obtain⟨m,rfl⟩:∃ m:Nat,z = -(m:Int):=⟨z.natAbs,by omega⟩;rw[if_pos hz,Lib.itoa_neg m (by omega),Int.natAbs_neg,Int.natAbs_natCast];rfl
 ·obtain⟨n,rfl⟩:∃ n:Nat,z=n:=⟨z.toNat,by omega⟩;rw[if_neg hz,Lib.itoa_nonneg,List.nil_append,Int.natAbs_natCast]
theorem r0R {z:Int}(h:z.natAbs<10 ^ 20):Tx (zB z) ((z:Int):Rat):=by
 refine⟨q0v z,?_⟩;have hd:=a0q (n:=z.natAbs) (k:=20) (by omega) h;unfold ovQ;rw[Rat.num_intCast,Rat.den_intCast];have h1:=a0q (n:=1) (k:=1) (by omega) (by omega);omega
theorem Dn.fpt {D B:Nat}{q:Rat}(h:Dn D B q):Dn D 1 (Go.Proofs.YtlimaehdmcnjaaaGreatDoor.fpt q):=by
 obtain⟨z,h1,h2⟩:=h.ex;have n1:=l0G q;have n2:=o0r q;have pD:(0:Rat)<((D:Nat):Rat):=by
  have:=Rat.natCast_lt_natCast.2 h.1;simpa using this
 have e:Go.Proofs.YtlimaehdmcnjaaaGreatDoor.fpt q*((D:Nat):Rat)=((z-q.floor*(D:Int):Int):Rat):=by
  rw[Rat.intCast_sub,Rat.intCast_mul,← h1,Rat.intCast_natCast];unfold Go.Proofs.YtlimaehdmcnjaaaGreatDoor.fpt
  grind
 refine⟨h.1,z-q.floor*(D:Int),e,?_⟩;have k1:0≤z-q.floor*(D:Int):=by
  have:=Rat.mul_nonneg n1 (Rat.le_of_lt pD);rw[e]at this;exact Rat.intCast_nonneg.1 this
 have k2:z-q.floor*(D:Int)≤(D:Int):=by
  have h3:Go.Proofs.YtlimaehdmcnjaaaGreatDoor.fpt q*((D:Nat):Rat)≤1*((D:Nat):Rat):=Rat.mul_le_mul_of_nonneg_right (Rat.le_of_lt n2) (Rat.le_of_lt pD);rw[e,Rat.one_mul,← Rat.intCast_natCast]at h3;exact Rat.intCast_le_intCast.1 h3
 obtain⟨x,hx⟩:∃ x,z-q.floor*(D:Int)=x:=⟨_,rfl⟩;rw[hx]at k1 k2 ⊢;omega
theorem Dn.int {D B:Nat}{z:Int}(hD:0<D)(hz:z.natAbs≤B):Dn D B ((z:Int):Rat):=
 ⟨hD,z*(D:Int),by rw[Rat.intCast_mul,Rat.intCast_natCast],by rw[Int.natAbs_mul,Int.natAbs_natCast];exact Nat.mul_le_mul_right _ hz⟩
end Go.Proofs.YtlimaehdmcnjaaaGreatDoor
namespace Go.Proofs.YtlimaehdmcnjaaaGreatDoor
open Go.RowKit
theorem n0a (w:World)(n:Nat)(h:n≤9223372036854775807):Calls Tryz.prog 74 #[.int .i64 n] w fun e w'=>e=.returned (m0E n)∧w=w':=by
 go_enter Tryz.func74,Tryz.ntmps74;go_wp2_with fail;refine (f0i _ n h).mono ?_;rintro e w1 ⟨rfl,rfl⟩;go_wp2_with fail;go_ret
 exact⟨rfl,rfl⟩
open Go.Lib (decDigits nDigits)
theorem q0w (m:Nat):(⟨#[45]⟩:ByteArray)++b0h (m+1)=zB (-((m:Int)+1)):=by
 apply b0b
 rw[ByteArray.data_append,Array.toList_append,a0D,k0c,show -((m:Int)+1) = -((m+1:Nat):Int) by omega,Lib.itoa_neg _ (by omega)]
 rfl
theorem i0D {n:Nat}(h:n≤9223372036854775807):nDigits n≤9000:=Nat.le_trans (a0q (k:=19) (by omega) (by omega)) (by omega)
theorem h0O {n:Nat}(h:n≤9223372036854775807):(limbs n).length≤1000000:=Nat.le_trans (c0j (K:=3) (Nat.le_trans (a0q (k:=19) (by omega) (by omega)) (by omega))) (by omega)
open Go.Shelf
theorem j0s (w:World)(m:Nat)(h:m≤1000000000000000000):Calls Tryz.prog 24 #[.int .i64 (-((m:Int)+1))] w fun e w'=>e=.returned (.string (zB (-((m:Int)+1))))∧Below w.heap.size w w':=by
 have q0:decide ((0:Int) ≤ -((m:Int)+1))=false:=by simp<;>omega
 have q1:IntKind.i64.wrap (-((m:Int)+1)+1) = -(m:Int):=by rw[IntWalk.i64_in _ ⟨by omega,by omega⟩];omega
 have q2:IntKind.i64.wrap (-(-(m:Int)))=(m:Int):=by rw[IntWalk.i64_in _ ⟨by omega,by omega⟩];omega
 have q3:IntKind.i64.wrap (-(-((m:Int)+1)+1))=(m:Int):=by rw[IntWalk.i64_in _ ⟨by omega,by omega⟩];omega
 have q4:IntKind.i64.wrap (m:Int)=(m:Int):=by rw[IntWalk.i64_in _ ⟨by omega,by omega⟩]
 have hz:=q0w m;obtain⟨Z,hZ⟩:∃ Z,zB (-((m:Int)+1))=Z:=⟨_,rfl⟩;rw[hZ]at hz ⊢;have HS:=fun V=>hid (n0a V m (by omega))
 have HR:=fun V=>hid (c0J V m (i0D (by omega)))
 have HO:=fun V=>hid (i0u V)
 have HP:=fun V v u hv hu=>hid (h0w V v u m 1 hv hu (h0O (by omega)) (h0O (by omega)))
 have HW:=fun V v hv=>hid (a0V V v (m+1) hv (h0O (by omega)))
 obtain⟨M,hM⟩:∃ M,b0h m=M:=⟨_,rfl⟩;have hsz:=a0P (m+1);have hnd:=i0D (n:=m+1) (by omega);obtain⟨M1,hM1⟩:∃ M,b0h (m+1)=M:=⟨_,rfl⟩;rw[hM1]at hsz;have hcat:¬ 9223372036854775807<1+M1.size:=by omega
 simp only[b0j]at HS HW;rw[hM]at HS HR;rw[hM1]at HW hz;clear hM hM1 hZ h hsz hnd;go_enter Tryz.func24,Tryz.ntmps24;go_wp2_with fail;refine (HS _).out.mono ?_;rintro e w1 ⟨rfl,rfl⟩;go_wp2_with fail;refine (HR _).out.mono ?_;rintro e w2 ⟨⟨v2,rfl,h2⟩,hb2⟩;have B2:=hid hb2;have V2:=hid h2;clear hb2 h2;go_wp2_with fail;refine (HO _).out.mono ?_;rintro e w3 ⟨⟨v3,rfl,h3⟩,hb3⟩;have B3:=hid (a0a B2.out hb3);have V3:=hid (V2.out.call hb3);have U3:=hid h3;clear hb3 h3;go_wp2_with fail;refine (HP _ _ _ V3.out U3.out).out.mono ?_;rintro e w4 ⟨⟨v4,rfl,h4⟩,hb4⟩;have B4:=hid (a0a B3.out hb4);have V4:=hid h4;clear hb4 h4;go_wp2_with fail;refine (HW _ _ V4.out).out.mono ?_;rintro e w5 ⟨rfl,hb5⟩;have B5:=hid (a0a B4.out hb5);clear hb5;go_wp2_with fail;go_ret
 exact⟨rfl,B5.out⟩
theorem k0I (w:World)(k:Int)(h1 : -1000000000000000000≤k)(h2:k≤1000000000000000000):Calls Tryz.prog 24 #[.int .i64 k] w fun e w'=>e=.returned (.string (zB k))∧Below w.heap.size w w':=by
 by_cases hk:0≤k
 ·obtain⟨n,rfl⟩:∃ n:Nat,k=(n:Nat):=⟨k.toNat,by omega⟩;refine (q0W w n (by omega)).mono ?_;rintro e w' ⟨rfl,rfl⟩;exact⟨by rw[q0x],Below.refl _ _⟩
 ·obtain⟨m,rfl⟩:∃ m:Nat,k = -((m:Int)+1):=⟨(-k-1).toNat,by omega⟩;exact j0s w m (by omega)
theorem d0y (w:World)(v u:Value)(p q:Rat)(hp:IsQ .i64 w v p)(hq:IsQ .i64 w u q)(dp:Dig 4000 p)(dq:Dig 4000 q):
 Calls Tryz.prog 82 #[v,u] w fun e w'=>RetQF w.heap.size (p-q) e w'∧Below w.heap.size w w':=by
 have l1:=dp.limbs (L:=100000) (by omega) (by omega);have l2:=(g0h dq).limbs (L:=100000) (by omega) (by omega);have HO:=fun V v u hp hq=>hid (i0v V v u p (-q) hp hq l1.1 l1.2 l2.1 l2.2)
 have HG:=fun V v h=>hid (c0I V v q h)
 have HP:=hid hp;have HQ:=hid hq;obtain⟨m,a,n,c,a',n',c',rfl⟩:=hp.qv;obtain⟨m2,b,j,d,b',j',d',rfl⟩:=hq.qv;rw[Rat.sub_eq_add_neg];obtain⟨z,hz⟩:∃ z,p + -q=z:=⟨_,rfl⟩;simp only[hz]at HO;rw[hz];clear hp hq dp dq hz l1 l2;go_enter Tryz.func82,Tryz.ntmps82;go_wp2_with fail;obtain⟨W,hW⟩:∃ W,((w.alloc (.cells #[.bool m,.slice a n c,.slice a' n' c'] 79)).alloc (.cells #[.bool m2,.slice b j d,.slice b' j' d'] 79)).alloc (.cells #[.bool false,.slice none 0 0,.slice none 0 0] 79)=W:=⟨_,rfl⟩;rw[hW];have X0:Below w.heap.size w W:=by rw[← hW];exact (((Below.refl _ _).alloc (Nat.le_refl _) _).alloc (by simp) _).alloc (by simp;omega) _
 have Y0:Blk W w.heap.size #[.bool m,.slice a n c,.slice a' n' c'] 79:=by rw[← hW];exact ((Blk.new w _ _).alloc _).alloc _
 have Y1:Blk W (w.heap.size+1) #[.bool m2,.slice b j d,.slice b' j' d'] 79:=by rw[← hW];exact (Blk.made (w.alloc _) _ _ (by simp)).alloc _
 have Y2:Blk W (w.heap.size+1+1) #[.bool false,.slice none 0 0,.slice none 0 0] 79:=by rw[← hW];exact Blk.made ((w.alloc _).alloc _) _ _ (by simp)
 have KK:Hid (∀ w',Blk w' w.heap.size #[.bool m,.slice a n c,.slice a' n' c'] 79→Blk w' (w.heap.size+1) #[.bool m2,.slice b j d,.slice b' j' d'] 79→w'.cell? ⟨w.heap.size,0,none⟩=some (.bool m)∧w'.cell? ⟨w.heap.size,1,none⟩=some (.slice a n c)∧w'.cell? ⟨w.heap.size,2,none⟩=some (.slice a' n' c')∧w'.cell? ⟨w.heap.size+1,0,none⟩=some (.bool m2)∧w'.cell? ⟨w.heap.size+1,1,none⟩=some (.slice b j d)∧w'.cell? ⟨w.heap.size+1,2,none⟩=some (.slice b' j' d')):=fun w' y0 y1=>
  ⟨y0.cell 0,y0.cell 1,y0.cell 2,y1.cell 0,y1.cell 1,y1.cell 2⟩
 have HX0:=hid X0;have HY0:=hid Y0;have HY1:=hid Y1;have HY2:=hid Y2;have Q1:=hid (HP.out.call X0);have Q2:=hid (HQ.out.call X0);clear X0 Y0 Y1 Y2 hW;refine a0f [0,1] 3 (fun w'=>w'.cell? ⟨w.heap.size,0,none⟩=some (.bool m)∧w'.cell? ⟨w.heap.size,1,none⟩=some (.slice a n c)∧w'.cell? ⟨w.heap.size,2,none⟩=some (.slice a' n' c')∧w'.cell? ⟨w.heap.size+1,0,none⟩=some (.bool m2)∧w'.cell? ⟨w.heap.size+1,1,none⟩=some (.slice b j d)∧w'.cell? ⟨w.heap.size+1,2,none⟩=some (.slice b' j' d')) (by kernel_rfl) (by kernel_rfl) (by kernel_rfl) (by kernel_rfl) (KK.out _ (HY0.out.call (Below.refl _ _).drew) (HY1.out.call (Below.refl _ _).drew)) ?_
 iterate 2
  refine⟨_,rfl,?_⟩;apply Exists.intro
  refine⟨.inl ⟨by rfl,?_⟩,?_⟩
  ·(intro W' hW';obtain⟨q1,q2,q3,q4,q5,q6⟩:=hW';go_simp;try (with_reducible rfl))
  (dsimp only[Act.put];try simp only[List.setIfInBounds_toArray,List.set_cons_zero,List.set_cons_succ])
 refine a0b (i:=2) (by kernel_rfl) (by rfl) (by rfl) ?_;go_wp2_with fail;refine (HG _ _ (Q2.out.call (Below.refl _ _).drew)).out.mono ?_;rintro e w3 ⟨⟨v3,rfl,hv3⟩,hb3⟩;have x3:=hid (show Below W.heap.size W w3 from (Below.refl _ _).drew.trans hb3);have N3:=hid hv3;obtain⟨m5,a5,n5,c5,a6,n6,c6,rfl⟩:=hv3.qv;clear hb3 hv3;go_wp2_with fail;refine⟨KK.out _ (HY0.out.call x3.out) (HY1.out.call x3.out),?_⟩;refine a0b (i:=3) (by kernel_rfl) (by rfl) (by rfl) ?_;go_wp2_with fail;refine (HO _ _ _ (Q1.out.call x3.out) N3.out).out.mono ?_;rintro e w4 ⟨⟨v4,rfl,hf4⟩,hb4⟩;have x4:=hid (a0a x3.out hb4);have hv4:=hf4.q;have N4:=hid hv4;obtain⟨m7,a7,n7,c7,a8,n8,c8,rfl⟩:=hv4.qv;obtain⟨fN,fD⟩:=hf4.fr;have FN:=hid fN;have FD:=hid fD;have Z:=hid (HY2.out.call x4.out);have t0:=Z.out.cell 0;have t1:=Z.out.cell 1;have t2:=Z.out.cell 2;have t3:=Z.out.free 0;have t4:=Z.out.free 1;have t5:=Z.out.free 2;simp at t0 t1 t2;clear hb4 hv4 hf4 fN fD;go_wp2_with fail;refine⟨KK.out _ (HY0.out.call x4.out) (HY1.out.call x4.out),?_⟩;refine a0b (i:=4) (by kernel_rfl) (by rfl) (by rfl) ?_;go_wp2_with fail;refine⟨KK.out _ ((((HY0.out.call x4.out).other (by simp;omega) _).other (by simp;omega) _).other (by simp;omega) _) ((((HY1.out.call x4.out).other (by simp) _).other (by simp) _).other (by simp) _),?_⟩;refine wpAnyH_done (by kernel_rfl) ?_ _;simp only[a0o];obtain⟨s1,s2⟩:=b0d Z.out m7 a7 a8 n7 c7 n8 c8;have f0:=s2.cell 0;have f1:=s2.cell 1;have f2:=s2.cell 2;simp at f0 f1 f2;clear t0 t1 t2 t3 t4 t5;go_wp2_with fail;refine bodyPost_ret (v:=.agg #[.bool m7,.slice a7 n7 c7,.slice a8 n8 c8]) (by simp[results,Tryz.results82,go_sem,f0,f1,f2]) rfl ⟨⟨_,rfl,IsQF.of (c0P Z.out m7 a7 a8 n7 c7 n8 c8 N4.out) (fun g e=>Nat.le_trans HX0.out.size (Nat.le_trans x3.out.size (FN.out g e))) (fun g e=>Nat.le_trans HX0.out.size (Nat.le_trans x3.out.size (FD.out g e)))⟩,?_⟩;exact (((HX0.out.trans (x4.out.mono HX0.out.size)).setCell (by simp;omega) _).setCell (by simp;omega) _).setCell (by simp;omega) _
theorem d0b (w:World)(v u:Value)(p q:Rat)(hp:IsQ .i64 w v p)(hq:IsQ .i64 w u q)(dp:Dig 4000 p)(dq:Dig 4000 q):
 Calls Tryz.prog 82 #[v,u] w fun e w'=>d0Q .i64 (p-q) e w'∧Below w.heap.size w w':=
 (d0y w v u p q hp hq dp dq).mono fun _ _ h=>⟨h.1.ret,h.2⟩
theorem f0M (w:World)(v:Value)(p:Rat)(k:Nat)(hp:IsQ .i64 w v p)(dp:Dig 4000 p)(hk:0<k)(hk2:k≤1000):
 Calls Tryz.prog 81 #[v,.int .i64 (k:Nat)] w fun e w'=>d0Q .i64 (p / ((k:Nat):Rat)) e w'∧Below w.heap.size w w':=by
 have tz:=r0R (z:=(k:Int)) (Nat.lt_of_le_of_lt (show (k:Int).natAbs≤1000 by omega) (by decide));have eR:(((k:Nat):Int):Rat)=((k:Nat):Rat):=Rat.intCast_natCast k;rw[eR]at tz;have hk0:((k:Nat):Rat)≠0:=b0N hk;have dk:Dig 4000 (((k:Nat):Rat))⁻¹ := e0P hk0 (c0T tz.fit);have HI:=fun V=>hid (k0I V (k:Nat) (by omega) (by omega))
 have zs:(zB (k:Nat)).size≤1000000:=by rw[tz.eq];have:=o0D tz.fit;omega
 have HR:=fun V=>hid (b0x V (zB (k:Nat)) zs tz.qE)
 rw[tz.vQ]at HR;obtain⟨Zk,hZk⟩:∃ z,zB (k:Nat)=z:=⟨_,rfl⟩;rw[hZk]at HI HR;have HG:=fun V v h=>hid (p0g V v ((k:Nat):Rat) h hk0)
 have HO:=fun V v u hp hq=>hid (n0q V v u p (((k:Nat):Rat))⁻¹ hp hq dp dk)
 have HP:=hid hp;obtain⟨m,a,n,c,a',n',c',rfl⟩:=hp.qv;rw[Rat.div_def];obtain⟨z,hz⟩:∃ z,p*(((k:Nat):Rat))⁻¹ = z:=⟨_,rfl⟩;simp only[hz]at HO;rw[hz];clear hp dp hz tz eR hk0 dk zs hZk hk hk2;go_enter Tryz.func81,Tryz.ntmps81;go_wp2_with fail;obtain⟨W,hW⟩:∃ W,(w.alloc (.cells #[.bool m,.slice a n c,.slice a' n' c'] 79)).alloc (.cells #[.bool false,.slice none 0 0,.slice none 0 0] 79)=W:=⟨_,rfl⟩;rw[hW];have X0:Below w.heap.size w W:=by rw[← hW];exact ((Below.refl _ _).alloc (Nat.le_refl _) _).alloc (by simp) _
 have Y0:Blk W w.heap.size #[.bool m,.slice a n c,.slice a' n' c'] 79:=by rw[← hW];exact (Blk.new w _ _).alloc _
 have Y2:Blk W (w.heap.size+1) #[.bool false,.slice none 0 0,.slice none 0 0] 79:=by rw[← hW];exact Blk.made (w.alloc _) _ _ (by simp)
 have KK:Hid (∀ w',Blk w' w.heap.size #[.bool m,.slice a n c,.slice a' n' c'] 79→w'.cell? ⟨w.heap.size,0,none⟩=some (.bool m)∧w'.cell? ⟨w.heap.size,1,none⟩=some (.slice a n c)∧w'.cell? ⟨w.heap.size,2,none⟩=some (.slice a' n' c')):=fun w' y0=>⟨y0.cell 0,y0.cell 1,y0.cell 2⟩
 have HX0:=hid X0;have HY0:=hid Y0;have HY2:=hid Y2;have Q1:=hid (HP.out.call X0);clear X0 Y0 Y2 hW;refine a0f [0,1] 5 (fun w'=>w'.cell? ⟨w.heap.size,0,none⟩=some (.bool m)∧w'.cell? ⟨w.heap.size,1,none⟩=some (.slice a n c)∧w'.cell? ⟨w.heap.size,2,none⟩=some (.slice a' n' c')) (by kernel_rfl) (by kernel_rfl) (by kernel_rfl) (by kernel_rfl) (KK.out _ (HY0.out.call (Below.refl _ _).drew)) ?_
 iterate 2
  refine⟨_,rfl,?_⟩;apply Exists.intro
  refine⟨.inl ⟨by rfl,?_⟩,?_⟩
  ·(intro W' hW';obtain⟨q1,q2,q3⟩:=hW';go_simp;try (with_reducible rfl))
  (dsimp only[Act.put];try simp only[List.setIfInBounds_toArray,List.set_cons_zero,List.set_cons_succ])
 refine a0b (i:=2) (by kernel_rfl) (by rfl) (by rfl) ?_;go_wp2_with fail;refine (HI _).out.mono ?_;rintro e w1 ⟨rfl,hb1⟩;have x1:=hid (show Below W.heap.size W w1 from (Below.refl _ _).drew.trans hb1);clear hb1;go_wp2_with fail;refine⟨KK.out _ (HY0.out.call x1.out),?_⟩;refine a0b (i:=3) (by kernel_rfl) (by rfl) (by rfl) ?_;go_wp2_with fail;refine (HR _).out.mono ?_;rintro e w2 ⟨⟨v2,rfl,hv2⟩,hb2⟩;have x2:=hid (a0a x1.out hb2);have N2:=hid hv2;obtain⟨m4,a4,n4,c4,b4,k4,d4,rfl⟩:=hv2.qv;clear hb2 hv2;go_wp2_with fail;refine⟨KK.out _ (HY0.out.call x2.out),?_⟩;refine a0b (i:=4) (by kernel_rfl) (by rfl) (by rfl) ?_;go_wp2_with fail;refine (HG _ _ N2.out).out.mono ?_;rintro e w3 ⟨⟨v3,rfl,hv3⟩,hb3⟩;have x3:=hid (a0a x2.out hb3);have N3:=hid hv3;obtain⟨m5,a5,n5,c5,a6,n6,c6,rfl⟩:=hv3.qv;clear hb3 hv3;go_wp2_with fail;refine⟨KK.out _ (HY0.out.call x3.out),?_⟩;refine a0b (i:=5) (by kernel_rfl) (by rfl) (by rfl) ?_;go_wp2_with fail;refine (HO _ _ _ (Q1.out.call x3.out) N3.out).out.mono ?_;rintro e w4 ⟨⟨v4,rfl,hv4⟩,hb4⟩;have x4:=hid (a0a x3.out hb4);have N4:=hid hv4;obtain⟨m7,a7,n7,c7,a8,n8,c8,rfl⟩:=hv4.qv;have Z:=hid (HY2.out.call x4.out);have t0:=Z.out.cell 0;have t1:=Z.out.cell 1;have t2:=Z.out.cell 2;have t3:=Z.out.free 0;have t4:=Z.out.free 1;have t5:=Z.out.free 2;simp at t0 t1 t2;clear hb4 hv4;go_wp2_with fail;refine⟨KK.out _ (HY0.out.call x4.out),?_⟩;refine a0b (i:=6) (by kernel_rfl) (by rfl) (by rfl) ?_;go_wp2_with fail;refine⟨KK.out _ ((((HY0.out.call x4.out).other (by simp) _).other (by simp) _).other (by simp) _),?_⟩;refine wpAnyH_done (by kernel_rfl) ?_ _;simp only[a0o];obtain⟨s1,s2⟩:=b0d Z.out m7 a7 a8 n7 c7 n8 c8;have f0:=s2.cell 0;have f1:=s2.cell 1;have f2:=s2.cell 2;simp at f0 f1 f2;clear t0 t1 t2 t3 t4 t5;go_wp2_with fail;refine bodyPost_ret (v:=.agg #[.bool m7,.slice a7 n7 c7,.slice a8 n8 c8]) (by simp[results,Tryz.results81,go_sem,f0,f1,f2]) rfl ⟨⟨_,rfl,c0P Z.out m7 a7 a8 n7 c7 n8 c8 N4.out⟩,?_⟩;exact (((HX0.out.trans (x4.out.mono HX0.out.size)).setCell (by simp) _).setCell (by simp) _).setCell (by simp) _
theorem q0z:vQ ⟨#[48]⟩=0:=by decide +kernel
theorem q0Z:qE ⟨#[48]⟩=0:=by decide +kernel
theorem e0q (w:World)(v:Value)(qs:List Rat)(hv:RRow w v qs)(hl:qs.length≤64)(hs:∀ i,i≤qs.length→Dig 4000 (rs (qs.take i)))(hq:∀ q∈qs,Dig 4000 q):
 Calls Tryz.prog 84 #[v] w fun e w'=>d0Q .i64 (rs qs) e w'∧Below w.heap.size w w':=by
 have PN:=fun V=>hid (b0x V ⟨#[48]⟩ (by decide) q0Z)
 rw[q0z]at PN;have HS:=hid hs;have HQ:=hid hq;have HV:=hid hv;obtain⟨a,c,rfl,c1,c2⟩:=hv.slice;obtain⟨K,hK⟩:∃ K,qs.length=K:=⟨_,rfl⟩;have HK:=hid hK;rw[hK]at c1 HV ⊢;have HK64:=hid (show K≤64 by omega);have A0:=hid ((Below.refl w.heap.size w).alloc (Nat.le_refl _) (.cells #[.bool false,.slice none 0 0,.slice none 0 0] 79));have X0:=hid (Blk.new w #[.bool false,.slice none 0 0,.slice none 0 0] 79);clear hv hK hl hs hq;go_enter Tryz.func84,Tryz.ntmps84;go_wp2_with fail;refine (PN _).out.mono ?_;rintro e w1 ⟨⟨v1,rfl,hv1⟩,hb1⟩;obtain⟨m1,a1,n1,k1,a2,n2,k2,rfl⟩:=hv1.qv;have X1:=hid (X0.out.call hb1);have y1:=hid (a0a A0.out hb1);have Q1:=hid (QB.new hv1);have A1:=hid ((Below.refl w1.heap.size w1).alloc (Nat.le_refl _) (.cells #[.bool m1,.slice a1 n1 k1,.slice a2 n2 k2] 79));clear hb1 hv1 X0 A0;go_wp2_with fail
 go_loopw [4] (fun s4 wr=>∃ i:Nat,s4=.int .i64 (i:Nat)∧i≤K∧Hid (QB wr w1.heap.size (rs (qs.take i)))∧Hid (Below w1.heap.size w1 wr)) (fun s4 wr=>K-(intOf s4).toNat)
 case atStart=>exact⟨0,rfl,Nat.zero_le _,Q1,A1⟩
 case round=>
  obtain⟨i,rfl,hi,hQ,hB⟩:=hrel;by_cases hlt:i<K
  ·obtain⟨q,hq⟩:∃ q,qs[i]?=some q:=⟨_,List.getElem?_eq_getElem (by rw[HK.out];exact hlt)⟩;obtain⟨gl,o,mq,aq,nq,cq,aq',nq',cq',rfl,hgl,k0,k1',k2',hQQ⟩:=HV.out.at hq;have BW:=hid (a0a y1.out hB.out);have KA:Hid (∀ W,Below w.heap.size w W→W.cell? ⟨gl,o+i*3,none⟩=some (.bool mq)∧W.cell? ⟨gl,o+i*3+1,none⟩=some (.slice aq nq cq)∧W.cell? ⟨gl,o+i*3+2,none⟩=some (.slice aq' nq' cq')):=fun W hW=>
    ⟨(hW.cell (p:=⟨gl,_,none⟩) hgl).trans k0,(hW.cell (p:=⟨gl,_,none⟩) hgl).trans k1',(hW.cell (p:=⟨gl,_,none⟩) hgl).trans k2'⟩
   have QL:=hid hQQ;have HAD:=hid (b0H hq);have dP:=HS.out i (by have:=HK.out;omega);have dQ:=HQ.out q (List.mem_of_getElem? hq);have PO:=fun V v u hp hq'=>hid (h0E V v u (rs (qs.take i)) q hp hq' dP dQ)
   have f1:(0:Int)≤(i:Int):=by omega
   have f2:(i:Int)<(K:Int):=by omega
   have wi:IntKind.i64.wrap ((i:Int)+1)=((i+1:Nat):Int):=by have:=HK64.out;rw[IntWalk.i64_in _ ⟨by omega,by omega⟩];omega
   have HLT:=hid hlt;obtain⟨m5,a5,n5,c5,a6,n6,c6,hb5,hq5⟩:=hQ.out;have B5:=hid (show Blk wr.drew w1.heap.size _ _ from hb5);have V5:=hid hq5;have b0:=B5.out.cell 0;have b1:=B5.out.cell 1;have b2:=B5.out.cell 2;simp at b0 b1 b2;clear hq hQQ k0 k1' k2' hlt hi hb5 hq5 hQ hgl dP dQ;go_wp2_with fail;refine a0f [1,2,3,4] 3 (fun w'=>w'.cell? ⟨gl,o+i*3,none⟩=some (.bool mq)∧w'.cell? ⟨gl,o+i*3+1,none⟩=some (.slice aq nq cq)∧w'.cell? ⟨gl,o+i*3+2,none⟩=some (.slice aq' nq' cq')) (by kernel_rfl) (by kernel_rfl) (by kernel_rfl) (by kernel_rfl) (KA.out _ BW.out.drew) ?_
   iterate 4
    refine⟨_,rfl,?_⟩;apply Exists.intro
    refine⟨.inl ⟨by rfl,?_⟩,?_⟩
    ·(intro W' hW';obtain⟨q9,q8,q7⟩:=hW';go_simp;try (with_reducible rfl))
    (dsimp only[Act.put];try simp only[List.setIfInBounds_toArray,List.set_cons_zero,List.set_cons_succ])
   refine a0b (i:=0) (by kernel_rfl) (by rfl) (by rfl) ?_;go_wp2_with fail;refine⟨KA.out _ BW.out.drew,?_⟩;refine a0b (i:=5) (by kernel_rfl) (by rfl) (by rfl) ?_;go_wp2_with fail;refine (PO _ _ _ (V5.out.call (Below.refl _ _).drew) (QL.out.call BW.out.drew)).out.mono ?_;rintro e w6 ⟨⟨v6,rfl,hv6⟩,hb6⟩;obtain⟨m7,a7,n7,c7,a8,n8,c8,rfl⟩:=hv6.qv;have x6:=hid (show Below wr.heap.size wr w6 from (Below.refl _ _).drew.trans hb6);have B6:=hid (B5.out.call hb6);have y6:=hid (a0a hB.out x6.out);have BW6:=hid (a0a BW.out x6.out);rw[← HAD.out]at hv6;have V6:=hid hv6;have t0:=B6.out.cell 0;have t1:=B6.out.cell 1;have t2:=B6.out.cell 2;have t3:=B6.out.free 0;have t4:=B6.out.free 1;have t5:=B6.out.free 2;simp at t0 t1 t2;clear hb6 hv6 b0 b1 b2;go_wp2_with fail;refine⟨KA.out _ BW6.out,?_⟩;refine a0b (i:=6) (by kernel_rfl) (by rfl) (by rfl) ?_;go_wp2_with fail;have Y6:Below w.heap.size w (((w6.setCell ⟨w1.heap.size,0,none⟩ (.bool m7)).setCell ⟨w1.heap.size,1,none⟩ (.slice a7 n7 c7)).setCell ⟨w1.heap.size,2,none⟩ (.slice a8 n8 c8)):=((BW6.out.setCell y1.out.size _).setCell y1.out.size _).setCell y1.out.size _;refine⟨KA.out _ Y6,?_⟩;clear Y6;refine wpAnyH_done (by kernel_rfl) ?_ _;simp only[a0o];clear t0 t1 t2 t3 t4 t5;go_wp2_with fail;go_roundw
   case rel=>exact⟨i+1,by go_num,by have:=HLT.out;omega,QB.put B6.out V6.out,((y6.out.setCell (Nat.le_refl _) _).setCell (Nat.le_refl _) _).setCell (Nat.le_refl _) _⟩
   case measure=>simp[intOf]<;>(have:=HLT.out;omega)
  ·obtain rfl:i=K:=by omega
   have t1:decide ((i:Int)<(i:Int))=false:=by simp
   have hT:qs.take i=qs:=List.take_of_length_le (by rw[HK.out];exact Nat.le_refl _);rw[hT]at hQ;obtain⟨m5,a5,n5,c5,a6,n6,c6,hb5,hq5⟩:=hQ.out;have V5:=hid hq5;have X5:=hid (X1.out.call hB.out);have BW:=hid (a0a y1.out hB.out);have b0:=hb5.cell 0;have b1:=hb5.cell 1;have b2:=hb5.cell 2;have d0:=X5.out.cell 0;have d1:=X5.out.cell 1;have d2:=X5.out.cell 2;have e0:=X5.out.free 0;have e1:=X5.out.free 1;have e2:=X5.out.free 2;simp at b0 b1 b2 d0 d1 d2;clear hb5 hq5 hQ hlt hi hT;go_wp2_with fail;obtain⟨s1,s2⟩:=b0d X5.out m5 a5 a6 n5 c5 n6 c6;have f0:=s2.cell 0;have f1:=s2.cell 1;have f2:=s2.cell 2;simp at f0 f1 f2;refine bodyPost_ret (v:=.agg #[.bool m5,.slice a5 n5 c5,.slice a6 n6 c6]) (by simp[results,Tryz.results84,go_sem,f0,f1,f2]) rfl ⟨⟨_,rfl,c0P X5.out m5 a5 a6 n5 c5 n6 c6 V5.out⟩,?_⟩;exact ((BW.out.setCell (Nat.le_refl _) _).setCell (Nat.le_refl _) _).setCell (Nat.le_refl _) _
end Go.Proofs.YtlimaehdmcnjaaaGreatDoor
namespace Go.Proofs.YtlimaehdmcnjaaaGreatDoor
open Go.RowKit
open Go.Lib (decDigits nDigits)
def e26:Nat:=260
structure LT (D:Nat)(v:List Rat)(T:Rat):Prop where
 pos:0<D
 le:D≤10 ^ e26
 dv:∀ q∈v,Dn D (10 ^ 20) q
 dT:Dn D (10 ^ 20) T
 n:v.length≤12
theorem LT.of {l:List ByteArray}{t:ByteArray}(h:VL 20 l)(ht:qE t=0)(hts:t.size≤20):LT (vD l*(vQ t).den) (l.map vQ) (vQ t):=by
 have dT:=i0X ht hts (by omega);have p0:0<vD l*(vQ t).den:=Nat.mul_pos (i0g l) (vQ t).den_pos;exact⟨p0,o0a (f0R (h.vD_le (by omega)) (Nat.le_of_lt dT.d)) (by unfold e26;omega),fun q hq=>((h.tx (by omega)).dn q hq).dvd p0 (Nat.dvd_mul_right _ _),dT.dn.dvd p0 (Nat.dvd_mul_left _ _),by rw[List.length_map];exact h.le⟩
theorem LT.of0 {l:List ByteArray}(h:VL 20 l):LT (vD l) (l.map vQ) 0:=
 ⟨i0g l,o0a (h.vD_le (by omega)) (by unfold e26;omega),(h.tx (by omega)).dn,Dn.zero (i0g l),by rw[List.length_map];exact h.le⟩
theorem LT.dig {D c:Nat}{v:List Rat}{T q:Rat}(h:LT D v T)(hq:Dn D (10 ^ c) q)(hc:c≤40):Dig 4000 q:=
 (hq.dig (K:=c+e26+1) (o0k (Nat.le_refl _) h.le (by omega))).up (by unfold e26;omega)
theorem LT.dig12 {D c:Nat}{v:List Rat}{T q:Rat}(h:LT D v T)(hq:Dn (D*f12) (10 ^ c) q)(hc:c≤40):Dig 4000 q:=
 (hq.dig (K:=c+(e26+9)+1) (o0k (Nat.le_refl _) (f0R h.le r0z) (by omega))).up (by unfold e26;omega)
theorem LT.sum {D:Nat}{v s:List Rat}{T:Rat}(h:LT D v T)(hs:∀ q∈s,q∈v)(hl:s.length≤12):Dn D (10 ^ 22) (rs s):=
 (o0T h.pos fun q hq=>h.dv q (hs q hq)).upB (f0R (n12 hl) (Nat.le_refl _))
theorem LT.up {D c d:Nat}{v:List Rat}{T q:Rat}(h:LT D v T)(hq:Dn D (10 ^ c) q)(hc:c≤d):Dn (D*f12) (10 ^ d) q:=(hq.up l0Q).upB (Nat.pow_le_pow_right (by omega) hc)
theorem Dn.sub10 {D c:Nat}{p q:Rat}(hp:Dn D (10 ^ c) p)(hq:Dn D (10 ^ c) q):Dn D (10 ^ (c+1)) (p-q):=(hp.sub hq).upB (m0A (Nat.le_refl _) (Nat.le_refl _))
theorem Dn.add10 {D c:Nat}{p q:Rat}(hp:Dn D (10 ^ c) p)(hq:Dn D (10 ^ c) q):Dn D (10 ^ (c+1)) (p+q):=(hp.add hq).upB (m0A (Nat.le_refl _) (Nat.le_refl _))
theorem Dn.up10 {D c d:Nat}{q:Rat}(h:Dn D (10 ^ c) q)(hc:c≤d):Dn D (10 ^ d) q:=h.upB (Nat.pow_le_pow_right (by omega) hc)
theorem e0z {q:Rat}(h:Dig 4000 q):(limbs q.num.natAbs).length≤1000000∧(limbs q.den).length≤1000000:=h.lim (by omega)
theorem j0j {l:List ByteArray}(h:a0O l=0)(hs:∀ s∈l,s.size≤20)(hl:l.length≤12):VL 20 l:=by
 obtain⟨h1,h2,h3⟩:=c0e h;exact⟨h3,hs,h1,hl⟩
theorem m0t {l:List ByteArray}{t:ByteArray}(h:btE l t=0):a0O l=0∧qE t=0:=by
 unfold btE at h;by_cases hv:a0O l=0
 ·rw[if_pos hv]at h;exact⟨hv,h⟩
 ·rw[if_neg hv]at h;exact absurd h hv
theorem g0N {f:Rat→Rat}{L:List Rat}{j:Nat}{x:Rat}(h:L[j]?=some x):((L.take j).map f++L.drop j)[j]?=some x∧((L.take j).map f++L.drop j).set j (f x)=(L.take (j+1)).map f++L.drop (j+1):=by
 obtain⟨hj,e⟩:=List.getElem?_eq_some_iff.1 h;have hd:L.drop j=x::L.drop (j+1):=by rw[List.drop_eq_getElem_cons hj,e]
 have hl:((L.take j).map f).length=j:=by rw[List.length_map,List.length_take];omega
 refine⟨?_,?_⟩
 ·rw[List.getElem?_append_right (by omega),hl,Nat.sub_self,hd];rfl
 ·rw[List.set_append_right _ _ (by omega),hl,Nat.sub_self,hd,List.set_cons_zero,List.take_add_one,h,Option.toList_some,List.map_append,List.append_assoc];rfl
def smK (t:Rat)(d:List Rat):Nat→Rat
 | 0=>d.headD 0-t
 | k+1=>if (rs (d.take (k+1))-t) / ((k+1:Nat):Rat)<d.getD k 0 then (rs (d.take (k+1))-t) / ((k+1:Nat):Rat) else smK t d k
open Go.Shelf
theorem WRow.low' {B:Nat}{W:World}{v:Value}{qs:List Rat}(h:WRow B W v qs):∀ g,v.ownBlock=some g→g<W.heap.size:=by
 obtain⟨cs,h1,-⟩:=h.ex;exact fun g hg=>(h1.own.lt g hg).2
theorem p0I {W:World}{g i b:Nat}{x y z:Value}(h:b≠g):(((W.setCell ⟨g,i,none⟩ x).setCell ⟨g,i+1,none⟩ y).setCell ⟨g,i+2,none⟩ z).heap[b]?=W.heap[b]? := by
 rw[Below.heap_setCell _ _ _ _ h,Below.heap_setCell _ _ _ _ h,Below.heap_setCell _ _ _ _ h]
theorem e0V (w:World)(v:Value)(l:List ByteArray)(t:ByteArray)(hv:Row w v (a0T l))(hs:∀ s∈l,s.size≤20)(hl:l.length≤12)(ht:t.size≤20):
 Calls Tryz.prog 32 #[v,.string t] w fun e w'=>(∃ u,e=.returned (.tuple #[u,.int .i64 (cnE l t)])∧Row w' u (a0T (cnR l t)))∧Below w.heap.size w w':=by
 have z1:∀ s∈l,s.size≤1000000:=fun s hs'=>by have:=hs s hs';omega
 have HC:=hid (d0c w v l t hv z1 (by omega));by_cases h0:btE l t=0
 case neg=>
  have e1:cnE l t=btE l t:=by unfold cnE;rw[if_neg h0]
  have e2:cnR l t = []:=by unfold cnR;rw[if_neg h0]
  rw[e1,e2];obtain⟨E,hE⟩:∃ x,btE l t=x:=⟨_,rfl⟩;rw[hE]at HC h0 ⊢;have t2:(E==0)=false:=by simpa using h0
  have t3:(E != 0)=true:=by simpa using h0
  obtain⟨a,c,rfl,-,-,-⟩:=hv.openS;clear hv hs hl ht z1 hE h0 e1 e2;go_enter Tryz.func32,Tryz.ntmps32;go_wp2_with fail;refine HC.out.mono ?_;rintro e w1 ⟨rfl,hb1⟩;have y1:=hid hb1;clear hb1;go_wp2_with fail;go_ret2
  exact⟨⟨_,rfl,Row.nil _⟩,y1.out⟩
 case pos=>
  obtain⟨hve,hqt⟩:=m0t h0;have V1:=j0j hve hs hl;have HLT:=LT.of V1 hqt ht;have e1:cnE l t=wrE (cnQ (l.map vQ) (vQ t)):=by unfold cnE;rw[if_pos h0]
  have e2:cnR l t=wrL (cnQ (l.map vQ) (vQ t)):=by unfold cnR;rw[if_pos h0]
  rw[e1,e2];rw[h0]at HC;have PR:=fun V x hx=>hid (b0Q V x l hx z1 V1.q (by omega))
  have PT:=fun V=>hid (b0x V t (by omega) hqt)
  obtain⟨T,hT⟩:∃ T,vQ t=T:=⟨_,rfl⟩;rw[hT]at HLT PT ⊢;obtain⟨L,hL⟩:∃ L,l.map vQ=L:=⟨_,rfl⟩;rw[hL]at HLT PR ⊢;obtain⟨D,hD⟩:∃ D,vD l*T.den=D:=⟨_,rfl⟩;rw[hD]at HLT;have dl:∀ q∈L,Dig 4000 q:=fun q hq=>HLT.dig (HLT.dv q hq) (by omega)
  have ds:∀ i,Dn D (10 ^ 22) (rs (L.take i)):=fun i=>HLT.sum (fun q hq=>List.mem_of_mem_take hq) (by rw[List.length_take];have:=HLT.n;omega)
  have ds0:Dn D (10 ^ 22) (rs L):=HLT.sum (fun q hq=>hq) HLT.n;have PS:=fun V x hx=>hid (e0q V x L hx (by have:=HLT.n;omega) (fun i _=>HLT.dig (ds i) (by omega)) dl)
  have PM:=fun V x y hx hy=>hid (d0b V x y T (rs L) hx hy (HLT.dig HLT.dT (by omega)) (HLT.dig ds0 (by omega)))
  obtain⟨n,hn⟩:∃ n,l.length=n:=⟨_,rfl⟩;have hLn:L.length=n:=by rw[← hL,List.length_map,hn]
  have hp:=V1.pos;have dm:Dn D (10 ^ 23) (T-rs L):=(HLT.dT.up10 (by omega)).sub10 ds0;have PO:=fun V x hx=>hid (f0M V x (T-rs L) n hx (HLT.dig dm (by omega)) (by omega) (by omega))
  have dmm:Dn (D*f12) (10 ^ 23) ((T-rs L) / ((n:Nat):Rat)):=dm.over12 (by omega) (by omega);have eC:cnQ L T=L.map fun a=>a+(T-rs L) / ((n:Nat):Rat):=by unfold cnQ;rw[hLn]
  obtain⟨M,hM⟩:∃ M,(T-rs L) / ((n:Nat):Rat)=M:=⟨_,rfl⟩;rw[hM]at PO dmm eC;rw[eC];have PP:=fun V x y q (hq:q∈L) hx hy=>hid (h0E V x y q M hx hy (dl q hq) (HLT.dig12 dmm (by omega)))
  have PW:=fun V x hx=>hid (d0x V x (L.map fun a=>a+M) hx (by rw[List.length_map];omega) (fun q hq=>by
   obtain⟨a,ha,rfl⟩:=List.mem_map.1 hq;exact e0z (HLT.dig12 (((HLT.up (HLT.dv a ha) (show 20≤23 by omega)).add10 dmm)) (by omega))))
  obtain⟨f,hf⟩:∃ f:Rat→Rat,(fun a=>a+M)=f:=⟨_,rfl⟩;rw[hf]at PW ⊢;have HF:=hid (fun a=>(show f a=a+M by rw[← hf]));have HV:=hid hv;obtain⟨a1,c1,rfl,q1,q2,-⟩:=hv.openS;rw[hn]at q1 HV HC ⊢;have HLN:=hid hLn;have HN12:=hid (show n≤12 by omega);have HN0:=hid (show 0<n by omega);clear hv hs hl ht z1 h0 e1 e2 hve hqt V1 HLT hT hL hD dl ds ds0 dm dmm eC hM hf hn hLn hp;go_enter Tryz.func32,Tryz.ntmps32;go_wp2_with fail;refine HC.out.mono ?_;rintro e w1 ⟨rfl,hb1⟩;have y1:=hid hb1;clear hb1;go_wp2_with fail;refine (PR _ _ (HV.out.call y1.out)).out.mono ?_;rintro e w2 ⟨⟨u2,rfl,hu2⟩,hb2⟩;have y2:=hid (a0a y1.out hb2);have R2:=hid hu2;obtain⟨a2,c2,rfl,r1,r2⟩:=hu2.slice;rw[HLN.out]at R2 r1 ⊢;clear hb2 hu2;go_wp2_with fail;refine (PT _).out.mono ?_;rintro e w3 ⟨⟨u3,rfl,hu3⟩,hb3⟩;have d3:=hid hb3;have Q3:=hid hu3;obtain⟨m3,a3,n3,k3,a4,n4,k4,rfl⟩:=hu3.qv;clear hb3 hu3;go_wp2_with fail;refine (PS _ _ (R2.out.rd.call d3.out)).out.mono ?_;rintro e w4 ⟨⟨u4,rfl,hu4⟩,hb4⟩;have d4:=hid (a0a d3.out hb4);have Q4:=hid hu4;have Q3b:=hid (Q3.out.call hb4);obtain⟨m5,a5,n5,k5,a6,n6,k6,rfl⟩:=hu4.qv;clear hb4 hu4;go_wp2_with fail;refine (PM _ _ _ Q3b.out Q4.out).out.mono ?_;rintro e w5 ⟨⟨u5,rfl,hu5⟩,hb5⟩;have d5:=hid (a0a d4.out hb5);have Q5:=hid hu5;obtain⟨m7,a7,n7,k7,a8,n8,k8,rfl⟩:=hu5.qv;clear hb5 hu5;go_wp2_with fail;refine (PO _ _ Q5.out).out.mono ?_;rintro e w6 ⟨⟨u6,rfl,hu6⟩,hb6⟩;have d6:=hid (a0a d5.out hb6);obtain⟨m9,a9,n9,k9,b9,o9,l9,rfl⟩:=hu6.qv;have QM:=hid (QB.new hu6);have A6:=hid (d6.out.alloc d6.out.size (.cells #[.bool m9,.slice a9 n9 k9,.slice b9 o9 l9] 79));have RA:=hid (R2.out.call A6.out);have GL:=hid (fun g (h:Value.ownBlock (.slice a2 n c2)=some g)=>(show g<w6.heap.size from Nat.lt_of_lt_of_le (R2.out.low' g h) d6.out.size));have W6:=hid (show w.heap.size≤w6.heap.size from Nat.le_trans y2.out.size d6.out.size);have B6:=hid (a0a y2.out A6.out);have R2L:=hid (RA.out.low (C:=w.heap.size) y1.out.size);clear hb6 hu6;go_wp2_with fail
  go_loopw [9] (fun s9 wr=>∃ i:Nat,s9=.int .i64 (i:Nat)∧i≤n∧Hid (WRow w.heap.size wr (.slice a2 n c2) ((L.take i).map f++L.drop i))∧Hid (QB wr w6.heap.size M)∧Hid (Below w.heap.size w wr)) (fun s9 wr=>n-(intOf s9).toNat)
  case atStart=>exact⟨0,rfl,Nat.zero_le _,R2L,QM,B6⟩
  case round=>
   obtain⟨i,rfl,hi,hR,hQ,hB⟩:=hrel;by_cases hlt:i<n
   ·obtain⟨q,hq⟩:∃ q,L[i]?=some q:=⟨_,List.getElem?_eq_getElem (by rw[HLN.out];exact hlt)⟩;obtain⟨e1,e2⟩:=g0N (f:=f) hq;have E2:=hid e2;obtain⟨g,mq,aq,nq,cq,aq',nq',cq',rfl,hBg,hgl,k0,k1',k2',hQQ⟩:=hR.out.at e1;have QQ:=hid hQQ;have GG:=hid (GL.out g rfl);have HF3:=hid (fun j=>hR.out.free (g:=g) j);obtain⟨mM,aM,nM,cM,aM',nM',cM',hbM,hqM⟩:=hQ.out;have VM:=hid hqM;have BM:=hid hbM;have PPx:=fun V x y hx hy=>PP V x y q (List.mem_of_getElem? hq) hx hy
    have EF:=hid (HF.out q);have KM:Hid (∀ V,Below wr.heap.size wr V→V.cell? ⟨w6.heap.size,0,none⟩=some (.bool mM)∧V.cell? ⟨w6.heap.size,1,none⟩=some (.slice aM nM cM)∧V.cell? ⟨w6.heap.size,2,none⟩=some (.slice aM' nM' cM')):=fun V h=>⟨(BM.out.call h).cell 0,(BM.out.call h).cell 1,(BM.out.call h).cell 2⟩
    have KE:Hid (∀ V,Below wr.heap.size wr V→V.cell? ⟨g,i*3,none⟩=some (.bool mq)∧V.cell? ⟨g,i*3+1,none⟩=some (.slice aq nq cq)∧V.cell? ⟨g,i*3+2,none⟩=some (.slice aq' nq' cq')):=fun V h=>⟨(h.cell (p:=⟨g,_,none⟩) hgl).trans k0,(h.cell (p:=⟨g,_,none⟩) hgl).trans k1',(h.cell (p:=⟨g,_,none⟩) hgl).trans k2'⟩
    have f1:(0:Int)≤(i:Int):=by omega
    have f2:(i:Int)<(n:Int):=by omega
    have wi:IntKind.i64.wrap ((i:Int)+1)=((i+1:Nat):Int):=by have:=HN12.out;rw[IntWalk.i64_in _ ⟨by omega,by omega⟩];omega
    have HLT:=hid hlt;have HBG:=hid hBg;obtain⟨z0,z1,z2⟩:=KE.out _ (Below.refl _ _).drew;clear hq e1 e2 k0 k1' k2' hQQ hbM hqM hlt hBg hgl hQ;go_wp2_with fail;refine a0f [0,1,2,3,4,6] 4 (fun V=>V.cell? ⟨w6.heap.size,0,none⟩=some (.bool mM)∧V.cell? ⟨w6.heap.size,1,none⟩=some (.slice aM nM cM)∧V.cell? ⟨w6.heap.size,2,none⟩=some (.slice aM' nM' cM')) (by kernel_rfl) (by kernel_rfl) (by kernel_rfl) (by kernel_rfl) (KM.out _ (Below.refl _ _).drew) ?_
    iterate 6
     refine⟨_,rfl,?_⟩;apply Exists.intro
     refine⟨.inl ⟨by rfl,?_⟩,?_⟩
     ·(intro W' hW';obtain⟨p1,p2,p3⟩:=hW';go_simp;try (with_reducible rfl))
     (dsimp only[Act.put];try simp only[List.setIfInBounds_toArray,List.set_cons_zero,List.set_cons_succ])
    refine a0b (i:=5) (by kernel_rfl) (by rfl) (by rfl) ?_;go_wp2_with fail;refine⟨KM.out _ (Below.refl _ _).drew,?_⟩;refine a0b (i:=7) (by kernel_rfl) (by rfl) (by rfl) ?_;go_wp2_with fail;refine (PPx _ _ _ (QQ.out.call (Below.refl _ _).drew) (VM.out.call (Below.refl _ _).drew)).out.mono ?_;rintro e w7 ⟨⟨v7,rfl,hv7⟩,hb7⟩;obtain⟨m7,a7,n7,c7,a8,n8,c8,rfl⟩:=hv7.qv;have x7:=hid (show Below wr.heap.size wr w7 from (Below.refl _ _).drew.trans hb7);rw[← EF.out]at hv7;have V7:=hid hv7;have BM7:=hid (BM.out.call x7.out);have R7:=hid (hR.out.call x7.out);obtain⟨t0,t1,t2⟩:=KE.out _ x7.out;have t3:=R7.out.free (g:=g) (i*3);have t4:=R7.out.free (g:=g) (i*3+1);have t5:=R7.out.free (g:=g) (i*3+2);clear hb7 hv7 z0 z1 z2;go_wp2_with fail;refine⟨KM.out _ x7.out,?_⟩;refine a0b (i:=8) (by kernel_rfl) (by rfl) (by rfl) ?_;go_wp2_with fail;refine⟨KM.out _ x7.out,?_⟩;refine a0b (i:=9) (by kernel_rfl) (by rfl) (by rfl) ?_;go_wp2_with fail;have hlen:((L.take i).map f++L.drop i).length=n:=by rw[List.length_append,List.length_map,List.length_take,List.length_drop,HLN.out];have:=HLT.out;omega
    obtain⟨RP,KP⟩:=R7.out.put (i:=i) (by rw[hlen];exact HLT.out) V7.out;rw[E2.out]at RP;have BN:=((BM7.out.other (a:=⟨g,i*3,none⟩) (by have h:=GG.out;show g≠w6.heap.size;omega) (.bool m7)).other (a:=⟨g,i*3+1,none⟩) (by have h:=GG.out;show g≠w6.heap.size;omega) (.slice a7 n7 c7)).other (a:=⟨g,i*3+2,none⟩) (by have h:=GG.out;show g≠w6.heap.size;omega) (.slice a8 n8 c8);have QN:=hid (show QB _ w6.heap.size M from⟨mM,aM,nM,cM,aM',nM',cM',BN,KP.isQ (VM.out.call x7.out)⟩);have RN:=hid RP;have B7:=hid (((((hB.out.trans (x7.out.mono hB.out.size)).setCell (p:=⟨g,i*3,none⟩) HBG.out (.bool m7)).setCell (p:=⟨g,i*3+1,none⟩) HBG.out (.slice a7 n7 c7)).setCell (p:=⟨g,i*3+2,none⟩) HBG.out (.slice a8 n8 c8)));refine⟨⟨BN.cell 0,BN.cell 1,BN.cell 2⟩,?_⟩;clear RP KP BN hlen t0 t1 t2 t3 t4 t5;refine wpAnyH_done (by kernel_rfl) ?_ _;simp only[a0o];go_wp2_with fail;go_roundw
    case rel=>exact⟨i+1,by go_num,by have:=HLT.out;omega,RN,QN,B7⟩
    case measure=>simp[intOf]<;>(have:=HLT.out;omega)
   ·obtain rfl:i=n:=by omega
    have q1:decide ((i:Int)<(i:Int))=false:=by simp
    have hT:(L.take i).map f++L.drop i=L.map f:=by rw[List.take_of_length_le (by rw[HLN.out];exact Nat.le_refl _),List.drop_of_length_le (by rw[HLN.out];exact Nat.le_refl _),List.append_nil]
    rw[hT]at hR;clear hlt hT hQ;go_wp2_with fail;refine (PW _ _ hR.out.rd).out.mono ?_;rintro e w8 ⟨⟨u8,rfl,hu8⟩,hb8⟩;have y8:=hid (hB.out.trans (hb8.mono hB.out.size));have U8:=hid hu8;obtain⟨a8,c8,rfl,-,-,-⟩:=hu8.openS;clear hb8 hu8;go_wp2_with fail;go_ret2
    exact⟨⟨_,rfl,U8.out⟩,y8.out⟩
theorem a0v {P:Program}(w:World){ops:Array Oper}{o:Oper}{a:Act}{K:Act→World→Prop}{Q:Exit→Act→World→Prop}{E:Prop}(hgd:o.guard=none)(s x:Operand)(t:TypeId)
 (ho:o.op=.call { callee:=.builtin .append,args:=#[s,x],argTypes:=#[t,t] })
 (base:Nat) (e:TypeId) (i:TypeInfo) (z:Value) (size bytes:Nat) (ht:P.underlying t=some (.slice e)) (hi:P.info? e=some i) (hz:i.zero=some z)
 (hsize:i.size=size) (hby:i.bytes=bytes) (hzs:z.cells.size=size) (hsz:0<size)
 (v:Value) (n:Nat) (xs:List Value) (hs:a.eval s=v) (hown:w.ownsRow base e size v n xs) (hv:v ≠ .slice none 0 0)
 (ao:Option Addr) (m c:Nat) (news:List Value) (hx:a.eval x=.slice ao m c) (hl:news.length=m*size) (hnews:∀ j u,news[j]?=some u→∃ ad,ao=some ad∧w.cell? (ad.add j)=some u) (h1:∀ u∈news,u.oneCell'=true)
 (h63:n+m≤maxLen) (hbytes:(n+m)*bytes≤140737488355328) (hbase:base≤w.heap.size)
 (h:∀ v' w',w'.ownsRow base e size v' (n+m) (xs++news)→w.grownBy w' v.ownBlock→v' ≠ .slice none 0 0→K (a.put o.dst v') w'):
 if Region.wanted o (yielded ops a.tmps)=true then Oper.wp P o a w K Q else E:=by
 have hw:Region.wanted o (yielded ops a.tmps)=true:=by simp[Region.wanted,hgd]
 rw[if_pos hw];obtain⟨v',w',hr,h2,h3,h4⟩:=c0E (P:=P) w base t o.type e i z size bytes ht hi hz hsize hby hzs hsz v n xs hown hv ao m c news hl hnews h1 h63 hbytes hbase;unfold Oper.wp execOp;simp only[ho,resolve,invoke,builtin,Sem.run_bind,Sem.run_pure,Result.andThen_ok,List.map_toArray,List.map_cons,List.map_nil,hs,hx,hr];exact h v' w' h2 h3 h4
theorem a0W {w0 W w3:World}{t:TypeId}{z:Nat}{v:Value}{m:Nat}{vs:List Value}(h:W.ownsRow w0.heap.size t z v m vs)(h0:Below w0.heap.size w0 W)(hg:W.grownBy w3 v.ownBlock):Below w0.heap.size w0 w3:=by
 refine h0.trans ⟨hg.os,hg.tape,hg.output,hg.size,fun j hj=>hg.block j (Nat.lt_of_lt_of_le hj h0.size) fun e=>?_⟩;have:=(h.lt j e.symm).1;omega
end Go.Proofs.YtlimaehdmcnjaaaGreatDoor
namespace Go.Proofs.YtlimaehdmcnjaaaGreatDoor
open Go.RowKit
open Go.Lib (decDigits nDigits)
theorem b0V (w:World)(v u:Value)(p q:Rat)(hp:IsQ .i64 w v p)(hq:IsQ .i64 w u q)(dp:Dig 4000 p)(dq:Dig 4000 q):
 Calls Tryz.prog 78 #[v,u] w fun e w'=>e=.returned (.int .i64 (d0V p q))∧Below w.heap.size w w':=by
 have HO:=fun V v u hp hq=>hid (h0E V v u p (-q) hp hq dp (g0h dq))
 have HG:=fun V v h=>hid (c0I V v q h)
 have HP:=hid hp;have HQ:=hid hq;obtain⟨m,a,n,c,a',n',c',rfl⟩:=hp.qv;obtain⟨m2,b,j,d,b',j',d',rfl⟩:=hq.qv;rw[show d0V p q=i0p (p + -q) by rw[d0V,Rat.sub_eq_add_neg]];obtain⟨z,hz⟩:∃ z,p + -q=z:=⟨_,rfl⟩;simp only[hz]at HO;rw[hz];clear hp hq dp dq hz;go_enter Tryz.func78,Tryz.ntmps78
 go_upto_region 1 with fail
 obtain⟨W,hW⟩:∃ W,(w.alloc (.cells #[.bool m,.slice a n c,.slice a' n' c'] 79)).alloc (.cells #[.bool m2,.slice b j d,.slice b' j' d'] 79)=W:=⟨_,rfl⟩;have Y0:Blk W w.heap.size #[.bool m,.slice a n c,.slice a' n' c'] 79:=by rw[← hW];exact (Blk.new w _ _).alloc _
 have Y1:Blk W (w.heap.size+1) #[.bool m2,.slice b j d,.slice b' j' d'] 79:=by rw[← hW];exact Blk.made _ _ _ (by simp)
 have y0:Below w.heap.size w W:=by rw[← hW];exact ((Below.refl _ _).alloc (Nat.le_refl _) _).alloc (by simp) _
 rw[hW];have KK:Hid (∀ w',Below W.heap.size W w'→w'.cell? ⟨w.heap.size,0,none⟩=some (.bool m)∧w'.cell? ⟨w.heap.size,1,none⟩=some (.slice a n c)∧w'.cell? ⟨w.heap.size,2,none⟩=some (.slice a' n' c')∧w'.cell? ⟨w.heap.size+1,0,none⟩=some (.bool m2)∧w'.cell? ⟨w.heap.size+1,1,none⟩=some (.slice b j d)∧w'.cell? ⟨w.heap.size+1,2,none⟩=some (.slice b' j' d')):=fun w' hb=>
  ⟨(Y0.call hb).cell 0,(Y0.call hb).cell 1,(Y0.call hb).cell 2,(Y1.call hb).cell 0,(Y1.call hb).cell 1,(Y1.call hb).cell 2⟩
 have Q1:=hid (HP.out.call y0);have Q2:=hid (HQ.out.call y0);have HY:=hid y0;clear Y0 Y1 y0 hW
 go_cut [5] (fun s5 wx=>∃ (g:Nat) (a5:Option Addr) (n5 c5:Nat) (a6:Option Addr) (n6 c6:Nat),s5=.pointer (some ⟨g,0,none⟩)∧Hid (Blk wx g #[.bool (decide (z.num<0)),.slice a5 n5 c5,.slice a6 n6 c6] 79)∧Hid (n5=(limbs z.num.natAbs).length)∧Hid (Below W.heap.size W wx))
 case first=>
  refine a0f [0,1] 4 (fun w'=>w'.cell? ⟨w.heap.size,0,none⟩=some (.bool m)∧w'.cell? ⟨w.heap.size,1,none⟩=some (.slice a n c)∧w'.cell? ⟨w.heap.size,2,none⟩=some (.slice a' n' c')∧w'.cell? ⟨w.heap.size+1,0,none⟩=some (.bool m2)∧w'.cell? ⟨w.heap.size+1,1,none⟩=some (.slice b j d)∧w'.cell? ⟨w.heap.size+1,2,none⟩=some (.slice b' j' d')) (by kernel_rfl) (by kernel_rfl) (by kernel_rfl) (by kernel_rfl) (KK.out _ (Below.refl _ _).drew) ?_
  iterate 2
   refine⟨_,rfl,?_⟩;apply Exists.intro
   refine⟨.inl ⟨by rfl,?_⟩,?_⟩
   ·(intro W' hW';obtain⟨q1,q2,q3,q4,q5,q6⟩:=hW';go_simp;try (with_reducible rfl))
   (dsimp only[Act.put];try simp only[List.setIfInBounds_toArray,List.set_cons_zero,List.set_cons_succ])
  refine a0k (i:=2) (j:=4) (by kernel_rfl) (by rfl) (by rfl) (by rfl) (by rfl) ?_ ?_
  ·go_wp2_with fail;refine (HG _ _ (Q2.out.call (Below.refl _ _).drew)).out.mono ?_;rintro e w3 ⟨⟨v3,rfl,hv3⟩,hb3⟩;have x3:=hid (show Below W.heap.size W w3 from (Below.refl _ _).drew.trans hb3);have N3:=hid hv3;obtain⟨m5,a5,n5,c5,a6,n6,c6,rfl⟩:=hv3.qv;clear hb3 hv3;go_wp2_with fail;refine⟨KK.out _ x3.out,?_⟩;refine a0k (i:=3) (j:=4) (by kernel_rfl) (by rfl) (by rfl) (by rfl) (by rfl) ?_ ?_
   ·go_wp2_with fail;refine (HO _ _ _ (Q1.out.call x3.out) N3.out).out.mono ?_;rintro e w4 ⟨⟨v4,rfl,hv4⟩,hb4⟩;have x4:=hid (a0a x3.out hb4);obtain⟨N,D,rfl,h1,h2⟩:=hv4.ex;obtain⟨a7,c7,rfl,-⟩:=h1.openI;obtain⟨a8,c8,rfl,-⟩:=h2.openI;clear hb4 hv4 h1 h2;go_wp2_with fail;refine⟨KK.out _ x4.out,?_⟩;refine a0b (i:=4) (by kernel_rfl) (by rfl) (by rfl) ?_;go_wp2_with fail;refine⟨KK.out _ (x4.out.alloc x4.out.size _),?_⟩;refine a0b (i:=5) (by kernel_rfl) (by rfl) (by rfl) ?_;go_wp2_with fail;refine⟨KK.out _ (x4.out.alloc x4.out.size _),?_⟩;refine wpAnyH_done (by kernel_rfl) ?_ _;simp only[a0o];go_wp2_with fail
    go_meet
    exact⟨_,_,_,_,_,_,_,rfl,Blk.new w4 _ _,rfl,x4.out.alloc x4.out.size _⟩
   ·go_wp2_with fail;have A3:=hid (x3.out.alloc x3.out.size (.cells #[.bool false,.slice none 0 0,.slice none 0 0] 79));have b3:=hid (Blk.new w3 #[.bool false,.slice none 0 0,.slice none 0 0] 79);have n3:=hid (N3.out.call ((Below.refl _ _).alloc (Nat.le_refl _) (.cells #[.bool false,.slice none 0 0,.slice none 0 0] 79)));refine⟨KK.out _ A3.out,?_⟩;refine a0b (i:=3) (by kernel_rfl) (by rfl) (by rfl) ?_;go_wp2_with fail;refine (HO _ _ _ (Q1.out.call A3.out) n3.out).out.mono ?_;rintro e w4 ⟨⟨v4,rfl,hv4⟩,hb4⟩;have x4:=hid (a0a A3.out hb4);have b4:=hid (b3.out.call hb4);obtain⟨N,D,rfl,h1,h2⟩:=hv4.ex;obtain⟨a7,c7,rfl,-⟩:=h1.openI;obtain⟨a8,c8,rfl,-⟩:=h2.openI;have t0:=b4.out.cell 0;have t1:=b4.out.cell 1;have t2:=b4.out.cell 2;have t3:=b4.out.free 0;have t4:=b4.out.free 1;have t5:=b4.out.free 2;simp at t0 t1 t2;have ge:=hid (show W.heap.size≤w3.heap.size from x3.out.size);obtain⟨k7,hk7⟩:∃ k,(limbs z.num.natAbs).length=k:=⟨_,rfl⟩;obtain⟨k8,hk8⟩:∃ k,(limbs z.den).length=k:=⟨_,rfl⟩;obtain⟨mz,hmz⟩:∃ m,decide (z.num<0)=m:=⟨_,rfl⟩;rw[hk7,hk8,hmz];have HK7:=hid hk7;have HMZ:=hid hmz;clear hb4 hv4 h1 h2 hk7 hk8 hmz;go_wp2_with fail;refine⟨KK.out _ x4.out,?_⟩;refine a0b (i:=5) (by kernel_rfl) (by rfl) (by rfl) ?_;go_wp2_with fail;obtain⟨s1,s2⟩:=b0d b4.out mz a7 a8 k7 c7 k8 c8;have x5:=hid (a0A (a0A (a0A x4.out (i:=0) ge.out (.bool mz)) (i:=1) ge.out (.slice a7 k7 c7)) (i:=2) ge.out (.slice a8 k8 c8));have S2:=hid s2;clear s1 s2 t0 t1 t2 t3 t4 t5;refine⟨KK.out _ x5.out,?_⟩;refine wpAnyH_done (by kernel_rfl) ?_ _;simp only[a0o];go_wp2_with fail
    go_meet
    exact⟨_,_,_,_,_,_,_,rfl,by rw[HMZ.out];exact S2,HK7.out.symm,x5⟩
  ·go_wp2_with fail;have A0:=hid (show Below W.heap.size W (W.alloc (.cells #[.bool false,.slice none 0 0,.slice none 0 0] 79)).drew from ((Below.refl _ _).alloc (Nat.le_refl _) _).drew);have b0:=hid (show Blk (W.alloc (.cells #[.bool false,.slice none 0 0,.slice none 0 0] 79)).drew W.heap.size #[.bool false,.slice none 0 0,.slice none 0 0] 79 from Blk.new W _ _);refine⟨KK.out _ A0.out,?_⟩;refine a0b (i:=2) (by kernel_rfl) (by rfl) (by rfl) ?_;go_wp2_with fail;refine (HG _ _ (Q2.out.call A0.out)).out.mono ?_;rintro e w3 ⟨⟨v3,rfl,hv3⟩,hb3⟩;have x3:=hid (A0.out.trans (hb3.mono A0.out.size));have b3:=hid (b0.out.call hb3);have N3:=hid hv3;obtain⟨m5,a5,n5,c5,a6,n6,c6,rfl⟩:=hv3.qv;clear hb3 hv3;go_wp2_with fail;refine⟨KK.out _ x3.out,?_⟩;refine a0b (i:=3) (by kernel_rfl) (by rfl) (by rfl) ?_;go_wp2_with fail;refine (HO _ _ _ (Q1.out.call x3.out) N3.out).out.mono ?_;rintro e w4 ⟨⟨v4,rfl,hv4⟩,hb4⟩;have x4:=hid (a0a x3.out hb4);have b4:=hid (b3.out.call hb4);obtain⟨N,D,rfl,h1,h2⟩:=hv4.ex;obtain⟨a7,c7,rfl,-⟩:=h1.openI;obtain⟨a8,c8,rfl,-⟩:=h2.openI;have t0:=b4.out.cell 0;have t1:=b4.out.cell 1;have t2:=b4.out.cell 2;have t3:=b4.out.free 0;have t4:=b4.out.free 1;have t5:=b4.out.free 2;simp at t0 t1 t2;have ge:=hid (Nat.le_refl W.heap.size);obtain⟨k7,hk7⟩:∃ k,(limbs z.num.natAbs).length=k:=⟨_,rfl⟩;obtain⟨k8,hk8⟩:∃ k,(limbs z.den).length=k:=⟨_,rfl⟩;obtain⟨mz,hmz⟩:∃ m,decide (z.num<0)=m:=⟨_,rfl⟩;rw[hk7,hk8,hmz];have HK7:=hid hk7;have HMZ:=hid hmz;clear hb4 hv4 h1 h2 hk7 hk8 hmz;go_wp2_with fail;refine⟨KK.out _ x4.out,?_⟩;refine a0b (i:=5) (by kernel_rfl) (by rfl) (by rfl) ?_;go_wp2_with fail;obtain⟨s1,s2⟩:=b0d b4.out mz a7 a8 k7 c7 k8 c8;have x5:=hid (a0A (a0A (a0A x4.out (i:=0) ge.out (.bool mz)) (i:=1) ge.out (.slice a7 k7 c7)) (i:=2) ge.out (.slice a8 k8 c8));have S2:=hid s2;clear s1 s2 t0 t1 t2 t3 t4 t5;refine⟨KK.out _ x5.out,?_⟩;refine wpAnyH_done (by kernel_rfl) ?_ _;simp only[a0o];go_wp2_with fail
   go_meet
   exact⟨_,_,_,_,_,_,_,rfl,by rw[HMZ.out];exact S2,HK7.out.symm,x5⟩
 case rest=>
  obtain⟨g,a5,n5,c5,a6,n6,c6,rfl,hB,hn,hW⟩:=hcut;have r0:=hB.out.cell 0;have r1:=hB.out.cell 1;simp at r0 r1;have yz:=hid (a0a HY.out hW.out);by_cases h1:z.num=0
  ·have es:Hid (i0p z=0):=by show i0p z=0;rw[i0p,if_pos h1]
   obtain rfl:n5=0:=by rw[hn.out,h1];exact d0D.2 rfl
   clear h1;go_wp2_with fail;go_ret
   exact⟨by rw[es.out];rfl,yz.out⟩
  ·have h2:n5≠0:=fun e=>h1 (by rw[hn.out]at e;have:=d0D.1 e;omega)
   have q1:((n5:Int)==0)=false:=by simp;omega
   obtain⟨mm,hmm⟩:∃ m,decide (z.num<0)=m:=⟨_,rfl⟩;have es:i0p z=if mm=true then -1 else 1:=by
    rw[i0p,if_neg h1,← hmm];simp
   have ES:=hid es;rw[hmm]at r0;clear h1 h2 es hmm;cases mm
   all_goals
    go_wp2_with fail;go_ret
    exact⟨by rw[ES.out];rfl,yz.out⟩
open Go.Shelf
theorem p0y {α : Type}{P:Nat→α→Prop}(n:Nat)(h:∀ i,i<n→∃ d,P i d):∃ cs:List α,cs.length=n∧∀ i d,cs[i]?=some d→P i d:=by
 induction n with
 | zero=>exact⟨[],rfl,fun i d hd=>by simp at hd⟩
 | succ n ih=>
  obtain⟨cs,h1,h2⟩:=ih fun i hi=>h i (by omega)
  obtain⟨d,hd⟩:=h n (by omega);refine⟨cs ++ [d],by simp[h1],fun i e he=>?_⟩;by_cases hi:i<n
  ·rw[List.getElem?_append_left (by omega)]at he;exact h2 i e he
  ·have hl:=(List.getElem?_eq_some_iff.1 he).1;simp[h1]at hl;obtain rfl:i=n:=by omega
   rw[List.getElem?_append_right (by omega),h1,Nat.sub_self]at he;simp at he;subst he;exact hd
theorem g0e {cs:List (List Value)}:(∀ c∈cs,c.length=3)→∀ {j:Nat} {u:Value},cs.flatten[j]?=some u→∃ i r c,j=i*3+r∧cs[i]?=some c∧c[r]?=some u:=by
 induction cs with
 | nil=>intro _ j u h;simp at h
 | cons d cs ih=>
  intro h j u hu;have hd:d.length=3:=h d (by simp);rw[List.flatten_cons]at hu;by_cases hj:j<3
  ·rw[List.getElem?_append_left (by omega)]at hu;exact⟨0,j,d,by omega,rfl,hu⟩
  ·rw[List.getElem?_append_right (by omega),hd]at hu;obtain⟨i,r,c,e1,e2,e3⟩:=ih (fun c hc=>h c (by simp[hc])) hu;exact⟨i+1,r,c,by omega,by simpa using e2,e3⟩
structure RCs (W:World)(a:Option Addr)(qs:List Rat)(cs:List (List Value)):Prop where
 ql:QL .i64 W cs qs
 all:∀ d∈cs,d.length=3
 one:∀ u∈cs.flatten,u.oneCell'=true
 at_:∀ (i r:Nat) (d:List Value) (u:Value),cs[i]?=some d→d[r]?=some u→∃ g o,a=some ⟨g,o,none⟩∧g<W.heap.size∧W.cell? ⟨g,o+(i*3+r),none⟩=some u
theorem RRow.cs {W:World}{a:Option Addr}{n c:Nat}{qs:List Rat}(h:RRow W (.slice a n c) qs):∃ cs,RCs W a qs cs:=by
 have key:=p0y (P:=fun i (d:List Value)=>∃ q,qs[i]?=some q∧QC .i64 W d q∧∃ (g o:Nat) (m:Bool) (a1:Option Addr) (n1 c1:Nat) (a2:Option Addr) (n2 c2:Nat),d = [.bool m,.slice a1 n1 c1,.slice a2 n2 c2]∧a=some ⟨g,o,none⟩∧g<W.heap.size∧W.cell? ⟨g,o+i*3,none⟩=some (.bool m)∧W.cell? ⟨g,o+i*3+1,none⟩=some (.slice a1 n1 c1)∧W.cell? ⟨g,o+i*3+2,none⟩=some (.slice a2 n2 c2)) qs.length fun i hi=>by
  obtain⟨g,o,m,a1,n1,c1,a2,n2,c2,e,hg,k0,k1,k2,hQ⟩:=h.at (List.getElem?_eq_getElem hi);exact⟨_,_,List.getElem?_eq_getElem hi,QC.ofI hQ,g,o,m,a1,n1,c1,a2,n2,c2,rfl,e,hg,k0,k1,k2⟩
 obtain⟨cs,h1,h2⟩:=key;have mem:∀ d∈cs,∃ (m:Bool) (a1:Option Addr) (n1 c1:Nat) (a2:Option Addr) (n2 c2:Nat),d = [.bool m,.slice a1 n1 c1,.slice a2 n2 c2]:=fun d hd=>by
  obtain⟨i,hi⟩:=List.getElem?_of_mem hd;obtain⟨q,-,-,g,o,m,a1,n1,c1,a2,n2,c2,e,-⟩:=h2 i d hi;exact⟨m,a1,n1,c1,a2,n2,c2,e⟩
 refine⟨cs,⟨h1,fun i q hq=>?_⟩,fun d hd=>?_,fun u hu=>?_,fun i r d u hd hu=>?_⟩
 ·have hi:=(List.getElem?_eq_some_iff.1 hq).1;obtain⟨q',e,hc,-⟩:=h2 i _ (List.getElem?_eq_getElem (by omega));rw[hq]at e;cases e
  exact⟨_,List.getElem?_eq_getElem (by omega),hc⟩
 ·obtain⟨m,a1,n1,c1,a2,n2,c2,rfl⟩:=mem d hd
  rfl
 ·obtain⟨d,hd,hu⟩:=List.mem_flatten.1 hu;obtain⟨m,a1,n1,c1,a2,n2,c2,rfl⟩:=mem d hd;simp at hu;rcases hu with rfl | rfl | rfl<;>rfl
 ·obtain⟨q,-,-,g,o,m,a1,n1,c1,a2,n2,c2,rfl,e,hg,k0,k1,k2⟩:=h2 i d hd;refine⟨g,o,e,hg,?_⟩
  match r,hu with
  | 0,hu=>simp at hu;subst hu;exact k0
  | 1,hu=>simp at hu;subst hu;exact k1
  | 2,hu=>simp at hu;subst hu;exact k2
  | r+3,hu=>simp at hu
theorem RRow.of_owns {W:World}{base n:Nat}{v:Value}{cs:List (List Value)}{qs:List Rat}(h:W.ownsRow base 79 3 v n cs.flatten)(hq:QL .i64 W cs qs)(ha:∀ d∈cs,d.length=3)(hn:n=qs.length):RRow W v qs:=by
 subst hn;rcases h.2 with ⟨e,h0⟩ | ⟨g,cap,cur,e,hb,hg,h1,h2,h3,h4⟩
 ·subst e;have:qs = []:=List.eq_nil_of_length_eq_zero h0;subst this;exact RRow.nil W
 ·subst e;refine⟨_,cap,rfl,h1,by unfold maxLen at h2;omega,fun i q hqi=>?_⟩;obtain⟨d,hd,hc⟩:=hq.at_ i q hqi;obtain⟨a1,n1,c1,a2,n2,c2,rfl,hQ⟩:=hc.ex;have hx:=fun (j:Nat) (x:Value) (hj:[Value.bool (decide (q.num<0)),.slice a1 n1 c1,.slice a2 n2 c2][j]?=some x)=>h.cells (g:=g) rfl _ _ (i0Q ha hd hj)
  refine⟨g,0,_,a1,n1,c1,a2,n2,c2,rfl,(Array.getElem?_eq_some_iff.1 hg).1,?_,?_,?_,hQ⟩
  ·have:=hx 0 _ rfl;rwa[Addr.add_lit]at this
  ·have:=hx 1 _ rfl;rwa[Addr.add_lit,← Nat.add_assoc]at this
  ·have:=hx 2 _ rfl;rwa[Addr.add_lit,← Nat.add_assoc]at this
theorem QL.drop {k:IntKind}{W:World}{cs:List (List Value)}{qs:List Rat}(h:QL k W cs qs)(n:Nat):QL k W (cs.drop n) (qs.drop n):=by
 refine⟨by simp[h.len],fun j x hx=>?_⟩;rw[List.getElem?_drop]at hx ⊢;exact h.at_ _ x hx
theorem QL.app {k:IntKind}{W:World}{cs ds:List (List Value)}{ps qs:List Rat}(h:QL k W cs ps)(h2:QL k W ds qs):QL k W (cs++ds) (ps++qs):=by
 refine⟨by simp[h.len,h2.len],fun i x hx=>?_⟩;by_cases hi:i<ps.length
 ·rw[List.getElem?_append_left hi]at hx;rw[List.getElem?_append_left (by rw[h.len];exact hi)];exact h.at_ i x hx
 ·rw[List.getElem?_append_right (by omega)]at hx;rw[List.getElem?_append_right (by rw[h.len];omega),h.len];exact h2.at_ _ x hx
theorem e0f {cs:List (List Value)}:(∀ c∈cs,c.length=3)→cs.flatten.length=cs.length*3:=by
 induction cs with
 | nil=>intro _;rfl
 | cons d cs ih=>
  intro h;rw[List.flatten_cons,List.length_append,ih (fun c hc=>h c (by simp[hc])),h d (by simp),List.length_cons];omega
theorem a0C {w X:World}{B:Nat}{t:TypeId}(hB:X.heap.size=B)(h:w.heap.size≤X.heap.size):(X.alloc (.cells #[] t)).ownsRow w.heap.size t 3 (.slice (some ⟨B,0,none⟩) 0 0) 0 []:=by subst hB;exact World.ownsRow_made _ _ 0 h (by unfold maxLen;omega) rfl
theorem f0E {W:World}{B:Nat}{x y z:Value}{t:TypeId}{fr:Nat×Nat}(h:W.heap[B]?=some (.cells #[x,y,z] t fr)):∀ (j:Nat) (u:Value),[x,y,z][j]?=some u→∃ ad,some (⟨B,0,none⟩:Addr)=some ad∧W.cell? (ad.add j)=some u:=fun j u hu=>⟨_,rfl,World.news_of_block h j u hu⟩
theorem l0y {L:List Rat}{q:Rat}{k:Nat}(hk:k≤L.length)(h1:∀ j e,j<k→(a0r (fun q=>q) L)[j]?=some e→q≤e)(h2:k=L.length∨∃ e,(a0r (fun q=>q) L)[k]?=some e∧e<q):(a0r (fun q=>q) L).take k++q::(a0r (fun q=>q) L).drop k=a0r (fun q=>q) (L ++ [q]):=by
 rw[d0L];have hl:(a0r (fun q=>q) L).length=L.length:=a0N _ L;refine g0T (key:=fun q:Rat=>q) (by omega) (fun e he=>?_) (fun i y hi hy=>?_)
 ·rcases h2 with rfl | ⟨e0,he0,hlt⟩
  ·rw[← hl,List.drop_length]at he;cases he
  ·obtain⟨i,hi⟩:=List.getElem?_of_mem he;rw[List.getElem?_drop]at hi;have hd:=f0v (fun q:Rat=>q) L;rcases Nat.eq_zero_or_pos i with rfl | hp
   ·rw[Nat.add_zero,he0]at hi;cases hi;exact hlt
   ·obtain⟨l1,l2⟩:=List.getElem?_eq_some_iff.1 hi;obtain⟨l3,l4⟩:=List.getElem?_eq_some_iff.1 he0;have:=List.pairwise_iff_getElem.1 hd k (k+i) l3 l1 (by omega);rw[l2,l4]at this;show e<q
    exact Std.lt_of_le_of_lt this hlt
 ·have:=h1 i y (by omega) hy;show ¬ y<q
  grind
theorem h0C {p q:Rat}:0≤d0V p q↔q≤p:=by
 have:=c0M (p:=p) (q:=q)
 constructor
 ·intro h;have h2:¬ p<q:=fun e=>by have:=this.2 e;omega
  grind
 ·intro h;apply Classical.byContradiction
  intro hn;have:=this.1 (by omega)
  grind
theorem j0t (w:World)(v:Value)(qs:List Rat)(hv:RRow w v qs)(hl:qs.length≤12)(hd:∀ q∈qs,Dig 4000 q):
 Calls Tryz.prog 86 #[v] w fun e w'=>(∃ u,e=.returned u∧RRow w' u (a0r (fun q=>q) qs))∧Below w.heap.size w w':=by
 obtain⟨i0,hi,hz0,hz1,hz2⟩:=info_parts g0b;have HV:=hid hv;have HD:=hid hd;obtain⟨aV,cV,rfl,c1,c2⟩:=hv.slice;obtain⟨n,hn⟩:∃ n,qs.length=n:=⟨_,rfl⟩;have HN:=hid hn;rw[hn]at c1 HV hl ⊢;have HN12:=hid hl;have HO:=fun V v u (p q:Rat) (hp:p∈qs) (hq:q∈qs) h1 h2=>hid (b0V V v u p q h1 h2 (hd p hp) (hd q hq))
 clear hv hd hn hl;go_enter Tryz.func86,Tryz.ntmps86;go_wp2_with fail
 go_loopw [3,4,5] (fun s3 s4 s5 wr=>∃ i:Nat,s4=.int .i64 (i:Nat)∧i≤n∧Hid (RRow wr s3 (a0r (fun q=>q) (qs.take i)))∧Hid (Below w.heap.size w wr)) (fun s3 s4 s5 wr=>n-(intOf s4).toNat)
 case atStart=>exact⟨0,rfl,Nat.zero_le _,RRow.nil _,Below.refl _ _⟩
 case round=>
  obtain⟨i,rfl,hi1,hR,hB⟩:=hrel;by_cases hlt:i<n
  ·obtain⟨x,hx⟩:∃ x,qs[i]?=some x:=⟨_,List.getElem?_eq_getElem (by rw[HN.out];exact hlt)⟩;have HX:=hid hx;have I12:=hid (show i≤12 by have:=HN12.out;omega);have HLT:=hid hlt;have hxm:=List.mem_of_getElem? hx;have HTK:=hid (show qs.take (i+1)=qs.take i ++ [x] by rw[List.take_add_one,hx];rfl);have hLm:∀ e∈a0r (fun q=>q) (qs.take i),e∈qs:=fun e he=>List.mem_of_mem_take ((a0I _ _).mem_iff.1 he)
   have hLL:(a0r (fun q=>q) (qs.take i)).length=i:=by rw[a0N,List.length_take,HN.out];omega
   have INS:=hid (fun (k:Nat) h1 h2 h3=>l0y (L:=qs.take i) (q:=x) (k:=k) h1 h2 h3);have HTL:=hid (show (qs.take i).length=i by rw[List.length_take,HN.out];omega);obtain⟨L,hL⟩:∃ L,a0r (fun q=>q) (qs.take i)=L:=⟨_,rfl⟩;rw[hL]at hLm hLL hR INS;have HLM:=hid hLm;have HLL:=hid hLL;obtain⟨a,c,rfl,r1,r2⟩:=hR.out.slice;rw[hLL]at r1 hR ⊢;obtain⟨cs,hcs⟩:=hR.out.cs;have HCS:=hid hcs;have HR:=hid hR.out;obtain⟨go,oo,mx,ax,nx,kx,bx,ox,lx,rfl,hgo,k0,k1,k2,hQx⟩:=HV.out.at hx;have HGO:=hid hgo;have QX:=hid hQx;have KX:Hid (∀ V,Below wr.heap.size wr V→V.cell? ⟨go,oo+i*3,none⟩=some (.bool mx)∧V.cell? ⟨go,oo+i*3+1,none⟩=some (.slice ax nx kx)∧V.cell? ⟨go,oo+i*3+2,none⟩=some (.slice bx ox lx)):=fun V h=>⟨((a0a hB.out h).cell (p:=⟨go,_,none⟩) hgo).trans k0,((a0a hB.out h).cell (p:=⟨go,_,none⟩) hgo).trans k1,((a0a hB.out h).cell (p:=⟨go,_,none⟩) hgo).trans k2⟩
   have HOx:=hid (fun V v u (p:Rat) (hp:p∈qs) h1 h2=>HO V v u p x hp hxm h1 h2);have b1:(0:Int)≤(i:Int):=by omega
   have b2:(i:Int)<(n:Int):=by omega
   have wi:IntKind.i64.wrap ((i:Int)+1)=((i+1:Nat):Int):=by have:=HN12.out;rw[IntWalk.i64_in _ ⟨by omega,by omega⟩];omega
   obtain⟨wo,hwo⟩:∃ q,q=wr:=⟨_,rfl⟩;subst hwo;clear hx hlt hxm hLm hLL hL k0 k1 k2 hi1 hcs hR hQx hgo;go_wp2_with fail
   go_loopw [5] (fun s5 wr=>∃ k:Nat,s5=.int .i64 (k:Nat)∧k≤i∧Hid (∀ (j:Nat) (e:Rat),j<k→L[j]?=some e→x≤e)∧Hid (Below wo.heap.size wo wr)) (fun s5 wr=>i-(intOf s5).toNat)
   case atStart=>exact⟨0,rfl,Nat.zero_le _,fun j e hj=>absurd hj (by omega),Below.refl _ _⟩
   case round=>
    obtain⟨k,rfl,hk,hI,hBk⟩:=hrel;by_cases hki:k<i
    ·obtain⟨e,he⟩:∃ x,L[k]?=some x:=⟨_,List.getElem?_eq_getElem (by rw[HLL.out];exact hki)⟩;have HE:=hid he;obtain⟨g,o2,me,ae,ne,ke,be,oe,le,rfl,hg,k0,k1,k2,hQe⟩:=HR.out.at he;have PE:=fun V v u h1 h2=>HOx.out V v u e (HLM.out e (List.mem_of_getElem? he)) h1 h2
     have QE:=hid hQe;have HZC:=hid (h0C (p:=e) (q:=x));obtain⟨B,hBB⟩:∃ B,d0V e x=B:=⟨_,rfl⟩;rw[hBB]at PE HZC;have KK:Hid (∀ V,Below wr.heap.size wr V→(V.cell? ⟨g,o2+k*3,none⟩=some (.bool me)∧V.cell? ⟨g,o2+k*3+1,none⟩=some (.slice ae ne ke)∧V.cell? ⟨g,o2+k*3+2,none⟩=some (.slice be oe le))∧(V.cell? ⟨go,oo+i*3,none⟩=some (.bool mx)∧V.cell? ⟨go,oo+i*3+1,none⟩=some (.slice ax nx kx)∧V.cell? ⟨go,oo+i*3+2,none⟩=some (.slice bx ox lx))):=fun V h=>⟨⟨((a0a hBk.out h).cell (p:=⟨g,_,none⟩) hg).trans k0,((a0a hBk.out h).cell (p:=⟨g,_,none⟩) hg).trans k1,((a0a hBk.out h).cell (p:=⟨g,_,none⟩) hg).trans k2⟩,KX.out V (a0a hBk.out h)⟩
     have d0:decide ((k:Int)<(i:Int))=true:=decide_eq_true (by omega);have d0':decide (k<i)=true:=decide_eq_true hki;have d1:(0:Int)≤(k:Int):=by omega
     have d2:(k:Int)<(i:Int):=by omega
     have wk:IntKind.i64.wrap ((k:Int)+1)=((k+1:Nat):Int):=by rw[IntWalk.i64_in _ ⟨by omega,by omega⟩];omega
     have HG:=hid hg;have HKI:=hid hki;clear he hBB k0 k1 k2 hg hQe;go_wp2_with fail;refine a0f [0,1,2,3,4,5,6,7,8,9,10,11,12] 3 (fun V=>(V.cell? ⟨g,o2+k*3,none⟩=some (.bool me)∧V.cell? ⟨g,o2+k*3+1,none⟩=some (.slice ae ne ke)∧V.cell? ⟨g,o2+k*3+2,none⟩=some (.slice be oe le))∧(V.cell? ⟨go,oo+i*3,none⟩=some (.bool mx)∧V.cell? ⟨go,oo+i*3+1,none⟩=some (.slice ax nx kx)∧V.cell? ⟨go,oo+i*3+2,none⟩=some (.slice bx ox lx))) (by kernel_rfl) (by kernel_rfl) (by kernel_rfl) (by kernel_rfl) (KK.out _ (Below.refl _ _).drew) ?_
     iterate 13
      refine⟨_,rfl,?_⟩;apply Exists.intro
      refine⟨.inl ⟨by rfl,?_⟩,?_⟩
      ·(intro W' hW';obtain⟨⟨z1,z2,z3⟩,z4,z5,z6⟩:=hW';go_simp;try (with_reducible rfl))
      (dsimp only[Act.put];try simp only[List.setIfInBounds_toArray,List.set_cons_zero,List.set_cons_succ])
     refine b0r (i:=13) (by kernel_rfl) (by rfl) (by rfl) ?_;go_wp2_with fail;refine (PE _ _ _ (QE.out.call (a0a hBk.out (Below.refl _ _).drew)) (QX.out.call (a0a hB.out (a0a hBk.out (Below.refl _ _).drew)))).out.mono ?_;rintro e9 w9 ⟨rfl,hb9⟩;have x9:=hid (show Below wr.heap.size wr w9 from (Below.refl _ _).drew.trans hb9);clear hb9;by_cases hB0:x≤e
     ·have q0:decide (0≤B)=true:=decide_eq_true (HZC.out.2 hB0);have HBB:=hid hB0;clear hB0;go_wp2_with fail;refine⟨KK.out _ x9.out,?_⟩;refine a0d (is:=[14,15]) (g:=0) (by kernel_rfl) rfl (KK.out _ x9.out) (by kernel_rfl) ?_
      iterate 2
       refine⟨_,rfl,?_⟩;apply Exists.intro
       refine⟨.inl ⟨by rfl,?_⟩,?_⟩
       ·(intro W' hW';obtain⟨⟨z1,z2,z3⟩,z4,z5,z6⟩:=hW';go_simp;try (with_reducible rfl))
       (dsimp only[Act.put];try simp only[List.setIfInBounds_toArray,List.set_cons_zero,List.set_cons_succ])
      refine wpAnyH_done (by kernel_rfl) ?_ _;simp only[a0o];go_wp2_with fail;go_roundw
      case rel=>exact⟨k+1,by go_num,by omega,fun j y hj hy=>by
       rcases Nat.lt_or_ge j k with h | h
       ·exact hI.out j y h hy
       ·obtain rfl:j=k:=by omega
        rw[HE.out]at hy;cases hy
        exact HBB.out,a0a hBk.out x9.out⟩
      case measure=>simp[intOf]<;>omega
     ·have q0:decide (0≤B)=false:=decide_eq_false (fun h=>hB0 (HZC.out.1 h));have HBB:=hid (show e<x by grind);clear hB0;go_wp2_with fail;refine⟨KK.out _ x9.out,?_⟩;refine a0d (is:=[14,15]) (g:=0) (by kernel_rfl) rfl (KK.out _ x9.out) (by kernel_rfl) ?_
      iterate 2
       refine⟨_,rfl,?_⟩;apply Exists.intro
       refine⟨.inl ⟨by rfl,?_⟩,?_⟩
       ·(intro W' hW';obtain⟨⟨z1,z2,z3⟩,z4,z5,z6⟩:=hW';go_simp;try (with_reducible rfl))
       (dsimp only[Act.put];try simp only[List.setIfInBounds_toArray,List.set_cons_zero,List.set_cons_succ])
      refine wpAnyH_done (by kernel_rfl) ?_ _;simp only[a0o];obtain⟨wz,hwz⟩:∃ q,q=w9:=⟨_,rfl⟩;subst hwz;have ZW:=hid (a0a hBk.out x9.out);have BZ:=hid (a0a hB.out ZW.out);have KS:Hid (∀ V,Below wz.heap.size wz V→V.cell? ⟨go,oo+i*3,none⟩=some (.bool mx)∧V.cell? ⟨go,oo+i*3+1,none⟩=some (.slice ax nx kx)∧V.cell? ⟨go,oo+i*3+2,none⟩=some (.slice bx ox lx)):=fun V h=>KX.out V (a0a ZW.out h)
      have SRC1:Hid (∀ W,Below wz.heap.size wz W→∀ j u,(cs.take k).flatten[j]?=some u→∃ ad,some (⟨g,o2,none⟩:Addr)=some ad∧W.cell? (ad.add j)=some u):=fun W hW j u hu=>by
       obtain⟨i9,r9,d9,e1,e2,e3⟩:=g0e (fun d hd=>HCS.out.all d (List.mem_of_mem_take hd)) hu;rw[List.getElem?_take]at e2
       split at e2
       ·obtain⟨g',o',e',hg',hc⟩:=HCS.out.at_ i9 r9 d9 u e2 e3;refine⟨_,e',?_⟩;rw[Addr.add_lit,e1];exact ((a0a ZW.out hW).cell (p:=⟨g',_,none⟩) hg').trans hc
       ·cases e2
      have SRC2:Hid (∀ W,Below wz.heap.size wz W→∀ j u,(cs.drop k).flatten[j]?=some u→∃ ad,some (⟨g,o2+k*3,none⟩:Addr)=some ad∧W.cell? (ad.add j)=some u):=fun W hW j u hu=>by
       obtain⟨i9,r9,d9,e1,e2,e3⟩:=g0e (fun d hd=>HCS.out.all d (List.mem_of_mem_drop hd)) hu;rw[List.getElem?_drop]at e2;obtain⟨g',o',e',hg',hc⟩:=HCS.out.at_ _ r9 d9 u e2 e3;simp only[Option.some.injEq,Addr.mk.injEq,and_true]at e';obtain⟨rfl,rfl⟩:=e';refine⟨_,rfl,?_⟩;rw[Addr.add_lit,e1,show o2+k*3+(i9*3+r9)=o2+((k+i9)*3+r9) by omega];exact ((a0a ZW.out hW).cell (p:=⟨g,_,none⟩) hg').trans hc
      have ASN:Hid (a0r (fun q=>q) (qs.take (i+1))=L.take k++x::L.drop k):=by show _=_;rw[HTK.out];exact (INS.out k (by rw[HTL.out];omega) hI.out (.inr ⟨e,HE.out,HBB.out⟩)).symm
      have SL1:Hid ((cs.take k).flatten.length=k*3):=by show _=_;rw[e0f (fun d hd=>HCS.out.all d (List.mem_of_mem_take hd)),List.length_take,HCS.out.ql.len,HLL.out,Nat.min_eq_left (by omega)]
      have SL2:Hid ((cs.drop k).flatten.length=(i-k)*3):=by show _=_;rw[e0f (fun d hd=>HCS.out.all d (List.mem_of_mem_drop hd)),List.length_drop,HCS.out.ql.len,HLL.out]<;>omega
      have ON1:=hid (show ∀ u∈(cs.take k).flatten,u.oneCell'=true from fun u hu=>HCS.out.one u (by obtain⟨d,hd,hu⟩:=List.mem_flatten.1 hu;exact List.mem_flatten.2 ⟨d,List.mem_of_mem_take hd,hu⟩));have ON2:=hid (show ∀ u∈(cs.drop k).flatten,u.oneCell'=true from fun u hu=>HCS.out.one u (by obtain⟨d,hd,hu⟩:=List.mem_flatten.1 hu;exact List.mem_flatten.2 ⟨d,List.mem_of_mem_drop hd,hu⟩))
      have QLN:=hid (show ∀ W,Below wz.heap.size wz W→QL .i64 W (cs.take k ++ [[.bool mx,.slice ax nx kx,.slice bx ox lx]]++cs.drop k) (L.take k++x::L.drop k) from fun W hW=>by
       have h1:=HCS.out.ql.call (a0a ZW.out hW);have h2:=QC.ofI (QX.out.call (a0a hB.out (a0a ZW.out hW)));rw[show L.take k++x::L.drop k=L.take k ++ [x]++L.drop k by simp];exact ((h1.take k).snoc h2).app (h1.drop k))
      have ALN:=hid (show ∀ d∈cs.take k ++ [[.bool mx,.slice ax nx kx,.slice bx ox lx]]++cs.drop k,d.length=3 from fun d hd=>by
       rcases List.mem_append.1 hd with hd | hd
       ·rcases List.mem_append.1 hd with hd | hd
        ·exact HCS.out.all d (List.mem_of_mem_take hd)
        ·rw[List.mem_singleton]at hd;rw[hd];rfl
       ·exact HCS.out.all d (List.mem_of_mem_drop hd))
      have MZ2:Hid (((wz.alloc (.cells #[] 79)).alloc (.cells #[.bool mx,.slice ax nx kx,.slice bx ox lx] 79)).drew.heap[wz.heap.size+1]?=some (.cells #[.bool mx,.slice ax nx kx,.slice bx ox lx] 79 (0,0))):=by
       have:=heap_alloc_new (wz.alloc (.cells #[] 79)) (.cells #[.bool mx,.slice ax nx kx,.slice bx ox lx] 79);rw[show (wz.alloc (.cells #[] 79)).heap.size=wz.heap.size+1 from by simp]at this;exact this
      have MZ3:Hid (((wz.alloc (.cells #[.bool mx,.slice ax nx kx,.slice bx ox lx] 79)).alloc (.cells #[] 79)).drew.heap[wz.heap.size]?=some (.cells #[.bool mx,.slice ax nx kx,.slice bx ox lx] 79 (0,0))):=(heap_alloc_old (wz.alloc (.cells #[.bool mx,.slice ax nx kx,.slice bx ox lx] 79)) (.cells #[] 79) (by simp)).trans (heap_alloc_new wz (.cells #[.bool mx,.slice ax nx kx,.slice bx ox lx] 79));have e1:(k:Int)≤(c:Int):=by omega
      have e2:(k:Int)≤(i:Int):=by omega
      have e3:(i:Int)≤(c:Int):=by omega
      have e4:¬ c=k:=by omega
      clear d0 d0' KK x9 wk;go_wp2_with fail
      go_region_held3 (fun V=>V.cell? ⟨go,oo+i*3,none⟩=some (.bool mx)∧V.cell? ⟨go,oo+i*3+1,none⟩=some (.slice ax nx kx)∧V.cell? ⟨go,oo+i*3+2,none⟩=some (.slice bx ox lx))
       (first
        | exact KS.out _ B3.out
        | exact KS.out _ B2.out
        | exact KS.out _ (B1.out.alloc B1.out.size _)
        | exact KS.out _ B1.out
        | exact KS.out _ (Below.refl _ _).drew
        | exact KS.out _ ((Below.refl _ _).alloc (Nat.le_refl _) _).drew
        | exact KS.out _ (((Below.refl _ _).alloc (Nat.le_refl _) _).alloc (by simp) _).drew)
       (first
        | (refine a0v _ rfl _ _ _ rfl wz.heap.size 79 i0 (.agg #[.bool false,.slice none 0 0,.slice none 0 0]) 3 56 Tryz.underlying104 hi hz0 hz1 hz2 rfl (by decide) (.slice (some ⟨_,0,none⟩) 0 0) 0 [] rfl (by first | exact (a0C rfl (Nat.le_refl _)).drew | exact ((a0C rfl (Nat.le_refl _)).alloc _).drew | exact (a0C (by simp) (by simp)).drew) (by intro e;cases e) (some ⟨g,o2,none⟩) k c (cs.take k).flatten rfl SL1.out (SRC1.out _ (by first | exact ((Below.refl _ _).alloc (Nat.le_refl _) _).drew | exact (((Below.refl _ _).alloc (Nat.le_refl _) _).alloc (by simp) _).drew)) ON1.out (by have:=I12.out;unfold maxLen;omega) (by have:=I12.out;omega) (by simp<;>omega) ?_;intro v1 w1 hown1 hg1 hne1;have B1:Hid (Below wz.heap.size wz w1):=a0W (w0:=wz) (w3:=w1) (by first | exact (a0C rfl (Nat.le_refl _)).drew | exact ((a0C rfl (Nat.le_refl _)).alloc _).drew | exact (a0C (by simp) (by simp)).drew) (by first | exact ((Below.refl _ _).alloc (Nat.le_refl _) _).drew | exact (((Below.refl _ _).alloc (Nat.le_refl _) _).alloc (by simp) _).drew) hg1;have O1:=hid (show w1.ownsRow wz.heap.size 79 3 v1 k (cs.take k).flatten from by rw[Nat.zero_add]at hown1;exact hown1);have NE1:=hid hne1;have HG1:=hid hg1;clear hown1 hg1 hne1)
        | (refine a0v _ rfl _ _ _ rfl wz.heap.size 79 i0 (.agg #[.bool false,.slice none 0 0,.slice none 0 0]) 3 56 Tryz.underlying104 hi hz0 hz1 hz2 rfl (by decide) v1 k _ rfl (by first | exact O1.out | exact O1.out.alloc _) NE1.out (some ⟨_,0,none⟩) 1 1 [.bool mx,.slice ax nx kx,.slice bx ox lx] rfl rfl (f0E (by first | exact heap_alloc_new _ _ | exact (HG1.out.block (wz.heap.size+1) (by simp<;>omega) (by simp[Value.ownBlock])).trans MZ2.out | exact (HG1.out.block wz.heap.size (by simp<;>omega) (by simp[Value.ownBlock])).trans MZ3.out)) (by simp[Value.oneCell']) (by have:=I12.out;unfold maxLen;omega) (by have:=I12.out;omega) (by first | exact B1.out.size | exact (B1.out.alloc B1.out.size _).size) ?_;intro v2 w2 hown2 hg2 hne2;have B2:Hid (Below wz.heap.size wz w2):=a0W (w0:=wz) (w3:=w2) (by first | exact O1.out | exact O1.out.alloc _) (by first | exact B1.out | exact B1.out.alloc B1.out.size _) hg2;have O2:=hid hown2;have NE2:=hid hne2;clear hown2 hg2 hne2)
        | (refine a0v _ rfl _ _ _ rfl wz.heap.size 79 i0 (.agg #[.bool false,.slice none 0 0,.slice none 0 0]) 3 56 Tryz.underlying104 hi hz0 hz1 hz2 rfl (by decide) v2 (k+1) _ rfl O2.out NE2.out (some ⟨g,o2+k*3,none⟩) (i-k) (c-k) (cs.drop k).flatten rfl SL2.out (SRC2.out _ B2.out) ON2.out (by have:=I12.out;unfold maxLen;omega) (by have:=I12.out;omega) (by exact B2.out.size) ?_;intro v3 w3 hown3 hg3 hne3;have O3:=hid hown3;have B3:Hid (Below wz.heap.size wz w3):=a0W (w0:=wz) (w3:=w3) O2.out B2.out hg3;clear hown3 hg3 hne3))
      all_goals
       have OF:=O3.out
       have RN:=hid (show RRow w3 v3 (a0r (fun q=>q) (qs.take (i+1))) by
        rw[ASN.out];refine RRow.of_owns (cs:=cs.take k ++ [[.bool mx,.slice ax nx kx,.slice bx ox lx]]++cs.drop k) (by rw[List.flatten_append,List.flatten_append];exact OF) (QLN.out _ B3.out) ALN.out (by rw[List.length_append,List.length_cons,List.length_take,List.length_drop,HLL.out];omega))
       clear OF;go_wp2_with fail;go_roundw
       case rel=>exact⟨i+1,by go_num,by omega,RN,a0a BZ.out B3.out⟩
       case measure=>simp[intOf]<;>omega
    ·obtain rfl:k=i:=by omega
     have GD:=hid (Below.drew (Below.refl wr.heap.size wr));go_wp2_with fail;refine a0f [0,1,2,3,4,5,6,7,8,9,10,11,12,13,14,15] 0 (fun _=>True) (by kernel_rfl) (by kernel_rfl) (by kernel_rfl) (by kernel_rfl) trivial ?_
     iterate 16
      refine⟨_,rfl,?_⟩;apply Exists.intro
      first
       | (refine⟨.inl ⟨by rfl,?_⟩,?_⟩
          ·(intro W' hW';clear hW';go_simp;try (with_reducible rfl)))
       | refine⟨.inr ⟨by rfl,rfl⟩,?_⟩
      (dsimp only[Act.put];try simp only[List.setIfInBounds_toArray,List.set_cons_zero,List.set_cons_succ])
     refine wpAnyH_done (by kernel_rfl) ?_ _;simp only[a0o];have ZW0:=hid (a0a hBk.out GD.out);obtain⟨wz,hwz⟩:∃ q,wr.drew=q:=⟨_,rfl⟩;rw[hwz]at ZW0 ⊢;have ZW:=hid ZW0.out;have BZ:=hid (a0a hB.out ZW.out);have KS:Hid (∀ V,Below wz.heap.size wz V→V.cell? ⟨go,oo+k*3,none⟩=some (.bool mx)∧V.cell? ⟨go,oo+k*3+1,none⟩=some (.slice ax nx kx)∧V.cell? ⟨go,oo+k*3+2,none⟩=some (.slice bx ox lx)):=fun V h=>KX.out V (a0a ZW.out h)
     have SRC1:Hid (∀ W,Below wz.heap.size wz W→∀ j u,(cs.take k).flatten[j]?=some u→∃ ad,a=some ad∧W.cell? (ad.add j)=some u):=fun W hW j u hu=>by
      obtain⟨i9,r9,d9,e1,e2,e3⟩:=g0e (fun d hd=>HCS.out.all d (List.mem_of_mem_take hd)) hu;rw[List.getElem?_take]at e2
      split at e2
      ·obtain⟨g',o',e',hg',hc⟩:=HCS.out.at_ i9 r9 d9 u e2 e3;refine⟨_,e',?_⟩;rw[Addr.add_lit,e1];exact ((a0a ZW.out hW).cell (p:=⟨g',_,none⟩) hg').trans hc
      ·cases e2
     have DN:Hid (cs.drop k = []):=List.drop_eq_nil_of_le (by rw[HCS.out.ql.len,HLL.out];exact Nat.le_refl _);have SRC2:Hid (∀ (ao:Option Addr) W,Below wz.heap.size wz W→∀ j u,(cs.drop k).flatten[j]?=some u→∃ ad,ao=some ad∧W.cell? (ad.add j)=some u):=fun ao W hW j u hu=>by
      rw[DN.out]at hu;simp at hu
     have ASN:Hid (a0r (fun q=>q) (qs.take (k+1))=L.take k++x::L.drop k):=by show _=_;rw[HTK.out];exact (INS.out k (by rw[HTL.out];exact Nat.le_refl _) hI.out (.inl HTL.out.symm)).symm
     have SL1:Hid ((cs.take k).flatten.length=k*3):=by show _=_;rw[e0f (fun d hd=>HCS.out.all d (List.mem_of_mem_take hd)),List.length_take,HCS.out.ql.len,HLL.out,Nat.min_eq_left (by omega)]
     have SL2:Hid ((cs.drop k).flatten.length=0*3):=by show _=_;rw[e0f (fun d hd=>HCS.out.all d (List.mem_of_mem_drop hd)),List.length_drop,HCS.out.ql.len,HLL.out]<;>omega
     have ON1:=hid (show ∀ u∈(cs.take k).flatten,u.oneCell'=true from fun u hu=>HCS.out.one u (by obtain⟨d,hd,hu⟩:=List.mem_flatten.1 hu;exact List.mem_flatten.2 ⟨d,List.mem_of_mem_take hd,hu⟩));have ON2:=hid (show ∀ u∈(cs.drop k).flatten,u.oneCell'=true from fun u hu=>HCS.out.one u (by obtain⟨d,hd,hu⟩:=List.mem_flatten.1 hu;exact List.mem_flatten.2 ⟨d,List.mem_of_mem_drop hd,hu⟩))
     have QLN:=hid (show ∀ W,Below wz.heap.size wz W→QL .i64 W (cs.take k ++ [[.bool mx,.slice ax nx kx,.slice bx ox lx]]++cs.drop k) (L.take k++x::L.drop k) from fun W hW=>by
      have h1:=HCS.out.ql.call (a0a ZW.out hW);have h2:=QC.ofI (QX.out.call (a0a hB.out (a0a ZW.out hW)));rw[show L.take k++x::L.drop k=L.take k ++ [x]++L.drop k by simp];exact ((h1.take k).snoc h2).app (h1.drop k))
     have ALN:=hid (show ∀ d∈cs.take k ++ [[.bool mx,.slice ax nx kx,.slice bx ox lx]]++cs.drop k,d.length=3 from fun d hd=>by
      rcases List.mem_append.1 hd with hd | hd
      ·rcases List.mem_append.1 hd with hd | hd
       ·exact HCS.out.all d (List.mem_of_mem_take hd)
       ·rw[List.mem_singleton]at hd;rw[hd];rfl
      ·exact HCS.out.all d (List.mem_of_mem_drop hd))
     have MZ2:Hid (((wz.alloc (.cells #[] 79)).alloc (.cells #[.bool mx,.slice ax nx kx,.slice bx ox lx] 79)).drew.heap[wz.heap.size+1]?=some (.cells #[.bool mx,.slice ax nx kx,.slice bx ox lx] 79 (0,0))):=by
      have:=heap_alloc_new (wz.alloc (.cells #[] 79)) (.cells #[.bool mx,.slice ax nx kx,.slice bx ox lx] 79);rw[show (wz.alloc (.cells #[] 79)).heap.size=wz.heap.size+1 from by simp]at this;exact this
     have MZ3:Hid (((wz.alloc (.cells #[.bool mx,.slice ax nx kx,.slice bx ox lx] 79)).alloc (.cells #[] 79)).drew.heap[wz.heap.size]?=some (.cells #[.bool mx,.slice ax nx kx,.slice bx ox lx] 79 (0,0))):=(heap_alloc_old (wz.alloc (.cells #[.bool mx,.slice ax nx kx,.slice bx ox lx] 79)) (.cells #[] 79) (by simp)).trans (heap_alloc_new wz (.cells #[.bool mx,.slice ax nx kx,.slice bx ox lx] 79));have e1:(k:Int)≤(c:Int):=by omega
     have e2:(k:Int)≤(k:Int):=by omega
     have e5:=HLT.out;clear hki ZW0 hwz GD;cases a
     ·go_wp2_with fail
      go_region_held3 (fun V=>V.cell? ⟨go,oo+k*3,none⟩=some (.bool mx)∧V.cell? ⟨go,oo+k*3+1,none⟩=some (.slice ax nx kx)∧V.cell? ⟨go,oo+k*3+2,none⟩=some (.slice bx ox lx))
       (first
        | exact KS.out _ B3.out
        | exact KS.out _ B2.out
        | exact KS.out _ (B1.out.alloc B1.out.size _)
        | exact KS.out _ B1.out
        | exact KS.out _ (Below.refl _ _).drew
        | exact KS.out _ ((Below.refl _ _).alloc (Nat.le_refl _) _).drew
        | exact KS.out _ (((Below.refl _ _).alloc (Nat.le_refl _) _).alloc (by simp) _).drew)
       (first
        | (refine a0v _ rfl _ _ _ rfl wz.heap.size 79 i0 (.agg #[.bool false,.slice none 0 0,.slice none 0 0]) 3 56 Tryz.underlying104 hi hz0 hz1 hz2 rfl (by decide) (.slice (some ⟨_,0,none⟩) 0 0) 0 [] rfl (by first | exact (a0C rfl (Nat.le_refl _)).drew | exact ((a0C rfl (Nat.le_refl _)).alloc _).drew | exact (a0C (by simp) (by simp)).drew) (by intro e;cases e) _ k c (cs.take k).flatten rfl SL1.out (SRC1.out _ (by first | exact ((Below.refl _ _).alloc (Nat.le_refl _) _).drew | exact (((Below.refl _ _).alloc (Nat.le_refl _) _).alloc (by simp) _).drew)) ON1.out (by have:=I12.out;unfold maxLen;omega) (by have:=I12.out;omega) (by simp<;>omega) ?_;intro v1 w1 hown1 hg1 hne1;have B1:Hid (Below wz.heap.size wz w1):=a0W (w0:=wz) (w3:=w1) (by first | exact (a0C rfl (Nat.le_refl _)).drew | exact ((a0C rfl (Nat.le_refl _)).alloc _).drew | exact (a0C (by simp) (by simp)).drew) (by first | exact ((Below.refl _ _).alloc (Nat.le_refl _) _).drew | exact (((Below.refl _ _).alloc (Nat.le_refl _) _).alloc (by simp) _).drew) hg1;have O1:=hid (show w1.ownsRow wz.heap.size 79 3 v1 k (cs.take k).flatten from by rw[Nat.zero_add]at hown1;exact hown1);have NE1:=hid hne1;have HG1:=hid hg1;clear hown1 hg1 hne1)
        | (refine a0v _ rfl _ _ _ rfl wz.heap.size 79 i0 (.agg #[.bool false,.slice none 0 0,.slice none 0 0]) 3 56 Tryz.underlying104 hi hz0 hz1 hz2 rfl (by decide) v1 k _ rfl (by first | exact O1.out | exact O1.out.alloc _) NE1.out (some ⟨_,0,none⟩) 1 1 [.bool mx,.slice ax nx kx,.slice bx ox lx] rfl rfl (f0E (by first | exact heap_alloc_new _ _ | exact (HG1.out.block (wz.heap.size+1) (by simp<;>omega) (by simp[Value.ownBlock])).trans MZ2.out | exact (HG1.out.block wz.heap.size (by simp<;>omega) (by simp[Value.ownBlock])).trans MZ3.out)) (by simp[Value.oneCell']) (by have:=I12.out;unfold maxLen;omega) (by have:=I12.out;omega) (by first | exact B1.out.size | exact (B1.out.alloc B1.out.size _).size) ?_;intro v2 w2 hown2 hg2 hne2;have B2:Hid (Below wz.heap.size wz w2):=a0W (w0:=wz) (w3:=w2) (by first | exact O1.out | exact O1.out.alloc _) (by first | exact B1.out | exact B1.out.alloc B1.out.size _) hg2;have O2:=hid hown2;have NE2:=hid hne2;clear hown2 hg2 hne2)
        | (refine a0v _ rfl _ _ _ rfl wz.heap.size 79 i0 (.agg #[.bool false,.slice none 0 0,.slice none 0 0]) 3 56 Tryz.underlying104 hi hz0 hz1 hz2 rfl (by decide) v2 (k+1) _ rfl O2.out NE2.out _ 0 _ (cs.drop k).flatten rfl SL2.out (SRC2.out _ _ B2.out) ON2.out (by have:=I12.out;unfold maxLen;omega) (by have:=I12.out;omega) (by exact B2.out.size) ?_;intro v3 w3 hown3 hg3 hne3;have O3:=hid hown3;have B3:Hid (Below wz.heap.size wz w3):=a0W (w0:=wz) (w3:=w3) O2.out B2.out hg3;clear hown3 hg3 hne3))
      all_goals
       have OF:=O3.out
       have RN:=hid (show RRow w3 v3 (a0r (fun q=>q) (qs.take (k+1))) by
        rw[ASN.out];refine RRow.of_owns (cs:=cs.take k ++ [[.bool mx,.slice ax nx kx,.slice bx ox lx]]++cs.drop k) (by rw[List.flatten_append,List.flatten_append];exact OF) (QLN.out _ B3.out) ALN.out (by rw[List.length_append,List.length_cons,List.length_take,List.length_drop,HLL.out];omega))
       clear OF;go_wp2_with fail;go_roundw
       case rel=>exact⟨k+1,by go_num,by omega,RN,a0a BZ.out B3.out⟩
       case measure=>simp[intOf]<;>omega
     ·go_wp2_with fail
      go_region_held3 (fun V=>V.cell? ⟨go,oo+k*3,none⟩=some (.bool mx)∧V.cell? ⟨go,oo+k*3+1,none⟩=some (.slice ax nx kx)∧V.cell? ⟨go,oo+k*3+2,none⟩=some (.slice bx ox lx))
       (first
        | exact KS.out _ B3.out
        | exact KS.out _ B2.out
        | exact KS.out _ (B1.out.alloc B1.out.size _)
        | exact KS.out _ B1.out
        | exact KS.out _ (Below.refl _ _).drew
        | exact KS.out _ ((Below.refl _ _).alloc (Nat.le_refl _) _).drew
        | exact KS.out _ (((Below.refl _ _).alloc (Nat.le_refl _) _).alloc (by simp) _).drew)
       (first
        | (refine a0v _ rfl _ _ _ rfl wz.heap.size 79 i0 (.agg #[.bool false,.slice none 0 0,.slice none 0 0]) 3 56 Tryz.underlying104 hi hz0 hz1 hz2 rfl (by decide) (.slice (some ⟨_,0,none⟩) 0 0) 0 [] rfl (by first | exact (a0C rfl (Nat.le_refl _)).drew | exact ((a0C rfl (Nat.le_refl _)).alloc _).drew | exact (a0C (by simp) (by simp)).drew) (by intro e;cases e) _ k c (cs.take k).flatten rfl SL1.out (SRC1.out _ (by first | exact ((Below.refl _ _).alloc (Nat.le_refl _) _).drew | exact (((Below.refl _ _).alloc (Nat.le_refl _) _).alloc (by simp) _).drew)) ON1.out (by have:=I12.out;unfold maxLen;omega) (by have:=I12.out;omega) (by simp<;>omega) ?_;intro v1 w1 hown1 hg1 hne1;have B1:Hid (Below wz.heap.size wz w1):=a0W (w0:=wz) (w3:=w1) (by first | exact (a0C rfl (Nat.le_refl _)).drew | exact ((a0C rfl (Nat.le_refl _)).alloc _).drew | exact (a0C (by simp) (by simp)).drew) (by first | exact ((Below.refl _ _).alloc (Nat.le_refl _) _).drew | exact (((Below.refl _ _).alloc (Nat.le_refl _) _).alloc (by simp) _).drew) hg1;have O1:=hid (show w1.ownsRow wz.heap.size 79 3 v1 k (cs.take k).flatten from by rw[Nat.zero_add]at hown1;exact hown1);have NE1:=hid hne1;have HG1:=hid hg1;clear hown1 hg1 hne1)
        | (refine a0v _ rfl _ _ _ rfl wz.heap.size 79 i0 (.agg #[.bool false,.slice none 0 0,.slice none 0 0]) 3 56 Tryz.underlying104 hi hz0 hz1 hz2 rfl (by decide) v1 k _ rfl (by first | exact O1.out | exact O1.out.alloc _) NE1.out (some ⟨_,0,none⟩) 1 1 [.bool mx,.slice ax nx kx,.slice bx ox lx] rfl rfl (f0E (by first | exact heap_alloc_new _ _ | exact (HG1.out.block (wz.heap.size+1) (by simp<;>omega) (by simp[Value.ownBlock])).trans MZ2.out | exact (HG1.out.block wz.heap.size (by simp<;>omega) (by simp[Value.ownBlock])).trans MZ3.out)) (by simp[Value.oneCell']) (by have:=I12.out;unfold maxLen;omega) (by have:=I12.out;omega) (by first | exact B1.out.size | exact (B1.out.alloc B1.out.size _).size) ?_;intro v2 w2 hown2 hg2 hne2;have B2:Hid (Below wz.heap.size wz w2):=a0W (w0:=wz) (w3:=w2) (by first | exact O1.out | exact O1.out.alloc _) (by first | exact B1.out | exact B1.out.alloc B1.out.size _) hg2;have O2:=hid hown2;have NE2:=hid hne2;clear hown2 hg2 hne2)
        | (refine a0v _ rfl _ _ _ rfl wz.heap.size 79 i0 (.agg #[.bool false,.slice none 0 0,.slice none 0 0]) 3 56 Tryz.underlying104 hi hz0 hz1 hz2 rfl (by decide) v2 (k+1) _ rfl O2.out NE2.out _ 0 _ (cs.drop k).flatten rfl SL2.out (SRC2.out _ _ B2.out) ON2.out (by have:=I12.out;unfold maxLen;omega) (by have:=I12.out;omega) (by exact B2.out.size) ?_;intro v3 w3 hown3 hg3 hne3;have O3:=hid hown3;have B3:Hid (Below wz.heap.size wz w3):=a0W (w0:=wz) (w3:=w3) O2.out B2.out hg3;clear hown3 hg3 hne3))
      all_goals
       have OF:=O3.out
       have RN:=hid (show RRow w3 v3 (a0r (fun q=>q) (qs.take (k+1))) by
        rw[ASN.out];refine RRow.of_owns (cs:=cs.take k ++ [[.bool mx,.slice ax nx kx,.slice bx ox lx]]++cs.drop k) (by rw[List.flatten_append,List.flatten_append];exact OF) (QLN.out _ B3.out) ALN.out (by rw[List.length_append,List.length_cons,List.length_take,List.length_drop,HLL.out];omega))
       clear OF;go_wp2_with fail;go_roundw
       case rel=>exact⟨k+1,by go_num,by omega,RN,a0a BZ.out B3.out⟩
       case measure=>simp[intOf]<;>omega
  ·obtain rfl:i=n:=by omega
   have q1:decide ((i:Int)<(i:Int))=false:=by simp
   have hT:qs.take i=qs:=List.take_of_length_le (by rw[HN.out];exact Nat.le_refl _);rw[hT]at hR;clear hlt hT;go_wp2_with fail;go_ret
   exact⟨⟨_,rfl,hR.out⟩,hB.out⟩
end Go.Proofs.YtlimaehdmcnjaaaGreatDoor
namespace Go.Proofs.YtlimaehdmcnjaaaGreatDoor
open Go.RowKit
open Go.Lib (decDigits nDigits)
theorem l0p {x y:Rat}{k:Nat}:x≤y / ((k+1:Nat):Rat)↔x*((k:Rat)+1)≤y:=by
 have hd:=o0u (a:=y) (k:=k);have hk':(0:Rat)≤(k:Rat):=Rat.natCast_nonneg;have hp:(0:Rat)<(k:Rat)+1:=by grind
 obtain⟨R,hR⟩:∃ R,y / ((k+1:Nat):Rat)=R:=⟨_,rfl⟩;rw[hR]at hd ⊢
 constructor
 ·intro h;have:=e0v (c:=(k:Rat)+1) (Rat.le_of_lt hp) h;rwa[hd]at this
 ·intro h;rw[← hd]at h;exact Rat.le_of_mul_le_mul_right h hp
theorem m0P {t:Rat}{d:List Rat}(hs:d.Pairwise (fun x y=>y≤x)){k:Nat}(hk:k+1<d.length)(h:d.getD k 0≤(rs (d.take (k+1))-t) / ((k+1:Nat):Rat)):d.getD (k+1) 0≤(rs (d.take (k+1+1))-t) / ((k+1+1:Nat):Rat):=by
 have e1:d[k]?=some (d.getD k 0):=by simp[List.getD_eq_getElem?_getD,show k<d.length by omega]
 have e2:d[k+1]?=some (d.getD (k+1) 0):=by simp[List.getD_eq_getElem?_getD,hk]
 have hle:d.getD (k+1) 0≤d.getD k 0:=by
  obtain⟨l1,q1⟩:=List.getElem?_eq_some_iff.1 e1;obtain⟨l2,q2⟩:=List.getElem?_eq_some_iff.1 e2;have:=List.pairwise_iff_getElem.1 hs k (k+1) l1 l2 (by omega);rwa[q1,q2]at this
 rw[l0p]at h ⊢;rw[b0H e2];obtain⟨a,ha⟩:∃ a,d.getD k 0=a:=⟨_,rfl⟩;obtain⟨b,hb⟩:∃ a,d.getD (k+1) 0=a:=⟨_,rfl⟩;rw[ha]at h hle;rw[hb]at hle ⊢;have hk':(0:Rat)≤(k:Rat)+1:=by have:(0:Rat)≤(k:Rat):=Rat.natCast_nonneg;grind
 have:=e0v hk' hle;have hc:((k+1:Nat):Rat)=(k:Rat)+1:=by push_cast;rfl
 rw[hc]
 grind
theorem i0j {t:Rat}{d:List Rat}(hs:d.Pairwise (fun x y=>y≤x)){k:Nat}(h:d.getD k 0≤(rs (d.take (k+1))-t) / ((k+1:Nat):Rat)):∀ m,k+m≤d.length→smK t d (k+m)=smK t d k
 | 0,_=>rfl
 | m+1,hm=>by
  have ih:=i0j hs h m (by omega);have key:∀ j,k+j<d.length→d.getD (k+j) 0≤(rs (d.take (k+j+1))-t) / ((k+j+1:Nat):Rat):=by
   intro j
   induction j with
   | zero=>intro _;exact h
   | succ j ihj=>intro hj;exact m0P hs (by omega) (ihj (by omega))
  have:=key m (by omega);rw[show k+(m+1)=(k+m)+1 by omega,smK,if_neg,ih];intro e;exact absurd (Std.lt_of_lt_of_le e this) (Rat.lt_irrefl)
theorem i0i {t:Rat}{d:List Rat}(hs:d.Pairwise (fun x y=>y≤x)):∀ (r pre:List Rat),pre++r=d→smA t pre.length (rs pre) (smK t d pre.length) r=smK t d d.length
 | [],pre,h=>by rw[smA,← h,List.append_nil]
 | x::r,pre,h=>by
  have hx:d.getD pre.length 0=x:=by rw[← h];simp[List.getD_eq_getElem?_getD]
  have ht:d.take (pre.length+1)=pre ++ [x]:=by
   rw[← h,show pre++x::r=(pre ++ [x])++r by simp];exact List.take_left' (by simp)
  have hr:rs (d.take (pre.length+1))=rs pre+x:=by rw[ht,a0Y];simp[rs];grind
  have hl:d.length=pre.length+(r.length+1):=by rw[← h];simp
  rw[smA]
  split
  ·rename_i hle
   have h2:=i0j hs (k:=pre.length) (by rw[hx,hr];exact hle) (r.length+1) (by omega);rw[hl,h2]
  ·rename_i hgt
   have h3:=i0i (t:=t) hs r (pre ++ [x]) (by rw[List.append_assoc];exact h);rw[List.length_append,List.length_singleton,a0Y]at h3;have e:rs pre+rs [x]=rs pre+x:=by simp[rs];grind
   rw[e]at h3;have e2:smK t d (pre.length+1)=(rs pre+x-t) / ((pre.length+1:Nat):Rat):=by
    rw[smK,hx,hr,if_pos (Rat.not_le.1 hgt)]
   rw[e2]at h3;exact h3
theorem q0K {t:Rat}{d:List Rat}(hs:d.Pairwise (fun x y=>y≤x)):smA t 0 0 (d.headD 0-t) d=smK t d d.length:=i0i hs d [] rfl
theorem o0c {D:Nat}{v d:List Rat}{T:Rat}(h:LT D v T)(hd:∀ q∈d,q∈v)(hn:d.length≤12)(h0:0<d.length):∀ k,k≤d.length→Dn (D*f12) (10 ^ 23) (smK T d k)
 | 0,_=>by
  rw[smK];have:d.headD 0∈d:=by
   cases d with
   | nil=>simp at h0
   | cons x r=>simp
  exact h.up ((h.dv _ (hd _ this)).sub10 h.dT) (by omega)
 | k+1,hk=>by
  rw[smK]
  split
  ·exact (((h.sum (s:=d.take (k+1)) (fun q hq=>hd q (List.mem_of_mem_take hq)) (by rw[List.length_take];omega)).sub10 (h.dT.up10 (by omega))).over12 (by omega) (by omega))
  ·exact o0c h hd hn h0 k (by omega)
theorem q0J {v:List Rat}{T:Rat}:smQ v T=v.map fun x=>Go.Proofs.YtlimaehdmcnjaaaGreatDoor.pos (x-smK T (a0r (fun q=>q) v) (a0r (fun q=>q) v).length):=by
 unfold smQ smL;rw[q0K (f0v (fun q=>q) v)]
theorem k0R (q:Rat):(decide (q.num<0)=true∧Go.Proofs.YtlimaehdmcnjaaaGreatDoor.pos q=0)∨(decide (q.num<0)=false∧Go.Proofs.YtlimaehdmcnjaaaGreatDoor.pos q=q):=by
 unfold Go.Proofs.YtlimaehdmcnjaaaGreatDoor.pos;by_cases h:q<0
 ·left
  rw[if_pos h];refine⟨decide_eq_true ?_,rfl⟩;apply Classical.byContradiction
  intro hn;have:=Rat.num_nonneg.1 (show 0≤q.num by omega)
  grind
 ·right
  rw[if_neg h];refine⟨decide_eq_false ?_,rfl⟩;have:=Rat.num_nonneg.2 (show 0≤q by grind);omega
theorem l0k (q:Rat):decide (q.num<0)=decide (q<0):=by
 rw[Bool.eq_iff_iff,decide_eq_true_iff,decide_eq_true_iff]
 constructor
 ·intro h;apply Classical.byContradiction
  intro hn;have:=Rat.num_nonneg.2 (show 0≤q by grind);omega
 ·intro h;apply Classical.byContradiction
  intro hn;have:=Rat.num_nonneg.1 (show 0≤q.num by omega)
  grind
end Go.Proofs.YtlimaehdmcnjaaaGreatDoor
