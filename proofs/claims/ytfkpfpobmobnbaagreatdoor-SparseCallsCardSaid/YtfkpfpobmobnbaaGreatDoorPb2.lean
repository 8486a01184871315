import Derived.Test.YtfkpfpobmobnbaaGreatDoorPb1
import Derived.RangeFuncNested
import Derived.RangeFuncBound
import Derived.RangeFuncCalls
import Derived.RangeFuncLeaves
import Derived.Sort.BigQuietIn
import Derived.RangeFuncBox
import Derived.Shelf.Abstract
import Derived.Shelf.RegionOpen
import Derived.OwnWalkIn
import Derived.TacticsInMore
import Derived.LoopNIn
import Derived.LoopIn
import Derived.Orders
import Derived.OrdersHeld
import Derived.Lib.JoinLaws
set_option linter.all false
set_option maxRecDepth 100000
set_option maxHeartbeats 8000000
namespace Go.Proofs.YtfkpfpobmobnbaaGreatDoor
open Go.Proofs.Tryz Go.RowKit
open Go.Lib (decDigits nDigits)
section
def t0I {α : Type}(Bd:List α->Prop)(n:Nat)(P:Program)(g:Nat)(lb:Array Value)(encs : α->Array Value)(Kp:World->World->Prop)(Ok:List α->α->Prop)(S Sp:List α->Prop)(w:World):Prop:=
 ∀ (l:Nat) (J Jx:List α->World->Prop) (W:World),Below w.heap.size w W->AbidesFrom W.heap.size J->AbidesFrom W.heap.size Jx ->
  (∀ pre x W1,Ok pre x->J pre W1->YieldAt Fence.wide (n-1) P l (encs x) W1 fun e W2=>
   (e=.returned (.bool true)/\J (pre ++ [x]) W2/\Kp W1 W2)\/(e=.returned (.bool false)/\Jx (pre ++ [x]) W2)) ->
  (∀ pre W1,J pre W1->Bd pre) ->
  J [] W ->
  CallsIn Fence.wide n P g (#[.func (.yield l) #[] #[]]++lb) W fun e W2=>(∃ v,e=.returned v)/\((∃ xs,S xs/\J xs W2)\/(∃ pre,Sp pre/\Jx pre W2))
def c1t {α : Type}(n:Nat)(P:Program)(g:Nat)(lb:Array Value)(encs : α->Array Value)(Kp:World->World->Prop)(Ok:List α->α->Prop)(S Sp:List α->Prop)(w:World):Prop:=t0I (fun _=>True) n P g lb encs Kp Ok S Sp w
def c1s {α : Type}(M n:Nat)(P:Program)(g:Nat)(lb:Array Value)(encs : α->Array Value)(Kp:World->World->Prop)(Ok:List α->α->Prop)(S Sp:List α->Prop)(w:World):Prop:=t0I (fun p=>p.length<=M) n P g lb encs Kp Ok S Sp w
structure Kept (D:Nat)(r:Loop)(W:World):Prop where
 loop:W.heap[D+1]?=some (.loop r)
 calls:W.heap[D]?=some (.deferred (some []))
theorem Kept.cells {D:Nat}{r:Loop}{W W2:World}{row:Option Nat}(h:Kept D r W)(hg:W.grownBy W2 row)(hr:∀ k,row=some k->∃ o:Obj,W.heap[k]?=some o/\o.isWalk=true):Kept D r W2:=
 ⟨(grownBy_keeps hg hr h.loop rfl).trans h.loop,(grownBy_keeps hg hr h.calls rfl).trans h.calls⟩
def Ea:=@Go.World.putObj_heap_other
theorem Kept.put {D:Nat}{r:Loop}{W:World}(h:Kept D r W)(r2:Loop):Kept D r2 (W.putObj (D+1) (.loop r2)):=
 ⟨World.putObj_heap_same (I7.1 h.loop).1,(Ea (by omega)).trans h.calls⟩
theorem Kept.from {B D:Nat}{r:Loop}{W W2:World}(h:Kept D r W)(k:KeepsFrom B W W2)(hB:B<=D):Kept D r W2:=
 ⟨k.same _ _ (by omega) h.loop rfl,k.same _ _ hB h.calls rfl⟩
def e0z {β : Type}{B D:Nat}{I : β->World->Prop}(hI:OwnFrom B I){r:Loop}{s : β}{W:World}(h:Kept D r W)(hB:B<=D)(hs:I s W)(o:Obj):I s (W.putObj (D+1) o):=
 hI.putObj o hs (by omega) h.loop rfl
def Lv:=@Go.World.size_alloc
def c0T {α : Type}{P:Program}{n:Nat}{g:Operand}{ps:Array Tmp}{assign body:Code}{Q:Exit->Act->World->Prop}{a:Act}{w:World}(h1:1<=n)
 {gf:Nat} {lb:Array Value} (hg:a.eval g=.func (.func gf) #[] lb) (eg:∀ args w,(callFunc gf args).run P w=.ok (.enter gf args) w)
 {encs : α->Array Value} {Kp:World->World->Prop} {Ok:List α->α->Prop} {S Sp:List α->Prop} {w0:World} {Bd:List α->Prop} (hseq:t0I Bd (n-1) P gf lb encs Kp Ok S Sp w0)
 (hKt:∀ {A B C:World},Kp A B->Kp B C->Kp A C) (hKb:∀ (W:World) (l:Nat) (o o2:Obj),w.heap.size<=l->W.heap[l]?=some o->o.isCells=false->o.isWalk=false->Kp W (W.putObj l o2)) (hb0:Below w0.heap.size w0 w) (hps:∀ x,(encs x).size=ps.size)
 (I:List α->World->Prop) (Ix:Code->List α->World->Prop) (hI:OwnFrom w.heap.size I) (hIx:∀ c,OwnFrom w.heap.size (Ix c)) (h0:I [] w) (hM:∀ pre W,I pre W->Bd pre) (a1 : α->Act)
 (hassign:∀ (l:Nat) (x : α) (W:World) (K:Act->World->Prop),K (a1 x) W ->
  assign.wpIn (Fence.wide.inRound l) (n-1-1) P (Exit.then K (fun _ _ _=>False)) { tmps:=(ps.zip (encs x)).foldl (fun t (p,v)=>t.setIfInBounds p v) a.tmps,defers:=[] } W)
 (hbody:∀ (l:Nat) (pre:List α) (x : α) (W:World),Ok pre x->I pre W->body.wpIn (Fence.wide.inRound l) (n-1-1) P (ownPostG w.heap.size Kp I Ix (pre ++ [x]) W) (a1 x) W)
 (hdone:∀ (D:Nat) (xs:List α) (W:World),w.heap.size<=D->S xs->I xs W->W.heap[D]?=some (.deferred (some []))->Q .normal { a with defers:={ target:=.collected D,args:=#[] } :: a.defers } W)
 (hstop:∀ (D:Nat) (c:Code) (pre:List α) (W:World),w.heap.size<=D->Sp pre->Ix c pre W->W.heap[D]?=some (.deferred (some []))->c.wpIn Fence.wide n P Q { a with defers:={ target:=.collected D,args:=#[] } :: a.defers } W):
 (Code.rangeFunc g ps assign body).wpIn Fence.wide n P Q a w:=by
 refine wpIn_rangeFunc fun fn hfn=>?_
 obtain⟨R,hR⟩:∃ R:LoopState->Option Code->Loop,∀ s p,R s p = { state:=s,pending:=p,fn,tmps:=a.tmps,params:=ps,assign,body,defers:=w.heap.size }:=⟨_,fun _ _=>rfl⟩;have hs:∀ s p,(R s p).state=s:=fun s p=>by rw[hR]
 obtain⟨W1,e1⟩:∃ W1,W1=(w.alloc (.deferred (some []))).alloc (.loop (R .ready none)):=⟨_,rfl⟩;have z1:w.heap.size<=W1.heap.size:=by rw[e1];simp;omega
 have k1:Kept w.heap.size (R .ready none) W1:=by
  rw[e1];refine⟨?_,(Below.heap_alloc _ _ _ (by simp)).trans (World.alloc_heap_new w _)⟩;have:=World.alloc_heap_new (w.alloc (.deferred (some []))) (.loop (R .ready none));rwa[Lv]at this
 have i1:I [] W1:=by rw[e1];exact hI.alloc _ (hI.alloc _ h0)
 have b1:Below w0.heap.size w0 W1:=by
  have:Below w.heap.size w W1:=by rw[e1];exact ((J4 _ w).alloc nr _).alloc (by simp) _
  exact hb0.trans (this.mono hb0.size)
 refine⟨w.heap.size+1,[{ target:=.collected w.heap.size,args:=#[] }],W1,{ target:=.fn (.func gf) lb,args:=#[.func (.yield (w.heap.size+1)) #[] #[]] },W1,gf,#[.func (.yield (w.heap.size+1)) #[] #[]]++lb,W1,?_,?_,fun f hf=>trivial,?_,fun _=>h1,?_⟩
 .have:=run_enterLoop_outer (P:=P) (w:=w) fn a.tmps ps assign body;rw[e1,hR];exact this
 .simp only[resolve,hg];simp[go_sem]
 .simp[invoke,go_sem,eg]
 .refine (hseq (w.heap.size+1) (fun pre W=>I pre W/\Kept w.heap.size (R .ready none) W) (fun pre W=>∃ c,Ix c pre W/\Kept w.heap.size (R .done (some c)) W) W1 b1
   (fun s A B row hs hg2 hr=>⟨hI s A B row hs.1 hg2 (fun k e=>?_),hs.2.cells hg2 (fun k e=>(hr k e).2)⟩)
   (fun s A B row hs hg2 hr=>?_) (fun pre x W hok hJ=>?_) (fun pre W h=>hM pre W h.1) ⟨i1,k1⟩).mono ?_
  .obtain⟨h2,o,h3,h4⟩:=hr k e;exact⟨J0 z1 h2,o,h3,Obj.not_cells_of_walk h4⟩
  .obtain⟨c,hc,hk⟩:=hs;refine⟨c,hIx c s A B row hc hg2 (fun k e=>?_),hk.cells hg2 (fun k e=>(hr k e).2)⟩;obtain⟨h2,o,h3,h4⟩:=hr k e;exact⟨J0 z1 h2,o,h3,Obj.not_cells_of_walk h4⟩
  .obtain⟨hi,hk⟩:=hJ;have hy:=run_yield (P:=P) (args:=encs x) hk.loop (by rw[hR];exact hps x);have kb:=hk.put (R .busy none);have bg:=run_beginRound (P:=P) hk.loop (hs _ _);rw[show ({ R .ready none with state:=.busy }:Loop)=R .busy none by rw[hR,hR]]at bg;have kk:Kp W (W.putObj (w.heap.size+1) (.loop (R .busy none))):=hKb _ _ _ _ (by omega) hk.loop rfl rfl;rw[hR]at hy;refine⟨fn,_,assign,body,hy,roundIn_of_wpIn hfn (hassign _ x W _ ⟨_,bg,?_⟩)⟩;refine wpIn_mono (hbody _ pre x _ hok (e0z hI hk nr hi _)) ?_;have fin:∀ (j:Option Code) (W3:World),Kept w.heap.size (R .busy none) W3->(Instr.endRound (w.heap.size+1) j).run P W3=.ok (.bool j.isNone) (W3.putObj (w.heap.size+1) (.loop (R (if j.isNone then .ready else .done) j))):=fun j W3 h3=>by
    have:=run_endRound (P:=P) j h3.loop;rw[this,hR,hR]
   rintro e a3 W3 hp;cases e with
   | normal=>
    obtain⟨p1,p2,p3⟩:=hp;have k3:=kb.from p1 nr
    exact⟨_,_,fin none W3 k3,.inl ⟨rfl,⟨e0z hI k3 nr p3 _,k3.put _⟩,hKt (hKt kk p2) (hKb _ _ _ _ (by omega) k3.loop rfl rfl)⟩⟩
   | ret=>
    have k3:=kb.from hp.1 nr
    exact⟨_,_,fin (some .ret) W3 k3,.inr ⟨rfl,.ret,e0z (hIx _) k3 nr hp.2 _,k3.put _⟩⟩
   | exit id=>
    have k3:=kb.from hp.1 nr
    exact⟨_,_,fin (some (.exit id)) W3 k3,.inr ⟨rfl,.exit id,e0z (hIx _) k3 nr hp.2 _,k3.put _⟩⟩
   | goto t=>
    have k3:=kb.from hp.1 nr
    exact⟨_,_,fin (some (.goto t)) W3 k3,.inr ⟨rfl,.goto t,e0z (hIx _) k3 nr hp.2 _,k3.put _⟩⟩
   | panic ch=>exact hp.elim
   | outgrown=>exact hp.elim
  .have en:∀ {s p W2},Kept w.heap.size (R s p) W2->s ≠ .busy->(Instr.endLoop (w.heap.size+1)).run P W2=.ok p (W2.putObj (w.heap.size+1) (.loop (R .exhausted p))):=fun {s p W2} h2 hne=>by
    have:=run_endLoop (P:=P) h2.loop (by rw[hs];exact hne);rw[this,hR,hR]
   rintro e W2 ⟨⟨v,rfl⟩,⟨xs,hS,hi,hk⟩ | ⟨pre,hSp,c,hi,hk⟩⟩
   .exact⟨none,_,en hk (by simp),hdone _ xs _ nr hS (e0z hI hk nr hi _) (hk.put (R .exhausted none)).calls⟩
   .exact⟨some c,_,en hk (by simp),hstop _ c pre _ nr hSp (e0z (hIx c) hk nr hi _) (hk.put (R .exhausted (some c))).calls⟩
def f0P (l:List Oper):Bool:=l.all fun o=>match o.op with | .defer _=>false | _=>true
def p0t {l:List Oper}(h:f0P l=true){i:Nat}{o:Oper}(ho:l.toArray[i]?=some o):∀ c,o.op ≠ .defer c:=by
 intro c e;rw[K6]at ho;have:=Bz.1 h o (U7 ho);rw[e]at this;cases this
theorem o0N {F:Fence}{n:Nat}{P:Program}{o:Oper}{a:Act}{next:Act->World->Prop}{Q:Exit->Act->World->Prop}(l:Nat):∀ r:Result Next,o.uponIn F n P a next Q r->o.uponIn (F.inRound l) n P a next Q r
 | .ok (.value _) _,h=>h
 | .ok .skip _,h=>h
 | .ok (.defer _) _,h=>h
 | .ok (.enter _ _) _,h=>h
 | .ok (.row _ _) _,h=>h
 | .ok (.round _ _ _ _ _) _,h=>h
 | .halt (.panic _) _,h=>h
 | r,h=>by
  unfold Oper.uponIn at *
  split at h<;>first | exact h | (exfalso;exact h)
def h0S {F:Fence}{n:Nat}{P:Program}{l:List Oper}{Q:Exit->Act->World->Prop}{md:Region.Mode}(hro:F.round=none)(hd:f0P l=true)(l0:Nat):∀ (fuel:Nat) (listed:Array Bool) (a:Act) (w:World),
 wpAnyIn F n P md l.toArray Q fuel listed a w->wpAnyIn (F.inRound l0) n P md l.toArray Q fuel listed a w:=by
 intro fuel
 induction fuel with
 | zero=>exact fun _ _ _ h=>h
 | succ fuel ih=>
  rintro listed a w ⟨h1,h2⟩;refine⟨h1,fun i hi=>?_⟩;have h:=h2 i hi;unfold wpOpIn at *
  split at h
  .exact ih _ _ _ h
  .rename_i o he
   split at h
   .rename_i hw
    rw[J3 hw];refine⟨h.1,?_⟩;have h3:=(Oper.wpIn_mono (K':=wpAnyIn (F.inRound l0) n P md l.toArray Q fuel (listed.setIfInBounds i true)) (fun a w h=>ih _ a w h) h).2;rw[hro,Oper.semAt_none]at h3;rw[Fence.inRound_round,Oper.semAt_some l0 _ o (p0t hd he)];exact o0N l0 _ h3
   .rename_i hw
    rw[J2 hw];exact⟨h.1,ih _ _ _ h.2⟩
def Ms:=@Go.wpIn_region_any
def e0x {n:Nat}{P:Program}{id:Nat}{Q:Exit->Act->World->Prop}{a:Act}{w:World}{l:List Oper}{l0:Nat}(hm:P.follows .mixedOrders=true)(hB:Region.lexB .any l.toArray=true)(hd:f0P l=true)
 (h:wpQuietIn Fence.wide n P l.toArray (fun w'=>∃ n,w'=w.drewN n) (fun a'=>∀ w',(∃ n,w'=w.drewN n)->Q .normal a' w') l a):(Code.region id l.toArray true).wpIn (Fence.wide.inRound l0) n P Q a w:=by
 have hB2:=hB;simp only[Region.lexB,Aa]at hB2;refine Ms hm (h0S rfl hd l0 _ _ _ _ (wpAnyIn_of_quiet (C:=fun w'=>∃ n,w'=w.drewN n) (Q:=fun a'=>∀ w',(∃ n,w'=w.drewN n)->Q .normal a' w') rfl (fun _ w' hw' h=>h w' hw') _ _ _ _ ⟨1,rfl⟩ ?_));have:=wpAnyQIn_lex (F:=Fence.wide) (n:=n) (C:=fun w'=>∃ n,w'=w.drewN n) (md:=.any) hB2.1 l.toArray.toList 0 (Array.replicate l.toArray.size false) a (by simp) (by simpa using hB2.2) (by simpa using h);simpa using this
open Go.Shelf
attribute [local go_sem] Oper.semAt_some
def Nj:=@Go.Proofs.Tryz.func310
def Ce:=@List.length_nil
def Bu:=@Array.replicate_succ
def Cl:=@Array.replicate_zero
def Da:=@List.push_toArray
def Cx:=@List.append_toArray
def Dq:=@List.nil_append
def C7:=@Go.bodyPost_ret
def Nk:=@Go.results_none
def e0j {Kp:World->World->Prop}{V:Nat->Int->Prop}(n:Nat)(hn:1<=n)(Bs len cap:Nat)(a:Option Addr)(hlen:len<=9000000000000000000)(hcap:len<=cap)(w:World)(hKr:∀ W,Kp W W)(hKt:∀ {A B C:World},Kp A B->Kp B C->Kp A C)
 (hread:∀ W1 W2,Below w.heap.size w W1->Kp W1 W2->W2.cell? ⟨Bs,0,none⟩=some (.slice a len cap)/\∀ i,i<len->∃ g o z,a=some ⟨g,o,none⟩/\W2.cell? ⟨g,o+i,none⟩=some (.int .u64 z)/\V i z):
 c1t n prog 310 #[.pointer (some ⟨Bs,0,none⟩)] (fun x:Nat×Int=>#[.int .i64 (x.1:Int),.int .u64 x.2]) Kp (fun pre x=>x.1+1+pre.length=len/\V x.1 x.2) (fun xs=>xs.length=len) (fun _=>True) w:=by
 intro l J Jx W hW hJ hJx hY _ h0;obtain⟨hb0,-⟩:=hread W W hW (hKr W);obtain⟨HR,HY,HW,HKr⟩:=zc hread hY hW hKr;have HKt:Hid (∀ A B C:World,Kp A B->Kp B C->Kp A C):=fun A B C h k=>hKt h k
 clear hread hY hW hJ hJx hKr hKt;refine callsIn_of_wp Nj rfl trivial ?_ rfl;simp only[ntmps310,An,E8,Ce,Nat.reduceAdd,Nat.reduceSub,Bu,Cl,Da,Cx,Dq,Cm]
 gi_wp2
 clear hb0
 gi_loopw [3] (fun i wr=>∃ (k:Nat) (t:Int) (pre:List (Nat×Int)),i=.int .i64 t/\t=(k:Int)-1/\k<=len/\Hid (pre.length+k=len)/\J pre wr/\Hid (Kp W wr))
  (fun i _=>(intOf i+1).toNat)
 case atStart=>exact⟨len,_,[],rfl,rfl,O4 _,by rw[Hid];simp,h0,HKr.out W⟩
 case round=>
  obtain⟨k,t,pre,rfl,ht,hk,hp,hJs,hK⟩:=hrel;cases k with
  | zero=>
   obtain rfl:t = -1:=by omega
   clear ht
   gi_wp2
   go_end0
   exact⟨⟨_,rfl⟩,.inl ⟨pre,by have:=hp.out;omega,hJs⟩⟩
  | succ j=>
   obtain rfl:t=(j:Int):=by omega
   clear ht;obtain⟨hb,hc⟩:=HR.out W wr HW.out hK.out;obtain⟨g,o,z,rfl,hcell,hV⟩:=hc j (by omega);clear hc;obtain⟨fn,tmps,assign,body,hy,hR⟩:=HY.out pre (j,z) wr ⟨by have:=hp.out;omega,hV⟩ hJs;dsimp only at hy;clear hV
   gi_wp2
   refine hR.mono ?_;rintro e W3 (⟨rfl,hJ3,hk3⟩ | ⟨rfl,hJx3⟩)
   .have HK3:=hid (HKt.out _ _ _ hK.out hk3);clear hk3
    gi_wp2
    go_roundw
    case rel=>exact⟨j,_,pre ++ [(j,z)],rfl,rfl,by omega,by rw[Hid];have:=hp.out;simp;omega,hJ3,HK3⟩
    case measure=>simp[intOf]<;>omega
   .gi_wp2
    refine C7 (Nk rfl _ _ _) rfl ?_;exact⟨⟨_,rfl⟩,.inr ⟨_,trivial,hJx3⟩⟩
def f0A (a:Option Addr)(len cap:Nat)(w:World):
 Calls prog 255 #[.slice a len cap] w fun e w'=>e=.returned (.func (.func 310) #[] #[.pointer (some ⟨w.heap.size,0,none⟩)])/\w'=w.alloc (.cells #[.slice a len cap] 124):=by
 go_enter func255,ntmps255;go_wp2_with fail;go_ret
 exact⟨rfl,rfl⟩
def KpB (n0 bs:Nat)(W W2:World):Prop:=Below n0 W W2/\W2.heap[bs]?=W.heap[bs]?
theorem KpB.refl (n0 bs:Nat)(W:World):KpB n0 bs W W:=⟨J4 _ _,rfl⟩
theorem KpB.trans {n0 bs:Nat}{A B C:World}(h:KpB n0 bs A B)(k:KpB n0 bs B C):KpB n0 bs A C:=⟨h.1.trans k.1,k.2.trans h.2⟩
def Lj:=@Go.belowK_b
theorem KpB.put {n0 bs:Nat}{w:World}(hn:n0<=w.heap.size)(hb:bs<w.heap.size)(W:World)(l:Nat)(o o':Obj)(hl:w.heap.size<=l)(h:W.heap[l]?=some o)(h1:o.isCells=false)(h2:o.isWalk=false):KpB n0 bs W (W.putObj l o'):=
 ⟨Lj hn W l o o' hl h h1 h2,Ea (by omega)⟩
theorem KpB.blk {n0 bs:Nat}{W W2:World}(h:KpB n0 bs W W2){cs:Array Value}{t:TypeId}(hb:Blk W bs cs t):Blk W2 bs cs t:=h.2.trans hb
theorem Blk.kept {W W2:World}{b:Nat}{cs:Array Value}{t:TypeId}{row:Option Nat}(h:Blk W b cs t)(hg:W.grownBy W2 row)(hr:∀ r,row=some r->∃ o:Obj,W.heap[r]?=some o/\o.isCells=false):Blk W2 b cs t:=by
 refine h.grown hg (fun e=>?_);obtain⟨o,ho,hc⟩:=hr b e;unfold Blk at h;rw[h]at ho;cases ho
 cases hc
def b0X {n:Nat}{P:Program}{fn:Func}{R:Ending->World->Prop}{tmps:Array Value}{W:World}{D:Nat}{v:Value}(hK:W.heap[D]?=some (.deferred (some [])))
 (hv:(results fn tmps).run P (W.putObj D (.deferred none))=.ok v (W.putObj D (.deferred none))) (hR:R (.returned v) (W.putObj D (.deferred none))):
 bodyPostM Fence.wide n P fn R .ret { tmps:=tmps,defers:=[{ target:=.collected D,args:=#[] }] } W:=
 ⟨by simp,.inl ⟨_,_,rfl,run_takeDeferred hK,⟨v,hv,hR⟩⟩⟩
def Kd:=@Go.grownBy_putObj'
theorem Blk.put {W:World}{b D:Nat}{cs:Array Value}{t:TypeId}(h:Blk W b cs t)(hK:W.heap[D]?=some (.deferred (some [])))(o:Obj):Blk (W.putObj D o) b cs t:=
 h.kept (Kd _ D o) (fun r e=>by cases e;exact⟨_,hK,rfl⟩)
theorem Row.put {W:World}{D:Nat}{v:Value}{xs:List Value}(h:Row W v xs)(hK:W.heap[D]?=some (.deferred (some [])))(o:Obj):Row (W.putObj D o) v xs:=by
 obtain⟨a,c,rfl,h1,h2,h3⟩:=h.ex;refine⟨a,c,rfl,h1,h2,fun i x hx=>?_⟩;obtain⟨g,og,e,hg,hc⟩:=h3 i x hx;have hgb:=Kd W D o;exact⟨g,og,e,J7 hg hgb.size,cell_kept hc hgb (fun r e=>by cases e;exact⟨_,hK,rfl⟩)⟩
theorem IsN.put {k:IntKind}{W:World}{D:Nat}{v:Value}{n:Nat}(h:IsN k W v n)(hK:W.heap[D]?=some (.deferred (some [])))(o:Obj):IsN k (W.putObj D o) v n:=Row.put h hK o
def l0d {a n:Nat}(hn:(limbs a).length=n+1):∃ x,(limbs a)[n]?=some x/\x<1000000000/\0<x/\Lib.nDigits a=9*n+Lib.nDigits x/\val ((limbs a).drop n)=x:=by
 have hne:limbs a ≠ []:=fun e=>by simp[e]at hn
 obtain⟨x,hx⟩:∃ x,(limbs a)[n]?=some x:=⟨_,Q0 (by omega)⟩;have hl:(limbs a).getLast hne=x:=by
  have h:=U4.1 hx;obtain⟨h1,h2⟩:=h;rw[List.getLast_eq_getElem hne,<- h2]
  congr 1
  omega
 have hx':(limbs a).getLast? = some x:=by rw[List.getLast?_eq_some_getLast hne,hl]
 have hp:=e0e a x hx';refine⟨x,hx,(a0o a).get hx,by omega,?_,?_⟩
 .have:=j0y (a0o a) hne (e0e a);rw[a0z,hl,hn]at this;simpa using this
 .rw[S9 (by omega),Cj (by omega)];have h:=U4.1 hx;obtain⟨h1,h2⟩:=h;rw[h2];simp[val]
def c0r (w:World)(v:Value)(a:Nat)(ha:IsN .u64 w v a)(hL:Lay w)(hla:(limbs a).length<=1000000):
 qb 198 #[v] w (.int .i64 (Lib.nDigits a:Nat)):=by
 obtain⟨a1,c1,rfl,h1,h2,h3⟩:=ha.openI;have H3:=hid h3;clear h3 ha;by_cases h0:(limbs a).length=0
 .rw[h0];have ea:a=0:=b0Y.1 (Aw h0);go_enter func198,ntmps198;go_wp2_with fail;go_ret
  refine⟨?_,J4 _ _⟩;rw[ea,show Lib.nDigits 0=1 by rw[He (by omega)]]
  rfl
 .obtain⟨n,ea⟩:∃ n,(limbs a).length=n+1:=⟨(limbs a).length-1,by omega⟩;obtain⟨x,hx,hx1,hx2,hd,-⟩:=l0d ea;obtain⟨g,o,rfl,hg,hc⟩:=H3.out n x hx;rw[ea]at h1 hla |-;have hw1:IntKind.i64.wrap (((n+1:Nat):Int)-1)=(n:Int):=by rw[U0 _ ⟨by omega,by omega⟩];omega
  have hw2:IntKind.i64.wrap (9*(n:Int))=9*(n:Int):=U0 _ ⟨by omega,by omega⟩;have hdl:Lib.nDigits x<=9:=a0l (by omega) (by omega);have hw3:IntKind.i64.wrap (9*(n:Int)+((Lib.nDigits x:Nat):Int))=((Lib.nDigits a:Nat):Int):=by rw[U0 _ ⟨by omega,by omega⟩];omega
  have hlen:(Lib.decDigits x).length=Lib.nDigits x:=I9 x;clear hd hdl;go_enter func198,ntmps198
  go_wp2_with (first
   | (go_at_call 259;refine nj (v0i _ x (by omega) hL) fun w' hb=>?_)
   | fail)
  go_ret
  exact⟨rfl,hb⟩
#print axioms c0r
end
section
variable {P : Program} {ops : Array Oper} {oz : Oper} {Q Q' : Exit -> Act -> World -> Prop} {md : Region.Mode}
theorem l0O {o:Oper}{a:Act}{w:World}{K K':Act->World->Prop}(hK:∀ a w,K a w->K' a w)(hP:∀ c a w,Q' (.panic c) a w->Q (.panic c) a w)(hL:LetsOut Q'->LetsOut Q)
 (h:o.wp P a w K Q'):o.wp P a w K' Q:=by
 unfold Oper.wp at *;generalize (execOp a.eval o).run P w=r at *
 cases r with
 | ok n w'=>
  cases n<;>simp only[Oper.upon]at h |-
  case value u=>exact hK _ _ h
  case skip=>exact hK _ _ h
  case defer d=>exact hK _ _ h
  case enter f args=>
   refine Calls.mono h fun e w'' he=>?_
   cases e with
   | returned u=>exact hK _ _ he
   | panicked c=>exact hP _ _ _ he
   | outgrown=>exact hL he
  case row row args=>exact Rows.mono h fun u w'' he=>hK _ _ he
 | halt x w'=>
  cases x<;>simp only[Oper.upon]at h |-
  case panic u=>exact hP _ _ _ h
def l0J (n:Nat)(listed:Array Bool):Prop:=∀ i,i<n->listed.getD i false=true
def Hb:=@Go.mem_ready
theorem d0v (hfwd:∀ i o,ops[i]?=some o->∀ e∈o.after,Region.binds md e=true->e.on<i){listed:Array Bool}(hs:listed.size=ops.size)(hr:Region.ready md ops listed = []):l0J ops.size listed:=by
 intro i
 induction i using Nat.strongRecOn with
 | _ i ih=>
  intro hi;refine Jb fun hn=>?_
  have hm:i∈Region.ready md ops listed:=by
   rw[Hb];refine⟨?_,ops[i],D9 hi,fun e he hb=>ih e.on (hfwd i _ (D9 hi) e he hb) (by have:=hfwd i _ (D9 hi) e he hb;omega)⟩;have h1:i<listed.size:=by omega
   simp[Array.getD,h1]at hn |-;exact hn
  rw[hr]at hm;cases hm
def Closed (md:Region.Mode)(ops:Array Oper)(listed:Array Bool):Prop:=∀ j o,ops[j]?=some o->listed.getD j false=true->∀ e∈o.after,Region.binds md e=true->listed.getD e.on false=true
def c1n (md:Region.Mode)(ops:Array Oper)(oz:Oper)(i:Nat):Prop:=
 ∃ e∈oz.after,Region.binds md e=true/\(e.on=i\/∃ o,ops[e.on]?=some o/\∃ f∈o.after,Region.binds md f=true/\f.on=i)
def Oi:=@Go.getD_set_true
theorem Closed.set {listed:Array Bool}{i:Nat}(h:Closed md ops listed)(hi:i∈Region.ready md ops listed):Closed md ops (listed.setIfInBounds i true):=by
 intro j o ho hj e he hb;rw[Hb]at hi;obtain⟨_,o',ho',hall⟩:=hi;by_cases hji:i=j
 .subst hji;rw[ho]at ho';cases ho'
  exact Oi (hall e he hb)
 .have hj':=hj;rw[getD_set_ne false hji]at hj';exact Oi (h j o ho hj' e he hb)
def Lb:=@Nat.lt_succ_of_lt
def Lm:=@Array.getElem_push_lt
theorem a0v {listed:Array Bool}{b:Bool}{i:Nat}{d:Bool}(h:i<listed.size):(listed.push b).getD i d=listed.getD i d:=by
 simp[Array.getD,h,Lb h,Lm h]
theorem e0p {listed:Array Bool}(hs:listed.size=ops.size)(hall:l0J ops.size listed):
 ∀ j,j∈Region.ready md (ops.push oz) (listed.push false)->j=ops.size:=by
 intro j hj;rw[Hb]at hj;obtain⟨h0,o,ho,_⟩:=hj;have hlt:j<ops.size+1:=by have:=(I7.1 ho).1;simpa using this
 refine Jb fun hne=>?_
 have hj':j<ops.size:=by omega
 rw[a0v (by omega)]at h0;have:=hall j hj';have h1:j<listed.size:=by omega
 simp[Array.getD,h1]at h0 this;rw[h0]at this;cases this
def Df:=@Array.getElem?_push_lt
theorem h0k (hz:∀ e∈oz.after,Region.binds md e=true->e.on<ops.size)(hz2:∀ i,i<ops.size->c1n md ops oz i)(hfwd:∀ i o,ops[i]?=some o->∀ e∈o.after,Region.binds md e=true->e.on<i){listed:Array Bool}(hs:listed.size=ops.size)(hcl:Closed md ops listed)(hn:¬ l0J ops.size listed):
 ∀ j,j∈Region.ready md (ops.push oz) (listed.push false)->j∈Region.ready md ops listed:=by
 intro j hj;rw[Hb]at hj |-;obtain⟨h0,o,ho,hall⟩:=hj;have hlt:j<ops.size+1:=by have:=(I7.1 ho).1;simpa using this
 by_cases hj':j=ops.size
 .subst hj';have:o=oz:=by simpa using ho.symm
  subst this
  exact absurd (fun i hi=>by
   obtain⟨e,he,hb,hon⟩:=hz2 i hi;have h1:=hall e he hb;have h2:=hz e he hb;rw[a0v (by omega)]at h1;rcases hon with rfl | ⟨o',ho',f,hf,hfb,rfl⟩
   .exact h1
   .exact hcl _ o' ho' h1 f hf hfb) hn
 .have hjl:j<ops.size:=by omega
  rw[Df hjl]at ho;rw[a0v (by omega)]at h0;refine⟨h0,o,by rw[D9 hjl];exact ho,fun e he hb=>?_⟩;have h1:=hall e he hb;have h2:=hfwd j o (by rw[D9 hjl];exact ho) e he hb;rwa[a0v (by omega)]at h1
def Ih:=@Array.size_push
theorem j0d {listed:Array Bool}{i:Nat}(h:i<listed.size):(listed.push false).setIfInBounds i true=(listed.setIfInBounds i true).push false:=by
 apply Gu
 intro k;simp only[Array.getElem?_setIfInBounds,Array.getElem?_push,Ih,Array.size_setIfInBounds];by_cases hk:i=k
 .subst hk;simp[h,Lb h];omega
 .simp[hk]
def w0j (ops:Array Oper)(oz:Oper):Bool:=
 ops.toList.all (fun o=>o.guard.isNone) && oz.guard.isNone && oz.after.toList.all (fun e=>decide (e.on<ops.size)) &&
 (List.range ops.size).all (fun i=>oz.after.toList.any fun e=>Region.binds .any e && (e.on==i || (match ops[e.on]? with | some o=>o.after.toList.any (fun f=>Region.binds .any f && f.on==i) | none=>false))) &&
 (List.range ops.size).all (fun i=>match ops[i]? with | some o=>o.after.toList.all (fun e=>decide (e.on<i)) | none=>true)
section
variable {F : Fence} {n : Nat}
theorem q0f {o:Oper}{a:Act}{w:World}{K K':Act->World->Prop}(hK:∀ a w,K a w->K' a w)(hP:∀ c a w,Q' (.panic c) a w->Q (.panic c) a w)(hL:LetsOut Q'->LetsOut Q)
 (h:o.wpIn F n P a w K Q'):o.wpIn F n P a w K' Q:=by
 unfold Oper.wpIn at *;refine⟨h.1,?_⟩;have h:=h.2;generalize (o.semAt F.round a.eval).run P w=r at *
 cases r with
 | ok m w'=>
  cases m<;>simp only[Oper.uponIn]at h |-
  case value u=>exact hK _ _ h
  case skip=>exact hK _ _ h
  case defer d=>exact hK _ _ h
  case enter f args=>
   refine⟨h.1,CallsIn.mono h.2 fun e w'' he=>?_⟩;cases e with
   | returned u=>exact hK _ _ he
   | panicked c=>exact hP _ _ _ he
   | outgrown=>exact hL he
  case row row args=>exact⟨h.1,RowsIn.mono h.2 fun u w'' he=>hK _ _ he⟩
  case round l f tmps ts bd=>
   refine⟨h.1,RoundIn.mono h.2 fun e w'' he=>?_⟩;cases e with
   | returned u=>exact hK _ _ he
   | panicked c=>exact hP _ _ _ he
   | outgrown=>exact hL he
 | halt x w'=>
  cases x<;>simp only[Oper.uponIn]at h |-
  case panic u=>exact hP _ _ _ h
def Cv:=@List.eq_nil_iff_forall_not_mem
theorem k0l (hgd:∀ (i:Nat) (o:Oper),ops[i]?=some o->o.guard=none)(hgz:oz.guard=none)
 (hz:∀ e∈oz.after,Region.binds md e=true->e.on<ops.size) (hz2:∀ i,i<ops.size->c1n md ops oz i)
 (hfwd:∀ i o,ops[i]?=some o->∀ e∈o.after,Region.binds md e=true->e.on<i)
 (hP:∀ c a w,Q' (.panic c) a w->Q (.panic c) a w) (hL:LetsOut Q'->LetsOut Q) (hN:∀ a w,Q' .normal a w->oz.wpIn F n P a w (fun a w=>Q .normal a w) Q):
 ∀ (fuel:Nat) (listed:Array Bool) (a:Act) (w:World),listed.size=ops.size->Closed md ops listed->wpAnyIn F n P md ops Q' fuel listed a w->wpAnyIn F n P md (ops.push oz) Q (fuel+1) (listed.push false) a w:=by
 have lastStep:∀ (fuel:Nat) (listed:Array Bool) (a:Act) (w:World),listed.size=ops.size->l0J ops.size listed->Q' .normal a w->wpAnyIn F n P md (ops.push oz) Q (fuel+1) (listed.push false) a w:=by
  intro fuel listed a w hs hall hq;have hmem:ops.size∈Region.ready md (ops.push oz) (listed.push false):=by
   rw[Hb];refine⟨by rw[<- hs];simp[Array.getD],oz,by simp,fun e he hb=>?_⟩;have:=hz e he hb;rw[a0v (by omega)];exact hall _ this
  refine⟨fun h=>(by rw[h]at hmem;cases hmem),fun j hj=>?_⟩;have hje:=e0p hs hall j hj;subst hje;have hdone:Region.ready md (ops.push oz) ((listed.push false).setIfInBounds ops.size true) = []:=by
   refine Cv.2 fun k hk=>?_
   rw[Hb]at hk;obtain⟨h0,o,ho,_⟩:=hk;have hlt:k<ops.size+1:=by have:=(I7.1 ho).1;simpa using this
   by_cases hk':k=ops.size
   .subst hk';simp[Array.getD,hs]at h0
   .have h1:k<ops.size:=by omega
    have h2:=hall k h1;have h3:k<listed.size:=by omega
    simp[Array.getD,h3,Lb h3,Ne.symm hk',Lm h3]at h0 h2;rw[h0]at h2;cases h2
  unfold wpOpIn;simp only[Array.getElem?_push_size];have hw:Region.wanted oz (yielded (ops.push oz) a.tmps)=true:=by simp[Region.wanted,hgz]
  rw[J3 hw];refine Oper.wpIn_mono (fun a' w' h'=>?_) (hN a w hq);cases fuel with
  | zero=>exact⟨hdone,h'⟩
  | succ fuel=>exact⟨fun _=>h',fun k hk=>by rw[hdone]at hk;cases hk⟩
 intro fuel
 induction fuel with
 | zero=>
  intro listed a w hs _ h;exact lastStep 0 listed a w hs (d0v hfwd hs h.1) h.2
 | succ fuel ih=>
  intro listed a w hs hcl h;by_cases hall:l0J ops.size listed
  .refine lastStep (fuel+1) listed a w hs hall (h.1 (Cv.2 fun k hk=>?_));rw[Hb]at hk;obtain⟨h0,o,ho,_⟩:=hk;have h1:=(I7.1 ho).1;have h2:=hall k h1;have h3:k<listed.size:=by omega
   simp[Array.getD,h3]at h0 h2;rw[h0]at h2;cases h2
  .refine⟨fun hr=>?_,fun j hj=>?_⟩
   .have:Region.ready md ops listed = []:=Cv.2 fun k hk=>by
     have hk2:k∈Region.ready md (ops.push oz) (listed.push false):=by
      rw[Hb]at hk |-;obtain⟨h0,o,ho,hh⟩:=hk;have h1:=(I7.1 ho).1;refine⟨by rw[a0v (by omega)];exact h0,o,by rw[Df h1,<- D9 h1];exact ho,fun e he hb=>?_⟩;rw[a0v (by have:=hfwd k o ho e he hb;omega)];exact hh e he hb
     rw[hr]at hk2;cases hk2
    exact absurd (d0v hfwd hs this) hall
   .have hj':=h0k hz hz2 hfwd hs hcl hall j hj;have h1:=h.2 j hj';have hlt:j<ops.size:=by
     rw[Hb]at hj';obtain⟨_,o,ho,_⟩:=hj';exact (I7.1 ho).1
    unfold wpOpIn at h1 |-;rw[Df hlt];rw[D9 hlt]at h1;simp only at h1 |-;have hg:=hgd j _ (D9 hlt);have hw1:Region.wanted ops[j] (yielded (ops.push oz) a.tmps)=true:=by simp[Region.wanted,hg]
    have hw2:Region.wanted ops[j] (yielded ops a.tmps)=true:=by simp[Region.wanted,hg]
    rw[J3 hw1];rw[J3 hw2]at h1;refine q0f (fun a' w' h'=>?_) hP hL h1;rw[j0d (by omega)];exact ih _ _ _ (by simp[hs]) (hcl.set hj') h'
def x0b (n:Nat)(P:Program)(ops:Array Oper)(Q:Exit->Act->World->Prop)(oz:Oper):Exit->Act->World->Prop
 | .normal,a,w=>wpListIn Fence.wide n P ops Q [oz] a w
 | .panic _,_,_=>False
 | e,a,w=>Q e a w
def Dt:=@List.any_eq_true
def Gj:=@List.mem_range
def H7:=@decide_eq_true_eq
def Jc:=@Option.isNone_iff_eq_none
def Dc:=@Array.mem_toList_iff
def Fi:=@beq_iff_eq
theorem g0t {id:Nat}{a:Act}{w:World}{l:List Oper}{l0:Nat}(k:Nat)(hm:P.follows .mixedOrders=true)(hl:l.drop k = [oz])(hB:w0j (l.take k).toArray oz=true)(hX:Region.lexB .any (l.take k).toArray=true)(hd:f0P l=true)
 (h:wpQuietIn Fence.wide n P (l.take k).toArray (fun w'=>∃ n,w'=w.drewN n) (fun a'=>∀ w',(∃ n,w'=w.drewN n)->wpListIn Fence.wide n P l.toArray Q [oz] a' w') (l.take k) a):(Code.region id l.toArray true).wpIn (Fence.wide.inRound l0) n P Q a w:=by
 have he:l.toArray=(l.take k).toArray.push oz:=by
  rw[Da,<- hl,Ej]
 have hX2:=hX;simp only[Region.lexB,Aa]at hX2;have hq:=wpAnyQIn_lex (F:=Fence.wide) (n:=n) (C:=fun w'=>∃ n,w'=w.drewN n) (md:=.any) hX2.1 (l.take k).toArray.toList 0 (Array.replicate (l.take k).toArray.size false) a (by simp) (by simpa using hX2.2) (show wpQuietIn Fence.wide n P (l.take k).toArray (fun w'=>∃ n,w'=w.drewN n) (fun a'=>∀ w',(∃ n,w'=w.drewN n)->wpListIn Fence.wide n P l.toArray Q [oz] a' w') (l.take k).toArray.toList a from h);have hq2:=wpAnyIn_of_quiet (C:=fun w'=>∃ n,w'=w.drewN n) (Q:=fun a'=>∀ w',(∃ n,w'=w.drewN n)->wpListIn Fence.wide n P l.toArray Q [oz] a' w') (Q':=x0b n P l.toArray Q oz) rfl (fun a w' hw' h=>h w' hw') _ _ _ ({ w with drawn:=w.drawn+1 }:World) ⟨1,rfl⟩ hq;simp only[w0j,Aa,Bz,Dt,Gj,H7,Jc,Dc]at hB;obtain⟨⟨⟨⟨h1,h2⟩,h3⟩,h4⟩,h5⟩:=hB;have hlast:=k0l (F:=Fence.wide) (n:=n) (P:=P) (md:=.any) (ops:=(l.take k).toArray) (oz:=oz) (Q:=Q) (Q':=x0b n P l.toArray Q oz) (fun i o ho=>h1 o (by simpa using Array.mem_of_getElem? ho)) h2 (fun e he _=>h3 e he)
  (fun i hi=>by
   obtain⟨e,he,hb,hon⟩:=h4 i hi;refine⟨e,he,hb,?_⟩;simp only[Av,Fi]at hon;refine hon.imp (fun h=>h) fun hx=>?_
   split at hx
   .rename_i o ho
    simp only[Dt,Aa,Fi,Dc]at hx;obtain⟨f,hf,hfb,hfo⟩:=hx;exact⟨o,ho,f,hf,hfb,hfo⟩
   .cases hx)
  (fun i o ho e he _=>by
   have:=h5 i (I7.1 ho).1;rw[ho]at this;simp only[Bz,Dc,H7]at this;exact this e he) (fun _ _ _ h=>h.elim) (fun ⟨a,w,h⟩=>⟨a,w,h⟩) (fun a w hq=>by
    have hq':wpListIn Fence.wide n P l.toArray Q [oz] a w:=hq;unfold wpListIn at hq';have hw:Region.wanted oz (yielded l.toArray a.tmps)=true:=by simp[Region.wanted,h2]
    simpa[hw,wpListIn]using hq')
  (l.take k).toArray.size (Array.replicate (l.take k).toArray.size false) a { w with drawn:=w.drawn+1 } (by simp) (fun j o _ hj=>by simp[Array.getD]at hj) (by simpa using hq2)
 refine Ms hm (h0S rfl hd l0 _ _ _ _ ?_);have hr:Array.replicate l.toArray.size false=(Array.replicate (l.take k).toArray.size false).push false:=by
  rw[he,Ih];exact Bu
 rw[hr,he,Ih];exact hlast
end
def b0b (Q:Exit->Act->World->Prop):Exit->Act->World->Prop
 | .normal,a,w=>Q .normal a w
 | _,_,_=>False
def Ah:=@Go.callsIn_wide
theorem l0I {n:Nat}{l:List Oper}:∀ (fuel:Nat) (listed:Array Bool) (a:Act) (w:World),
 wpAny P md l.toArray (b0b Q) fuel listed a w->wpAnyIn Fence.wide n P md l.toArray Q fuel listed a w:=by
 intro fuel
 induction fuel with
 | zero=>exact fun _ _ _ h=>h
 | succ fuel ih=>
  rintro listed a w ⟨h1,h2⟩;refine⟨h1,fun i hi=>?_⟩;have h:=h2 i hi;unfold wpOp at h;unfold wpOpIn
  split at h
  .rename_i ho
   simp only[ho];exact ih _ _ _ h
  .rename_i o ho
   simp only[ho]
   split at h
   .rename_i hw
    rw[J3 hw];rcases h with h | ⟨_,a',w',h⟩
    .refine⟨fun _ _=>trivial,?_⟩;show o.uponIn Fence.wide n P a _ Q ((execOp a.eval o).run P w)
     unfold Oper.wp at h;generalize (execOp a.eval o).run P w=r at h
     cases r with
     | ok m w'=>
      cases m<;>simp only[Oper.upon,Oper.uponIn]at h |-
      case value u=>exact ih _ _ _ h
      case skip=>exact ih _ _ _ h
      case defer d=>exact ih _ _ _ h
      case enter f args=>
       refine⟨fun hx=>(by cases hx),Ah.2 (Calls.mono h fun e w'' he=>?_)⟩;cases e with
       | returned u=>exact ih _ _ _ he
       | panicked c=>exact he.elim
       | outgrown=>obtain⟨_,_,hx⟩:=he;exact hx.elim
      case row row args=>
       refine⟨fun hx=>(by cases hx),fun c cs _=>?_⟩;obtain⟨v,w'',hr,hs⟩:=h c cs;exact⟨v,w'',ih _ _ _ hr,stepsIn_wide.2 hs⟩
     | halt x w'=>
      cases x<;>simp only[Oper.upon,Oper.uponIn]at h |-
      case panic u=>exact h.elim
    .exact h.elim
   .rename_i hw
    rw[J2 hw];exact⟨fun _ _=>trivial,ih _ _ _ h⟩
def q0g (P:Program)(ops:Array Oper)(S:World->Prop)(L:Act->Prop):List Oper->Act->Prop
 | [],a=>L a
 | o::rest,a=>∃ v,YieldsIf P ops S o v a/\q0g P ops S L rest (a.put o.dst v)
def c1y (md:Region.Mode)(ops:Array Oper):Nat->Nat->Array Bool->Bool
 | 0,_,_=>true
 | m+1,k,listed=>(Region.ready md ops listed).contains k && Region.free md ops listed k && c1y md ops m (k+1) (listed.setIfInBounds k true)
def q0Q:Nat->Nat->Array Bool->Array Bool
 | 0,_,listed=>listed
 | m+1,k,listed=>q0Q m (k+1) (listed.setIfInBounds k true)
theorem o0b {S:World->Prop}(hsel:Region.noSelect ops=true){g:Nat}{w:World}(hS:S w):∀ (l:List Oper) (k:Nat) (listed:Array Bool) (a:Act),(∀ j,j<l.length->l[j]?=ops[k+j]?)->c1y md ops l.length k listed=true ->
 q0g P ops S (fun a'=>wpAnyH P md ops (b0b Q) S g (q0Q l.length k listed) a' w) l a->wpAnyH P md ops (b0b Q) S (g+l.length) listed a w
 | [],_,_,_,_,_,h=>h
 | o::l,k,listed,a,hl,hB,h=>by
  have h0:ops[k]?=some o:=by simpa using (hl 0 (by simp)).symm
  simp only[E8,c1y,Aa]at hB;obtain⟨⟨hr,hf⟩,hB'⟩:=hB;obtain⟨v,hy,hrest⟩:=h;have hQ:∀ c a w,b0b Q (.panic c) (Act.put a o.dst v) w->b0b Q (.panic c) a w:=fun _ _ _ h=>h
  exact wpAnyH_take h0 hsel hf hr hQ hy hS (o0b hsel hS l (k+1) _ _ (fun j hj=>by have:=hl (j+1) (by simp;omega);simpa[Dh,Ha 1 j]using this) hB' hrest)
def v0X (P:Program)(md:Region.Mode)(ops:Array Oper)(Q:Exit->Act->World->Prop)(S:World->Prop)(fuel:Nat)(listed:Array Bool):Exit->Act->World->Prop
 | .normal,a,w=>S w/\wpAnyH P md ops Q S fuel listed a w
 | _,_,_=>False
def Ew:=@if_true
theorem a0c {S:World->Prop}{i:Nat}{o:Oper}{fuel:Nat}{listed:Array Bool}{a:Act}{w:World}(hr:Region.ready md ops listed = [i])(ho:ops[i]?=some o)(hg:o.guard=none)
 (h:wpList P ops (v0X P md ops (b0b Q) S fuel (listed.setIfInBounds i true)) [o] a w):wpAnyH P md ops (b0b Q) S (fuel+1) listed a w:=by
 refine wpAnyH_all hr (by simp) fun j hj=>?_
 obtain rfl:j=i:=by simpa using hj
 unfold wpOp;rw[ho];have hw:Region.wanted o (yielded ops a.tmps)=true:=by simp[Region.wanted,hg]
 simp only[hw,Ew];unfold wpList at h;rw[J3 hw]at h;rcases h with h | ⟨_,_,_,h⟩
 .left
  unfold Oper.wp at *;generalize (execOp a.eval o).run P w=r at *
  cases r with
  | ok m w'=>
   cases m<;>simp only[Oper.upon]at h |-
   case value u=>exact h
   case skip=>exact h
   case defer d=>exact h
   case enter f args=>
    refine Calls.mono h fun e w'' he=>?_
    cases e with
    | returned u=>exact he
    | panicked c=>exact he.elim
    | outgrown=>obtain⟨_,_,hx⟩:=he;exact hx.elim
   case row row args=>exact h
  | halt x w'=>
   cases x<;>simp only[Oper.upon]at h |-
   case panic u=>exact h.elim
 .exact h.elim
def Mh:=@Go.wpAny_of_held
theorem p0D {n:Nat}{id:Nat}{a:Act}{w:World}{l:List Oper}{l0:Nat}(S:World->Prop)(hm:P.follows .mixedOrders=true)(hd:f0P l=true)
 (h:wpAnyH P .any l.toArray (b0b Q) S l.toArray.size (Array.replicate l.toArray.size false) a { w with drawn:=w.drawn+1 }):(Code.region id l.toArray true).wpIn (Fence.wide.inRound l0) n P Q a w:=
 Ms hm (h0S rfl hd l0 _ _ _ _ (l0I _ _ _ _ (Mh _ _ _ _ h)))
theorem e0q {n:Nat}{id:Nat}{a:Act}{w:World}{l:List Oper}{l0:Nat}(k:Nat)(S:World->Prop)(hm:P.follows .mixedOrders=true)(hd:f0P l=true)(hsel:Region.noSelect l.toArray=true)(hk:(l.take k).length=k)(hB:c1y .any l.toArray k 0 (Array.replicate l.toArray.size false)=true)(hS:S w.drew)
 (h:q0g P l.toArray S (fun a'=>wpAnyH P .any l.toArray (b0b Q) S (l.length-k) (q0Q k 0 (Array.replicate l.toArray.size false)) a' w.drew) (l.take k) a):(Code.region id l.toArray true).wpIn (Fence.wide.inRound l0) n P Q a w:=by
 refine p0D S hm hd ?_;have hk2:k<=l.length:=by rw[Ba]at hk;omega
 have:=o0b (P:=P) (md:=.any) (Q:=Q) (S:=S) hsel (g:=l.length-k) hS (l.take k) 0 (Array.replicate l.toArray.size false) a (fun j hj=>by
  rw[hk]at hj;simp[hj]) (by rw[hk];exact hB) (by rw[hk];exact h)
 rw[hk,show l.length-k+k=l.toArray.size by simp;omega]at this;exact this
end
section
open Go.Shelf Go.Lib
attribute [local go_sem] Oper.semAt_some
def h0R {T e:TypeId}{B b:Nat}{p:Value}{bs:List Value}{W W':World}(h:BuilderAtF T e B b p bs W)(hb:Below W.heap.size W W'):BuilderAtF T e B b p bs W':=by
 have hlt:=h.lt;obtain⟨hB,v,hv,hown,hne⟩:=h;exact⟨hB,v,(hb.block b hlt).trans hv,hown.kept (row:=none) ⟨hb.os,hb.tape,hb.output,hb.size,fun k hk _=>hb.block k hk⟩ (Classical.em _),hne⟩
def s0j {T e:TypeId}{B b:Nat}{bs:List Value}{W W':World}(h:IsBuilderF T e B b bs W)(hb:Below W.heap.size W W'):IsBuilderF T e B b bs W':=
 h.elim (fun x=>.inl (h0R x hb)) (fun x=>.inr (h0R x hb))
def v0U {T e:TypeId}{B b:Nat}{p:Value}{bs:List Value}{W W':World}{row:Option Nat}(h:BuilderAtF T e B b p bs W)(hg:W.grownBy W' row)(hr:∀ r,row=some r->∃ o:Obj,W.heap[r]?=some o/\o.isCells=false):BuilderAtF T e B b p bs W':=by
 have hne2:∀ k cs t f,W.heap[k]?=some (.cells cs t f)->some k≠row:=fun k cs t f hk ek=>by
  obtain⟨o,ho,hc⟩:=hr k ek.symm;rw[hk]at ho;cases ho
  cases hc
 have hlt:=h.lt;obtain⟨hB,v,hv,hown,hne⟩:=h;refine⟨hB,v,(hg.block b hlt (hne2 _ _ _ _ hv)).trans hv,hown.kept (row:=row) hg ?_,hne⟩;rcases hown.2 with ⟨rfl,_⟩ | ⟨g,cap,cur,fz,rfl,_,hgg,_⟩
 .left;rfl
 .right
  intro e';exact hne2 g _ _ _ hgg e'
theorem _root_.Go.Lib.BuilderAtF.heap {T e:TypeId}{B b:Nat}{p:Value}{bs:List Value}{W:World}(h:BuilderAtF T e B b p bs W):∃ cs,W.heap[b]?=some (.cells cs T (0,0)):=by
 obtain⟨_,v,hv,_⟩:=h;exact⟨_,hv⟩
def h0G {e:TypeId}{b B:Nat}{T:TypeId}{cs:Array Value}{f:Nat×Nat}{W W':World}(h:OthersKept e (some b) W W')(hs:W.heap.size<=W'.heap.size)(hb:W.heap[b]?=some (.cells cs T f)):KeepsFrom B W W':=
 ⟨hs,fun k o _ hk ho=>h k o hk (fun ek=>by cases ek;rw[hb]at hk;cases hk;cases ho) (fun c fz eo=>by rw[eo]at ho;cases ho)⟩
def m0W (l:List UInt8)(k:Nat):Go.Lib.byteCells l++strCells ⟨Array.replicate k 48⟩=Go.Lib.byteCells (l++List.replicate k 48):=by simp[Go.Lib.byteCells,strCells]
def t0v (l m:List UInt8):Go.Lib.byteCells l++strCells ⟨m.toArray⟩=Go.Lib.byteCells (l++m):=by simp[Go.Lib.byteCells,strCells]
def o0L (k:Nat)(h1:1<=k)(h:k<=9)(W:World):(Instr.slice 9 (.string ⟨#[48,48,48,48,48,48,48,48,48]⟩) (some (.int .i64 (k:Int))) none none).run prog W=.ok (.string ⟨(List.replicate (9-k) 48).toArray⟩) W:=by
 rw[run_slice_string_l W 9 _ Ax .i64 (k:Int) (by omega) (by simp[ByteArray.size];omega)];have hk:k=1\/k=2\/k=3\/k=4\/k=5\/k=6\/k=7\/k=8\/k=9:=by omega
 rcases hk with rfl | rfl | rfl | rfl | rfl | rfl | rfl | rfl | rfl<;>rfl
theorem l0N (k:Nat)(h1:1<=k)(h:k<=9)(W:World):(Instr.sliceAt 9 (.string ⟨#[48,48,48,48,48,48,48,48,48]⟩) (some (.int .i64 (k:Int))) none none).run prog W=.ok (.string ⟨(List.replicate (9-k) 48).toArray⟩) W:=by
 rw[run_sliceAt_string W 9 _ _ _ _ Ax];exact o0L k h1 h W
def o0R {B n0 bs:Nat}{W W':World}(h:Below W.heap.size W W')(hb:bs<W.heap.size)(hn:n0<=W.heap.size):KpB n0 bs W W'/\KeepsFrom B W W':=
 ⟨⟨h.mono hn,h.block bs hb⟩,h.size,fun k o _ hk _=>(h.block k (I7.1 hk).1).trans hk⟩
def i0j {e T T':TypeId}{B n0 bs b:Nat}{cs cs':Array Value}{W W':World}{f:Nat×Nat}(h:OthersKept e (some b) W W')(hB:Below n0 W W')(hb:W.heap[b]?=some (.cells cs T f))(hx:Blk W bs cs' T')(hne:bs≠b)(hT:T'≠e):KpB n0 bs W W'/\KeepsFrom B W W':=
 ⟨⟨hB,(h bs _ hx (fun ek=>hne (by cases ek;rfl)) (fun c fz ec=>hT (by cases ec;rfl))).trans (Eq.symm hx)⟩,h0G h hB.size hb⟩
def Fj:=@Go.callsIn_of_wp_marks
def Cw:=@Go.Proofs.enters_of
def Jl:=@Go.OwnFrom.and
def Hm:=@Go.ownFrom_below
def Nl:=@Nat.sub_zero
def j0E (w:World)(v:Value)(a:Nat)(ha:IsN .u64 w v a)(hL:Lay w)(hla:(limbs a).length<=1000000):
 qb 199 #[v] w (.string ⟨(Lib.decDigits a).toArray⟩):=by
 obtain⟨a1,c1,rfl,h1,h2,h3⟩:=ha.openI;have H3:=hid h3;clear h3 ha;by_cases h0:(limbs a).length=0
 .rw[h0];have ea:a=0:=b0Y.1 (Aw h0);refine (Ah (n:=9)).1 ?_;refine Fj func199 rfl trivial ?_ rfl;simp only[ntmps199,An,E8,Ce,Nat.reduceAdd,Nat.reduceSub,Bu,Cl,Da,Cx,Dq,Cm]
  gi_wp2
  refine⟨.string ⟨#[48]⟩,by simp[results,results199,go_sem],?_,J4 _ _⟩;rw[ea,c0f]
 .obtain⟨n,ea⟩:∃ n,(limbs a).length=n+1:=⟨(limbs a).length-1,by omega⟩;obtain⟨x,hx,hx1,hx2,hd,hv⟩:=l0d ea;obtain⟨g,o,rfl,hg,hc⟩:=H3.out n x hx;rw[ea]at h1 hla |-;have hw1:IntKind.i64.wrap (((n+1:Nat):Int)-1)=(n:Int):=by rw[U0 _ ⟨by omega,by omega⟩];omega
  obtain⟨HV,HL⟩:=zu hv hL;clear hd hv hL;refine (Ah (n:=9)).1 ?_;refine Fj func199 rfl trivial ?_ rfl;simp only[ntmps199,An,E8,Ce,Nat.reduceAdd,Nat.reduceSub,Bu,Cl,Da,Cx,Dq,Cm]
  gi_wp2_with (first
   | (refine⟨trivial,?_⟩;gi_at_call 259
      refine (Ah.2 (v0i _ x (by omega) (HL.out.call (br0.alloc nr _)))).mono ?_;rintro e W2 ⟨rfl,hb2⟩;have HI:Hid (IsBuilderF 246 5 w.heap.size w.heap.size [] W2):=s0j (IsBuilderF.of (fresh_isBuilder 246 5 w)) hb2;have HB2:Hid (Below w.heap.size w W2):=a0a (br0.alloc nr _) hb2;clear hb2)
   | (refine⟨trivial,?_⟩;gi_at_call 260
      refine (Ah.2 (Tryz.builder_WriteString w.heap.size w.heap.size [] _ _ HI.out (by simp only[Ce,ByteArray.size,An,I9];have:=a0l (n:=x) (k:=9) (by omega) (by omega);omega) HB2.out.size)).mono ?_;rintro e W3 ⟨rfl,hi3,hb3,-⟩;have HI3:=hid hi3;have HB3:Hid (Below w.heap.size w W3):=HB2.out.trans hb3;clear hi3 hb3)
   | (refine⟨trivial,?_⟩;gi_at_call 255;refine (Ah.2 (f0A _ _ _ _)).mono ?_;rintro e w' ⟨rfl,rfl⟩)
   | fail)
  obtain⟨W0,hW0⟩:=gn (W3.alloc (Obj.cells #[Value.slice (some { block:=g,off:=o }) n c1] 124));have y1:Blk W0 W3.heap.size #[.slice (some ⟨g,o,none⟩) n c1] 124:=by rw[<- hW0];exact Blk.new _ _ _
  have i0:BuilderAtF 246 5 w.heap.size w.heap.size (.pointer (some ⟨w.heap.size,0,none⟩)) (Go.Lib.byteCells (Lib.decDigits x)) W0:=by
   rw[<- hW0];have:=BuilderAtF.alloc HI3.out (Obj.cells #[Value.slice (some { block:=g,off:=o }) n c1] 124);simpa[strCells,Go.Lib.byteCells]using this
  have B0:Below w.heap.size w W0:=by rw[<- hW0];exact HB3.out.alloc HB3.out.size _
  have z0:W0.heap.size=W3.heap.size+1:=by rw[<- hW0];simp
  have lt3:w.heap.size<W3.heap.size:=HI3.out.lt;rw[hW0];obtain⟨Y1,I0,HB0,Z0,L3,HA⟩:=zf y1 i0 B0 z0 lt3 ea;clear y1 i0 B0 z0 lt3 hW0 HI HB2 HI3 HB3 hc hw1 hx;have hread:∀ W1 W2,Below W0.heap.size W0 W1->KpB w.heap.size W3.heap.size W1 W2->W2.cell? ⟨W3.heap.size,0,none⟩=some (.slice (some ⟨g,o,none⟩) n c1)/\∀ i,i<n->∃ g' o' z,(some ⟨g,o,none⟩:Option Addr)=some ⟨g',o',none⟩/\W2.cell? ⟨g',o'+i,none⟩=some (.int .u64 z)/\∃ y:Nat,z=y/\(limbs a)[i]?=some y:=fun W1 W2 b1 b2=>by
   refine⟨(b2.blk (Y1.out.call b1)).cell 0,fun i hi=>?_⟩;obtain⟨y,hy⟩:∃ y,(limbs a)[i]?=some y:=⟨_,Q0 (by rw[HA.out];omega)⟩;obtain⟨g',o',e,hg',hc⟩:=H3.out i y hy;exact⟨g',o',_,e,(((b2.1.cell (p:=⟨g',o'+i,none⟩) hg').trans (b1.cell (p:=⟨g',o'+i,none⟩) (by have:=HB0.out.size;simp;omega))).trans (HB0.out.cell (p:=⟨g',o'+i,none⟩) hg')).trans hc,y,rfl,hy⟩
  refine c0T (hM:=fun _ _ _=>trivial) (by omega) (gf:=310) (lb:=#[.pointer (some ⟨W3.heap.size,0,none⟩)]) rfl (Cw Nj (by kernel_rfl) rfl)
   (e0j (Kp:=KpB w.heap.size W3.heap.size) (V:=fun i z=>∃ y:Nat,z=y/\(limbs a)[i]?=some y) 8 (by omega) _ n c1 _ (by omega) (by omega) W0 (KpB.refl _ _) KpB.trans hread) KpB.trans (KpB.put (by have:=HB0.out.size;omega) (by have:=Z0.out;omega)) br0 (fun _=>rfl)
   (fun pre W=>(∃ l:List UInt8,BuilderAtF 246 5 w.heap.size w.heap.size (.pointer (some ⟨w.heap.size,0,none⟩)) (Go.Lib.byteCells l) W/\l=Lib.decDigits (val ((limbs a).drop (n-pre.length)))/\l.length<=9*(pre.length+1)/\0<val ((limbs a).drop (n-pre.length))/\Blk W W3.heap.size #[.slice (some ⟨g,o,none⟩) n c1] 124)/\Below w.heap.size W0 W)
   (fun c pre W=>False)
   (Jl (fun s A B row hs hg hr=>by
    obtain⟨l,h1,h2,h3,h4,h5⟩:=hs;exact⟨l,v0U h1 hg (fun r e=>(hr r e).2),h2,h3,h4,h5.kept hg (fun r e=>(hr r e).2)⟩) (Hm (by have:=HB0.out.size;omega) (by have:=HB0.out.size;omega)))
   (fun c s A B row hs hg hr=>hs)
   ⟨⟨_,I0.out,by simp[HV.out],by simp only[I9,Ce];have:=a0l (n:=x) (k:=9) (by omega) (by omega);omega,by simp only[Ce,Nl,HV.out];exact hx2,Y1.out⟩,J4 _ _⟩ ?act ?assign ?body ?done ?stop
  case assign=>
   intro l x W K hK
   gi_wp2
   exact hK
  case body=>
   rintro l pre ⟨j,z⟩ W ⟨hj,y,ez,hy⟩ ⟨⟨ds,hA,hds,hlen,hpos,hbx⟩,hB⟩;dsimp only at hj ez hy;subst ez;have hyl:y<1000000000:=(a0o a).get hy;have hk1:1<=Lib.nDigits y:=Lib.nDigits_pos y;have hk9:Lib.nDigits y<=9:=a0l (by omega) (by omega);have hlen2:(Lib.decDigits y).length=Lib.nDigits y:=Lib.decDigits_length y;have hz':=l0N (Lib.nDigits y) hk1 hk9;have e1:n-pre.length=j+1:=by omega
   rw[e1]at hds hpos;have HW:Hid (Below w.heap.size w W):=HB0.out.trans hB;obtain⟨HAA,HBX,HBB,HDS,HLN,HPO,HJ,HY⟩:=kq hA hbx hB hds hlen hpos hj hy;have LW:Hid (W3.heap.size<W.heap.size):=Blk.lt hbx;clear hA hbx hB hds hlen hpos hj hy e1
   gi_wp2_with (first
    | (refine⟨trivial,?_⟩;gi_at_call 259
       refine (Ah.2 (v0i _ y (by omega) (HL.out.call HW.out))).mono ?_;rintro e Wa ⟨rfl,hba⟩;have HIa:Hid (BuilderAtF 246 5 w.heap.size w.heap.size (.pointer (some ⟨w.heap.size,0,none⟩)) (Go.Lib.byteCells ds) Wa):=h0R HAA.out hba;have HKa:Hid (KpB w.heap.size W3.heap.size W Wa/\KeepsFrom W0.heap.size W Wa):=o0R hba LW.out HW.out.size;have HPL:=HIa.out.heap;obtain⟨cs,hcs⟩:=HPL;have HBa:Hid (w.heap.size<=Wa.heap.size):=J0 HW.out.size hba.size;have HCa:=hid hcs;clear hba hcs)
    | fail)
   refine⟨trivial,?_⟩;refine (Ah.2 (Tryz.builder_WriteString w.heap.size w.heap.size (Go.Lib.byteCells ds) _ _ (.inr HIa.out) (by simp only[Go.Lib.byteCells,Dp,ByteArray.size,Hf];have:=HLN.out;have:=HJ.out;omega) HBa.out)).mono ?_;rintro e Wb ⟨rfl,hib,hbb,hob⟩;rw[m0W]at hib;have hkb:=i0j (B:=W0.heap.size) hob hbb HCa.out (HKa.out.1.blk HBX.out) (by have:=L3.out;omega) (by decide);have HKb:Hid (KpB w.heap.size W3.heap.size W Wb/\KeepsFrom W0.heap.size W Wb):=⟨HKa.out.1.trans hkb.1,HKa.out.2.trans hkb.2⟩;have HIb:=hid hib;obtain⟨cs2,hcs2⟩:=hib.heap;have HCb:=hid hcs2;have HBb:Hid (w.heap.size<=Wb.heap.size):=J0 HBa.out hbb.size;clear hib hbb hob hkb hcs2
   gi_wp2_with fail
   refine⟨trivial,?_⟩;refine (Ah.2 (Tryz.builder_WriteString w.heap.size w.heap.size _ _ _ (.inr HIb.out) (by simp only[Go.Lib.byteCells,Dp,J5,Er,ByteArray.size,An];have:=HLN.out;have:=HJ.out;omega) HBb.out)).mono ?_;rintro e Wc ⟨rfl,hic,hbc,hoc⟩;rw[t0v,Au]at hic;have hkc:=i0j (B:=W0.heap.size) hoc hbc HCb.out (HKb.out.1.blk HBX.out) (by have:=L3.out;omega) (by decide)
   gi_wp2_with fail
   have hpre:n-(pre ++ [(j,(y:Int))]).length=j:=by rw[J5,U8];have:=HJ.out;omega
   refine⟨HKb.out.2.trans hkc.2,HKb.out.1.trans hkc.1,⟨_,hic,?_,?_,?_,(HKb.out.1.trans hkc.1).blk HBX.out⟩,HBB.out.trans ((HKb.out.1.trans hkc.1).1)⟩
   .rw[hpre,s0Y (a0o a) HY.out HPO.out,<- HDS.out];rfl
   .simp only[J5,Er,U8];have:=HLN.out;omega
   .rw[hpre,c0n HY.out];have:=HPO.out;omega
  case done=>
   rintro D xs W hD hx ⟨⟨ds,hA,hds,hlen,hpos,hbx⟩,hB⟩ hK;rw[hx,Bq,K9,a0z]at hds;obtain⟨HAA,HBB,HDS,HK,HDD⟩:=zd hA hB hds hK hD;have HLE:Hid (w.heap.size<=W.heap.size):=J0 HB0.out.size hB.size;clear hA hbx hB hds hlen hpos hx hK hD
   gi_wp2_with fail
   refine⟨trivial,?_⟩;refine (Ah.2 (Tryz.builder_String w.heap.size w.heap.size ds _ (.inr HAA.out) HLE.out)).mono ?_;rintro e Wz ⟨rfl,-,hbz,hoz⟩;have hKz:Wz.heap[D]?=some (.deferred (some [])):=hoz D _ HK.out (fun ek=>by cases ek;have:=HB0.out.size;have:=HDD.out;have:=L3.out;have:=Z0.out;omega) (fun c fz ec=>by cases ec);have HKz:=hid hKz;have HBz:Hid (Below w.heap.size w Wz):=(HB0.out.trans HBB.out).trans hbz;clear hoz hKz hbz
   gi_wp2_with fail
   refine b0X HKz.out (v:=.string ⟨ds.toArray⟩) (by simp[results,results199,go_sem]) ⟨by rw[HDS.out],?_⟩;exact HBz.out.trans (Lj (w:=w) nr _ D _ _ (by have:=HDD.out;have:=L3.out;have:=Z0.out;omega) HKz.out rfl rfl)
  case stop=>
   rintro D c pre W hD-h;exact h.elim
def a0J (s:ByteArray)(a e:Nat):(s.extract a e).data.toList=(s.data.toList.drop a).take (e-a):=by
 rw[ByteArray.data_extract,Array.toList_extract]
def Kt:=@Nat.le_mul_of_pos_left
theorem i0u:∀ (l:List UInt8) (acc:Nat),allDig l->10 ^ l.length*(acc+1)<=10 ^ 9->parseUintM 18446744073709551615 acc l=.ok (10 ^ l.length*acc+dv l)
 | [],acc,_,_=>by simp[parseUintM]
 | c::r,acc,hd,hb=>by
  have hc:=a0U.1 (hd c (by simp));have hr:allDig r:=fun b hb=>hd b (by simp[hb])
  rw[E8,E9]at hb;have hp:0<10 ^ r.length:=Gb (by omega);have h2:10 ^ r.length*(acc*10+(c.toNat-48)+1)<=10 ^ 9:=by
   refine J0 (Ad _ (show _<=10*(acc+1) by omega)) ?_;rw[<- A9];exact hb
  have ha:acc*10+(c.toNat-48)+1<=10 ^ 9:=J0 (Kt _ hp) h2;rw[parseUintM,J3 hc,J2 (by omega),J2 (by omega),i0u r _ hr h2];have e:dv (c::r)=10 ^ r.length*(c.toNat-48)+dv r:=by
   rw[show c::r = [c]++r from rfl,c0z];simp[dv]
  rw[e,E8,E9]
  congr 1
  rw[Al,M9 acc 10,<- A9];omega
def m0o {l:List UInt8}(hd:allDig l)(h0:l ≠ [])(h9:l.length<=9):parseUintB 64 l=.ok (dv l):=by
 rw[parseUintB,J2 h0];have h:=i0u l 0 hd (by simpa using Nat.pow_le_pow_right (by omega) h9);simpa using h
def a0A (s:ByteArray):s.data.toList.length=s.size:=Bh
def u0N (s:ByteArray)(hmax:s.size<=9223372036854775806)(u:Nat)(h:Lib.parseUintB 64 s.data.toList=.ok u)(w:World):
 qb 309 #[.string s,.int .i64 10,.int .i64 64] w (.tuple #[.int .u64 u,.nilIface]):=by
 refine (Tryz.strconv_ParseUint s hmax u h w).mono ?_;rintro e w' ⟨rfl,rfl | rfl⟩
 .exact⟨rfl,J4 _ _⟩
 .exact⟨rfl,Lib.bytesWorld_below _ _ _⟩
def Ao:=@Int.toNat_natCast
def c0y (w:World)(s:ByteArray)(hd:allDig s.data.toList)(hs:s.size<=1000000):
 Calls prog 252 #[.string s] w fun e w'=>i0e .u64 (dv s.data.toList) e w'/\Below w.heap.size w w':=by
 obtain⟨i0,hi,hz0,hz1,hz2⟩:=Dx g0K;have HD:=hid hd;clear hd;go_enter func252,ntmps252;go_wp2_with fail
 go_loopw [3,4,5,6] (fun o q x5 x6 wr=>∃ (l:List Nat) (t:Int),q=.int .i64 t/\t<=s.size /\ -9<=t/\l.length<=s.size-t.toNat/\Hid (ReadI s.data.toList t.toNat l)/\Hid (wr.ownsRow w.heap.size 161 1 o l.length (b0p .u64 l))/\Hid (Below w.heap.size w wr)) (fun _ q _ _ _=>(RowKit.intOf q).toNat)
 case atStart=>exact⟨[],_,rfl,by omega,by omega,by simp,ReadI.start _,Cq _ _ _ _,J4 _ _⟩
 case round=>
  obtain⟨l,t,rfl,hts,ht9,hl,hR,hO,hB⟩:=hrel;by_cases h0:t<=0
  .have q0:decide ((0:Int)<t)=false:=by simp;omega
   have e0:t.toNat=0:=by omega
   have hR2:=hR.out;rw[e0]at hR2;obtain⟨ao,co,rfl⟩:=b0l hO.out;have hrow:Row wr (.slice ao l.length co) (b0p .u64 l):=Row.of_owns hO.out;have hdone:=hR2.done;have hsm:=hR2.sm;clear hR2
   go_wp2_with (first
    | (go_at_call 254;refine (w0H wr _ l hsm hrow).mono ?_;rintro e w' ⟨⟨v',rfl,hv'⟩,rfl⟩)
    | fail)
   go_ret
   refine⟨⟨_,rfl,?_⟩,hB.out⟩;rw[<- hdone];exact hv'
  .obtain⟨e,he⟩:∃ e:Nat,t=e:=⟨t.toNat,by omega⟩;subst he;rw[Ao]at hl hR;have q0:decide ((0:Int)<(e:Int))=true:=by simp;omega
   obtain⟨a,ha⟩:∃ a:Nat,a=e-9:=⟨_,rfl⟩;have q1:IntKind.i64.wrap ((e:Int)-9)=(e:Int)-9:=U0 _ ⟨by omega,by omega⟩;have q2:max (0:Int) ((e:Int)-9)=(a:Int):=by omega
   have hle:((s.extract a e).data.toList).length=e-a:=by
    rw[a0J,Ba,Af];have:=a0A s;omega
   have hchunk:=m0o (l:=(s.extract a e).data.toList) (by rw[a0J];exact (HD.out.drop a).take _) (fun e0=>by rw[e0]at hle;simp at hle;omega) (by omega);have hlt:dv (s.extract a e).data.toList<1000000000:=by rw[a0J];exact o0s HD.out (by omega)
   have hsz:(s.extract a e).size<=9223372036854775806:=by
    have:=a0A (s.extract a e);omega
   obtain⟨z,hz⟩:=gn (dv (s.extract a e).data.toList);rw[hz]at hchunk hlt;have hnext:=hR.out.next HD.out;rw[<- ha,<- a0J,hz]at hnext;obtain⟨HN,HC,HS,HA⟩:=zc hnext hchunk hsz ha;clear hnext hchunk hsz ha hz hle hR;obtain⟨ao,co,rfl⟩:=b0l hO.out
   go_wp2_with (first
    | (go_at_call 309;refine (u0N _ HS.out z HC.out _).mono ?_;rintro e' W1 ⟨rfl,hb1⟩
       have HO1:=hid (a0C hO.out hb1);have HB1:Hid (Below w.heap.size w W1):=a0a hB.out (hb1.mono nr);clear hb1)
    | (at_builtin;refine Dz _ rfl _ _ 124 rfl w.heap.size 161 i0 (.int .u64 0) 1 8 Fy hi hz0 hz1 hz2 rfl (by decide) _ l.length _ rfl (HO1.out.alloc _) ⟨W1.heap.size,0,none⟩ 1 1 [.int .u64 (z:Int)] rfl rfl (Eu W1 (.int .u64 (z:Int)) 161) (by simp[Value.oneCell']) (by unfold maxLen;omega) (by omega) (by have:=HB1.out.size;simp;omega) ?_;intro v' w3 hown3 hgrow3 _;have HO3:=hid hown3;have HG3:=hid hgrow3;clear hown3 hgrow3)
    | fail)
   obtain⟨n1,n2⟩:=f0k (z:=z) HO1.out HB1.out HO3.out HG3.out;have et:((e:Int)-9).toNat=a:=by have:=HA.out;omega
   go_roundw
   case rel=>exact⟨l ++ [z],_,rfl,by omega,by omega,by rw[et];simp only[J5,U8];have:=HA.out;omega,by rw[et];exact HN,n1,n2⟩
   case measure=>simp[RowKit.intOf];omega
end
section
open Go.Shelf
def d0O (x y:Int):Int:=if x=0 then y else x
def h0B (w:World)(g:Nat)(x y:Int)(c0:w.cell? ⟨g,0,none⟩=some (.int .i64 x))(c1:w.cell? ⟨g,1,none⟩=some (.int .i64 y)):
 Calls prog 324 #[.slice (some ⟨g,0,none⟩) 2 2] w fun e w'=>e=.returned (.int .i64 (d0O x y))/\w=w':=by
 go_enter func324,ntmps324;go_wp2_with fail
 go_loopw [8,5] (fun i q wr=>∃ k:Nat,i=.int .i64 k/\k<=2/\Hid ((1<=k->x=0)/\(2<=k->y=0))/\w=wr) (fun i _ _=>(2-RowKit.intOf i).toNat)
 case atStart=>exact⟨0,rfl,by omega,⟨fun h=>by omega,fun h=>by omega⟩,rfl⟩
 case round=>
  obtain⟨k,rfl,hk,hz,rfl⟩:=hrel;have hk3:k=0\/k=1\/k=2:=by omega
  rcases hk3 with rfl | rfl | rfl
  .by_cases hx:x=0
   .subst hx;go_wp2_with fail;go_roundw
    case rel=>exact⟨1,rfl,by omega,⟨fun _=>by simp,fun h=>by omega⟩,by first | rfl | trivial⟩
    case measure=>simp[RowKit.intOf]
   .have q1:(x != 0)=true:=by simpa using hx
    go_wp2_with fail;go_ret
    exact⟨by rw[d0O,J2 hx];rfl,rfl⟩
  .have hx:=hz.out.1 nr;subst hx;by_cases hy:y=0
   .subst hy;go_wp2_with fail;go_roundw
    case rel=>exact⟨2,rfl,by omega,⟨fun _=>by simp,fun _=>by simp⟩,by first | rfl | trivial⟩
    case measure=>simp[RowKit.intOf]
   .have q1:(y != 0)=true:=by simpa using hy
    go_wp2_with fail;go_ret
    exact⟨by rw[d0O,J3 rfl];rfl,rfl⟩
  .have hx:=hz.out.1 (by omega);have hy:=hz.out.2 nr;subst hx;subst hy;go_wp2_with fail;go_ret
   exact⟨by rw[d0O,J3 rfl];rfl,rfl⟩
def n0G (n:Nat):ByteArray:=if 4000<nDigits n then ⟨#[]⟩ else a0f n
def g0H (w:World)(v:Value)(n:Nat)(h:IsN .u64 w v n)(hl:(limbs n).length<=1000000)(hL:Lay w):
 qb 281 #[v] w (.tuple #[.string (n0G n),.int .i64 (k0I n)]):=by
 obtain⟨a,c,rfl,_⟩:=h.openI;obtain⟨H,HL,HY⟩:=zg h hl hL;have hbd:=j0z hl (by omega);obtain⟨D,hD⟩:=gn (nDigits n);have P:=hid (c0r w _ n h hL hl);rw[hD]at P hbd;by_cases hlong:4000<D
 .have e1:n0G n=⟨#[]⟩:=J3 (by omega);have e2:k0I n=5:=q0Z (by omega);have q0:decide ((4000:Int)<(D:Int))=true:=by simp;omega
  rw[e1,e2];clear hlong h hl hL e1 e2 hD;go_enter func281,ntmps281
  go_wp2_with (first
   | (go_at_call 198;refine ny P fun w1 hb1=>?_)
   | fail)
  go_ret2
  exact⟨rfl,hb1⟩
 .have e1:n0G n=a0f n:=J2 (by omega);have e2:k0I n=0:=x0N (by omega);have q0:decide ((4000:Int)<(D:Int))=false:=by simp;omega
  rw[e1,e2];clear hlong h hl hL e1 e2 hD;go_enter func281,ntmps281
  go_wp2_with (first
   | (go_at_call 198;refine ny P fun w1 hb1=>?_
      have y1:=hid hb1;clear hb1)
   | (go_at_call 199;refine nj (j0E _ _ n (H.out.call y1.out) (HY.out.call y1.out) HL.out) fun w2 hb2=>?_
      have y2:=qx y1 hb2;clear hb2)
   | fail)
  go_ret2
  exact⟨rfl,y2.out⟩
end
section
def u0r (n:Nat)(hn:n<=3000000)(W:World):(Instr.makeSlice 124 (.int .i64 0) (.int .i64 (n:Int))).run prog W=.ok (.slice (some ⟨W.heap.size,0,none⟩) 0 n) (W.alloc (.cells (madeCells #[.int .u64 0] n) 161)):=
 run_make_room (P:=prog) 124 161 (.int .u64 0) 8 Fy (by kernel_rfl) rfl .i64 .i64 n (by omega) (by omega) W
def Ke:=@Go.World.ownsRow_made
def r0x (w:World)(n:Nat)(hn:n<=3000000):(w.alloc (.cells (madeCells #[.int .u64 0] n) 161)).ownsRow w.heap.size 161 1 (.slice (some ⟨w.heap.size,0,none⟩) 0 n) 0 []:=
 Ke w _ n nr (by unfold maxLen;omega) (by have:=size_madeCells #[Value.int .u64 0] n;simpa using this)
def Ee:=@Int.natCast_add
def Bn:=@Bool.false_eq_true
def Eh:=@if_false
def s0f (w:World)(v u:Value)(a b:Nat)(ha:IsN .u64 w v a)(hb:IsN .u64 w u b)(lt:Bool)(hlt:lt=true->(limbs b).length<(limbs a).length)(hle:(limbs b).length<=(limbs a).length)(hla:(limbs a).length<=1000000)(hlb:(limbs b).length<=1000000):
 Calls prog 194 (if lt then #[u,v] else #[v,u]) w fun e w'=>i0e .u64 (a+b) e w'/\Below w.heap.size w w':=by
 obtain⟨i0,hi,hz0,hz1,hz2⟩:=Dx g0K;obtain⟨a1,c1,rfl,h1,h2,h3⟩:=ha.openI;obtain⟨a2,c2,rfl,k1,k2,k3⟩:=hb.openI;obtain⟨H3,K3⟩:=zu h3 k3;clear h3 k3 ha hb;obtain⟨n,ea⟩:=gn ((limbs a).length);obtain⟨m,eb⟩:=gn ((limbs b).length);rw[ea]at h1 hla hle hlt |-;rw[eb]at k1 hlb hle hlt |-;obtain⟨HA,HB⟩:=zu ea eb;clear ea eb;have hmk:∀ W:World,(Instr.makeSlice 124 (.int .i64 0) (.int .i64 ((n:Int)+1))).run prog W=.ok (.slice (some ⟨W.heap.size,0,none⟩) 0 (n+1)) (W.alloc (.cells (madeCells #[.int .u64 0] (n+1)) 161)):=fun W=>by
  have:=u0r (n+1) (by omega) W;rwa[Ee]at this
 have hmn:m<=n:=by omega
 clear hle;cases lt
 focus
  have q0:decide (n<m)=false:=by simp;omega
  simp only[Bn,Eh];go_enter func194,ntmps194;go_wp2_with fail
 rotate_left
 focus
  have q0:decide (m<n)=true:=by have:=hlt rfl;simp;omega
  simp only[Ew];go_enter func194,ntmps194;go_wp2_with fail
 all_goals
  clear hmk q0
  go_loopw [5,6,7,8,22] (fun o cc jj nn ii wr=>∃ (s:List Nat) (c:Nat),ii=.int .i64 s.length/\cc=.int .u64 c/\c<=1/\s.length<=n/\Hid (PlusI a b s c)/\Hid (wr.ownsRow w.heap.size 161 1 o s.length (b0p .u64 s))/\Hid (Below w.heap.size w wr))
   (fun _ _ _ _ ii _=>n-(intOf ii).toNat)
  case atStart=>exact⟨[],0,rfl,rfl,by omega,by simp,PlusI.start a b,r0x w (n+1) (by omega),br0.alloc nr _⟩
  case round=>
   obtain⟨s,c,rfl,rfl,hc1,hs1,hP,hO,hB⟩:=hrel;obtain⟨ao,co,rfl⟩:=b0l hO.out;by_cases hA:s.length<n
   .obtain⟨x,hx⟩:∃ x,(limbs a)[s.length]?=some x:=⟨_,Q0 (by rw[HA.out];exact hA)⟩;obtain⟨g,og,rfl,hg,hc⟩:=H3.out _ x hx;have hc':=(hB.out.cell (p:=⟨g,og+s.length,none⟩) hg).trans hc;have hxl:=(a0o a).get hx;have HX:=hid hx;clear hx hc;have HN:=hid (hP.out.next (by rw[HA.out];exact .inl hA));by_cases hB':s.length<m
    focus
     obtain⟨y,hy⟩:∃ y,(limbs b)[s.length]?=some y:=⟨_,Q0 (by rw[HB.out];exact hB')⟩;obtain⟨g',og',rfl,hg',hd⟩:=K3.out _ y hy;have hd':=(hB.out.cell (p:=⟨g',og'+s.length,none⟩) hg').trans hd;have hyl:=(a0o b).get hy;rw[a0K HX.out,a0K hy]at HN;clear hy hd;obtain⟨t,ht⟩:=gn (x+c+y)
    rotate_left
    focus
     rw[a0K HX.out,b0h (by rw[HB.out];omega)]at HN;obtain⟨t,ht⟩:=gn (x+c+0)
    all_goals
     rw[ht]at HN;have HT:=hid ht;clear ht;go_wp2_with (at_builtin;refine Dz _ rfl _ _ 124 rfl w.heap.size 161 i0 (.int .u64 0) 1 8 Fy hi hz0 hz1 hz2 rfl (by decide) _ s.length _ rfl (hO.out.alloc _) ⟨wr.heap.size,0,none⟩ 1 1 [_] rfl rfl (Eu wr _ _) (by simp[Value.oneCell']) (by unfold maxLen;omega) (by omega) (by have:=hB.out.size;simp;omega) ?_;intro v' w3 hown3 hgrow3 _;have HO3:=hid hown3;have HG3:=hid hgrow3;clear hown3 hgrow3)
     obtain⟨n1,n2⟩:=f0j (z:=t%1000000000) hO.out hB.out HO3.out HG3.out (by have:=HT.out;omega);obtain⟨N1,N2⟩:=zu n1 n2;clear n1 n2 HO3 HG3;obtain⟨a3,k3,rfl⟩:=b0l N1.out;go_wp2_with fail;go_roundw
     case rel=>exact⟨s ++ [t%1000000000],t / 1000000000,by simp,by have:=HT.out;go_num,HN.out.c1,by simp<;>omega,HN,N1,N2⟩
     case measure=>simp[intOf]<;>omega
   .obtain rfl:s.length=n:=by omega
    rcases (show c=0\/c=1 by omega) with rfl | rfl
    .have hs:=hid (hP.out.done (by rw[HA.out];exact hA) (by rw[HB.out];omega) rfl);go_wp2_with fail;go_ret
     exact⟨⟨_,rfl,g0F hO.out (by rw[hs.out])⟩,hB.out⟩
    .have HN:=hid (hP.out.next (by exact .inr (.inr (by omega))));rw[b0h (by rw[HA.out];omega),b0h (by rw[HB.out];omega)]at HN;have HD:=hid (HN.out.done (by simp[HA.out]) (by simp[HB.out];omega) rfl);obtain⟨t,ht⟩:=gn (0+1+0);rw[ht]at HN HD;have HT:=hid ht;clear ht;go_wp2_with (at_builtin;refine Dz _ rfl _ _ 124 rfl w.heap.size 161 i0 (.int .u64 0) 1 8 Fy hi hz0 hz1 hz2 rfl (by decide) _ s.length _ rfl (hO.out.alloc _) ⟨wr.heap.size,0,none⟩ 1 1 [_] rfl rfl (Eu wr _ _) (by simp[Value.oneCell']) (by unfold maxLen;omega) (by omega) (by have:=hB.out.size;simp;omega) ?_;intro v' w3 hown3 hgrow3 _;have HO3:=hid hown3;have HG3:=hid hgrow3;clear hown3 hgrow3)
     obtain⟨n1,n2⟩:=f0j (z:=t%1000000000) hO.out hB.out HO3.out HG3.out (by have:=HT.out;omega);obtain⟨N1,N2⟩:=zu n1 n2;clear n1 n2 HO3 HG3;obtain⟨a3,k3,rfl⟩:=b0l N1.out;go_wp2_with fail;go_ret
     exact⟨⟨_,rfl,g0F N1.out (by rw[HD.out])⟩,N2.out⟩
def b1u (w:World)(v u:Value)(a b:Nat)(ha:IsN .u64 w v a)(hb:IsN .u64 w u b)(hla:(limbs a).length<=1000000)(hlb:(limbs b).length<=1000000):
 Calls prog 194 #[v,u] w fun e w'=>i0e .u64 (a+b) e w'/\Below w.heap.size w w':=by
 by_cases h:(limbs b).length<=(limbs a).length
 .exact s0f w v u a b ha hb false (fun h=>by cases h) h hla hlb
 .rw[Ha];exact s0f w u v b a hb ha true (fun _=>by omega) (by omega) hlb hla
def RetOwn (k:IntKind)(t:TypeId)(B n:Nat)(e:Ending)(w':World):Prop:=∃ v,e=.returned v/\w'.ownsRow B t 1 v (limbs n).length (b0p k (limbs n))
theorem RetOwn.retN {k:IntKind}{t:TypeId}{B n:Nat}{e:Ending}{w':World}(h:RetOwn k t B n e w'):i0e k n e w':=by
 obtain⟨v,he,ho⟩:=h;exact⟨v,he,Row.of_owns ho⟩
def Dr:=@Nat.mul_one
theorem Arr.owns {k:IntKind}{t:TypeId}{w:World}{g B m c:Nat}{l:List Nat}(h:Arr k t w g l)(hB:B<=g)(hm:m<=l.length)(hc:c=l.length)(hm2:c<=maxLen):w.ownsRow B t 1 (.slice (some ⟨g,0,none⟩) m c) m (b0p k (l.take m)):=by
 refine⟨by rw[ints_length,M6 hm,Dr],.inr ⟨g,c,_,rfl,hB,h,by omega,hm2,by simp[hc],?_⟩⟩;simp[d0J]
def Bp:=@Int.natCast_mul
def Ci:=@Go.IntWalk.u64_in
def h0F (w:World)(v u:Value)(a b:Nat)(ha:IsN .u64 w v a)(hb:IsN .u64 w u b)(hla:(limbs a).length<=1000000)(hlb:(limbs b).length<=1000000):
 Calls prog 191 #[v,u] w fun e w'=>RetOwn .u64 161 w.heap.size (a*b) e w'/\Below w.heap.size w w':=by
 obtain⟨a1,c1,rfl,h1,h2,h3⟩:=ha.openI;obtain⟨a2,c2,rfl,k1,k2,k3⟩:=hb.openI;obtain⟨H3,K3⟩:=zu h3 k3;clear h3 k3 ha hb;obtain⟨n,ea⟩:=gn ((limbs a).length);obtain⟨m,eb⟩:=gn ((limbs b).length);rw[ea]at h1 hla |-;rw[eb]at k1 hlb |-;obtain⟨HA,HB⟩:=zu ea eb;clear ea eb;have hmk:∀ W:World,(Instr.makeSlice 124 (.int .i64 ((n:Int)+m)) (.int .i64 ((n:Int)+m))).run prog W=.ok (.slice (some ⟨W.heap.size,0,none⟩) (n+m) (n+m)) (W.alloc (.cells (madeCells #[.int .u64 0] (n+m)) 161)):=fun W=>by
  have:=g0I (n+m) (by omega) W;rwa[Ee]at this
 go_enter func191,ntmps191;go_wp2_with fail;clear hmk
 go_loopw [6,7,8,9,10,11,20] (fun s6 s7 s8 s9 s10 s11 ii wr=>∃ (k:Nat) (o:List Nat),ii=.int .i64 k/\k<=n/\Hid (MulI a b k o)/\Hid (Arr .u64 161 wr w.heap.size o)/\Hid (Below w.heap.size w wr)) (fun _ _ _ _ _ _ ii _=>n-(intOf ii).toNat)
 case atStart=>exact⟨0,_,rfl,K5 _,MulI.start a b,by rw[HA.out,HB.out];exact Arr.made w .u64 161 (n+m),br0.alloc nr _⟩
 case round=>
  obtain⟨i,o,rfl,hin,hM,hO,hB⟩:=hrel;by_cases hlt:i<n
  .obtain⟨x,hx⟩:∃ x,(limbs a)[i]?=some x:=⟨_,Q0 (by rw[HA.out];exact hlt)⟩;obtain⟨g,og,rfl,hg,hc⟩:=H3.out _ x hx;have d0:=(hB.out.cell (p:=⟨g,og+i,none⟩) hg).trans hc;have HX:=hid hx;clear hx hc;have hsize:=hid (show o.length=n+m from by rw[hM.out.len,HA.out,HB.out]);go_wp2_with fail;clear d0;obtain⟨wo,rfl⟩:=qu wr
   go_loopw [8,9,10,11,27] (fun cc s9 s10 s11 kk wq=>∃ (c k:Nat) (o:List Nat),cc=.int .u64 c/\kk=.int .i64 k/\k<=m/\Hid (MulJ a b i x k c o)/\Hid (Arr .u64 161 wq w.heap.size o)/\Hid (Below w.heap.size w wq)) (fun _ _ _ _ kk _=>m-(intOf kk).toNat)
   case atStart=>exact⟨0,0,o,rfl,rfl,K5 _,hM.out.enter,hO,hB⟩
   case round=>
    obtain⟨c,k,o,rfl,rfl,hkm,hJ,hO,hB⟩:=hrel;have hsz:Hid (o.length=n+m):=by rw[Hid,hJ.out.len,HA.out,HB.out]
    by_cases hkl:k<m
    .obtain⟨y,hy⟩:∃ y,(limbs b)[k]?=some y:=⟨_,Q0 (by rw[HB.out];exact hkl)⟩;obtain⟨g',og',rfl,hg',hd⟩:=K3.out _ y hy;obtain⟨old,ho⟩:∃ old,o[i+k]?=some old:=⟨_,Q0 (by rw[hsz.out];omega)⟩;have d2:=(hB.out.cell (p:=⟨g',og'+k,none⟩) hg').trans hd;have d3:=hO.out.cell ho;have d4:=hO.out.free (i+k);have hb1:=d0G (hJ.out.sm.get ho) ((a0o a).get HX.out) ((a0o b).get hy) hJ.out.c1;have HN:=hid (hJ.out.next HX.out hy ho);have hol:=hJ.out.sm.get ho;have hcl:=hJ.out.c1;have HP:=hid (show ((x:Int)*(y:Int))=((x*y:Nat):Int) from (Bp x y).symm);obtain⟨p,hp⟩:=gn (x*y);rw[hp]at hb1 HN HP;have hb1:=hb1.1;clear hd hy ho hp;have e5:IntKind.u64.wrap ((x:Int)*(y:Int))=(p:Int):=by rw[HP.out];exact Ci _ (by omega)
     go_wp2_with fail;clear e5;go_roundw
     case rel=>
      have hz:(((old:Int)+p+c)%1000000000)=(((old+p+c)%1000000000:Nat):Int):=by omega
      rw[hz];exact⟨(old+p+c) / 1000000000,k+1,_,by go_num,by go_num,by omega,HN,hO.out.set (i+k) _,a0X hB.out nr _⟩
     case measure=>simp[intOf]<;>omega
    .obtain rfl:k=m:=by omega
     have HJ:=hid (show MulI a b (i+1) (o.set (i+k) c) from by have:=hJ.out;rw[<- HB.out]at this |-;exact this.leave HX.out);obtain⟨z,hz⟩:∃ z,o[i+k]?=some z:=⟨_,Q0 (by rw[hsz.out];omega)⟩;have d3:=hO.out.cell hz;have d4:=hO.out.free (i+k);clear hz;go_wp2_with fail;go_roundw
     case rel=>exact⟨i+1,_,by go_num,by omega,HJ,hO.out.set (i+k) c,a0X hB.out nr _⟩
     case measure=>simp[intOf]<;>omega
  .obtain rfl:i=n:=by omega
   obtain⟨hv,hl⟩:=zu (show val o=a*b from MulI.done (by have:=hM.out;rw[<- HA.out]at this;exact this)) (show o.length=i+m from by rw[hM.out.len,HA.out,HB.out])
   have hr:=hid (show Row wr (.slice (some ⟨w.heap.size,0,none⟩) (i+m) (i+m)) (b0p .u64 o) from by
    have:=hO.out.row (n:=i+m) (c:=i+m) (by rw[hl.out];exact O4 _) nr (by unfold maxLen;omega);rwa[E7 (by rw[hl.out];exact O4 _)]at this)
   have ht:=hid (i0h hM.out.sm);rw[hv.out]at ht;go_wp2_with (go_at_call 254;have htr:=f0q wr (some ⟨w.heap.size,0,none⟩) (i+m) o hM.out.sm (by rw[hl.out];exact hr.out);rw[hl.out,hv.out]at htr;refine htr.mono ?_;clear htr;rintro e w1 ⟨rfl,rfl⟩)
   go_ret
   refine⟨⟨_,rfl,?_⟩,hB.out⟩;have:=Arr.owns (B:=w.heap.size) (m:=(limbs (a*b)).length) (c:=i+m) hO.out nr ht.out.1 hl.out.symm (by unfold maxLen;omega);rwa[ht.out.2]at this
def i0b (w:World)(v u:Value)(a b:Nat)(ha:IsN .u64 w v a)(hb:IsN .u64 w u b)(hla:(limbs a).length<=1000000)(hlb:(limbs b).length<=1000000):
 Calls prog 191 #[v,u] w fun e w'=>i0e .u64 (a*b) e w'/\Below w.heap.size w w':=
 (h0F w v u a b ha hb hla hlb).mono fun e w' h=>⟨h.1.retN,h.2⟩
structure SubA (a b i c:Nat)(o:List Nat):Prop where
 len:o.length=(limbs a).length
 inv:MinusI a b (o.take i) c
def Du:=@List.take_zero
theorem SubA.start (a b:Nat):SubA a b 0 0 (List.replicate (limbs a).length 0):=⟨by simp,by rw[Du];exact MinusI.start a b⟩
theorem SubA.next {a b i c z c':Nat}{o:List Nat}(h:SubA a b i c o)(hi:i<(limbs a).length)(hz:(limbs a).getD i 0+1000000000*c'=z+c+(limbs b).getD i 0)(h1:z<1000000000)(h2:c'<=1):SubA a b (i+1) c' (o.set i z):=by
 have hl:i<o.length:=by rw[h.len];exact hi
 have hti:(o.take i).length=i:=M6 (by omega);refine⟨by rw[Bj,h.len],?_⟩;have:=h.inv.next (z:=z) (c':=c') (by rw[hti];exact hz) h1 h2;rwa[show (o.set i z).take (i+1)=o.take i ++ [z] from ?_]
 rw[Fe (by simpa using hl),Jk nr];simp
theorem SubA.done {a b c:Nat}{o:List Nat}(h:SubA a b (limbs a).length c o)(hle:b<=a):val o=a-b/\Sm o:=by
 have ht:o.take (limbs a).length=o:=E7 (by rw[h.len];exact O4 _);have hi:=h.inv;rw[ht]at hi;exact⟨hi.done h.len hle,hi.sm⟩
def y0A (w:World)(v u:Value)(a b:Nat)(ha:IsN .u64 w v a)(hb:IsN .u64 w u b)(hle:b<=a)(hla:(limbs a).length<=1000000):
 Calls prog 195 #[v,u] w fun e w'=>i0e .u64 (a-b) e w'/\Below w.heap.size w w':=by
 obtain⟨a1,c1,rfl,h1,h2,h3⟩:=ha.openI;obtain⟨a2,c2,rfl,k1,k2,k3⟩:=hb.openI;obtain⟨H3,K3⟩:=zu h3 k3;clear h3 k3 ha hb;have hmn:=a0h hle;obtain⟨n,ea⟩:=gn ((limbs a).length);obtain⟨m,eb⟩:=gn ((limbs b).length);rw[ea]at h1 hla hmn |-;rw[eb]at k1 hmn |-;obtain⟨HA,HB,HL⟩:=zg ea eb hle;clear ea eb hle;have hmk:=fun W=>g0I n (by omega) W
 go_enter func195,ntmps195;go_wp2_with fail;clear hmk
 go_loopw [6,7,8,9,15] (fun cc s7 s8 s9 ii wr=>∃ (i c:Nat) (o:List Nat),ii=.int .i64 i/\cc=.int .u64 c/\c<=1/\i<=n/\Hid (SubA a b i c o)/\Hid (Arr .u64 161 wr w.heap.size o)/\Hid (Below w.heap.size w wr))
  (fun _ _ _ _ ii _=>n-(intOf ii).toNat)
 case atStart=>exact⟨0,0,_,rfl,rfl,by omega,by omega,SubA.start a b,by rw[HA.out];exact Arr.made w .u64 161 n,br0.alloc nr _⟩
 case round=>
  obtain⟨i,c,o,rfl,rfl,hc1,hin,hS,hO,hB⟩:=hrel;have hol:=hid (show o.length=n from by rw[hS.out.len,HA.out]);by_cases hA:i<n
  .obtain⟨x,hx⟩:∃ x,(limbs a)[i]?=some x:=⟨_,Q0 (by rw[HA.out];exact hA)⟩;obtain⟨g,og,rfl,hg,hc⟩:=H3.out _ x hx;have hc':=(hB.out.cell (p:=⟨g,og+i,none⟩) hg).trans hc;have hxl:=(a0o a).get hx;have HX:=hid hx;clear hx hc;obtain⟨z0,hz0⟩:∃ z,o[i]?=some z:=⟨_,Q0 (by rw[hol.out];exact hA)⟩;have d3:=hO.out.cell hz0;have d4:=hO.out.free i;clear hz0;by_cases hB':i<m
   .obtain⟨y,hy⟩:∃ y,(limbs b)[i]?=some y:=⟨_,Q0 (by rw[HB.out];exact hB')⟩;obtain⟨g',og',rfl,hg',hd⟩:=K3.out _ y hy;have hd':=(hB.out.cell (p:=⟨g',og'+i,none⟩) hg').trans hd;have hyl:=(a0o b).get hy;have HY:=hid hy;clear hy hd;by_cases hneg:x<c+y
    .have q1:decide ((x:Int)<(c:Int)+(y:Int))=true:=by simp;omega
     have HN:=hid (hS.out.next (z:=x+1000000000-(c+y)) (c':=1) (by rw[HA.out];exact hA) (by rw[a0K HX.out,a0K HY.out];omega) (by omega) (by omega));go_wp2_with fail;go_roundw
     case rel=>
      have hz:((x:Int)+1000000000-((c:Int)+y))=((x+1000000000-(c+y):Nat):Int):=by omega
      exact⟨i+1,1,_,by go_num,rfl,by omega,by omega,HN,by rw[hz];exact hO.out.set i _,a0X hB.out nr _⟩
     case measure=>simp[intOf]<;>omega
    .have q1:decide ((x:Int)<(c:Int)+(y:Int))=false:=by simp;omega
     have HN:=hid (hS.out.next (z:=x-(c+y)) (c':=0) (by rw[HA.out];exact hA) (by rw[a0K HX.out,a0K HY.out];omega) (by omega) (by omega));go_wp2_with fail;go_roundw
     case rel=>
      have hz:((x:Int)-((c:Int)+y))=((x-(c+y):Nat):Int):=by omega
      exact⟨i+1,0,_,by go_num,rfl,by omega,by omega,HN,by rw[hz];exact hO.out.set i _,a0X hB.out nr _⟩
     case measure=>simp[intOf]<;>omega
   .by_cases hneg:x<c
    .have q1:decide ((x:Int)<(c:Int))=true:=by simp;omega
     have HN:=hid (hS.out.next (z:=x+1000000000-c) (c':=1) (by rw[HA.out];exact hA) (by rw[a0K HX.out,b0h (by rw[HB.out];omega)];omega) (by omega) (by omega));go_wp2_with fail;go_roundw
     case rel=>
      have hz:((x:Int)+1000000000-(c:Int))=((x+1000000000-c:Nat):Int):=by omega
      exact⟨i+1,1,_,by go_num,rfl,by omega,by omega,HN,by rw[hz];exact hO.out.set i _,a0X hB.out nr _⟩
     case measure=>simp[intOf]<;>omega
    .have q1:decide ((x:Int)<(c:Int))=false:=by simp;omega
     have HN:=hid (hS.out.next (z:=x-c) (c':=0) (by rw[HA.out];exact hA) (by rw[a0K HX.out,b0h (by rw[HB.out];omega)];omega) (by omega) (by omega));go_wp2_with fail;go_roundw
     case rel=>
      have hz:((x:Int)-(c:Int))=((x-c:Nat):Int):=by omega
      exact⟨i+1,0,_,by go_num,rfl,by omega,by omega,HN,by rw[hz];exact hO.out.set i _,a0X hB.out nr _⟩
     case measure=>simp[intOf]<;>omega
  .obtain rfl:i=n:=by omega
   have hv:=hid (show val o=a-b/\Sm o from SubA.done (by have:=hS.out;rw[<- HA.out]at this;exact this) HL.out)
   have hr:=hid (show Row wr (.slice (some ⟨w.heap.size,0,none⟩) i i) (b0p .u64 o) from by
    have:=hO.out.row (n:=i) (c:=i) (by rw[hol.out];exact O4 _) nr (by unfold maxLen;omega);rwa[E7 (by rw[hol.out];exact O4 _)]at this)
   go_wp2_with (go_at_call 254;refine (w0H _ _ o hv.out.2 hr.out).mono ?_;rintro e w1 ⟨⟨v1,rfl,hv1⟩,rfl⟩)
   go_ret
   exact⟨⟨v1,rfl,by rw[<- hv.out.1];exact hv1⟩,hB.out⟩
open Go.Shelf
attribute [local go_sem] Oper.semAt_some
def Fk:=@Nat.lt_trichotomy
def z0p (x y:Nat)(w:World):Calls prog 84 #[.int .i64 x,.int .i64 y] w fun e w'=>e=.returned (.int .i64 (b0g x y))/\w=w':=by
 rcases Fk x y with h | h | h
 .have q1:decide (x<y)=true:=by simpa using h
  have HO:=hid (b0N h);clear h;go_enter func84,ntmps84;go_wp2
  go_ret
  exact⟨a0R HO.out.symm,rfl⟩
 .subst h;have q1:decide (x<x)=false:=by simp
  have HO:=hid (c0P (a:=x));go_enter func84,ntmps84;go_wp2
  go_ret
  exact⟨a0R HO.out.symm,rfl⟩
 .have q1:decide (x<y)=false:=by simp;omega
  have q2:decide (y<x)=true:=by simpa using h
  have HO:=hid (c0k h);clear h;go_enter func84,ntmps84;go_wp2
  go_ret
  exact⟨a0R HO.out.symm,rfl⟩
def z0o (x y:Nat)(w:World):Calls prog 256 #[.int .u64 x,.int .u64 y] w fun e w'=>e=.returned (.int .i64 (b0g x y))/\w=w':=by
 rcases Fk x y with h | h | h
 .have q1:decide (x<y)=true:=by simpa using h
  have HO:=hid (b0N h);clear h;go_enter func256,ntmps256;go_wp2
  go_ret
  exact⟨a0R HO.out.symm,rfl⟩
 .subst h;have q1:decide (x<x)=false:=by simp
  have HO:=hid (c0P (a:=x));go_enter func256,ntmps256;go_wp2
  go_ret
  exact⟨a0R HO.out.symm,rfl⟩
 .have q1:decide (x<y)=false:=by simp;omega
  have q2:decide (y<x)=true:=by simpa using h
  have HO:=hid (c0k h);clear h;go_enter func256,ntmps256;go_wp2
  go_ret
  exact⟨a0R HO.out.symm,rfl⟩
def Nm:=@Nat.lt_or_gt_of_ne
def u0R {a b:Nat}(h:(limbs a).length≠(limbs b).length):b0g (limbs a).length (limbs b).length=b0g a b:=by
 rcases Nm h with h | h
 .rw[b0N h,b0N (c0K h)]
 .rw[c0k h,c0k (c0K h)]
def v0j (w:World)(v u:Value)(a b:Nat)(ha:IsN .u64 w v a)(hb:IsN .u64 w u b)(hne:(limbs a).length≠(limbs b).length):
 qb 192 #[v,u] w (.int .i64 (b0g a b)):=by
 obtain⟨a1,c1,rfl,h1,h2,-⟩:=ha.openI;obtain⟨a2,c2,rfl,k1,k2,-⟩:=hb.openI;clear ha hb;have HO:=hid (u0R hne);obtain⟨n,ea⟩:=gn ((limbs a).length);obtain⟨m,eb⟩:=gn ((limbs b).length);rw[ea]at h1 hne HO |-;rw[eb]at k1 hne HO |-;have q0:((n:Int) != (m:Int))=true:=by simp;omega
 clear ea eb hne;go_enter func192,ntmps192;go_wp2_with (go_at_call 84;refine (z0p _ _ _).mono ?_;rintro e w' ⟨rfl,rfl⟩)
 rw[HO.out];exact C7 (v:=.int .i64 (b0g a b)) (by simp[results,results192,go_sem]) rfl ⟨rfl,((br0.alloc nr _).alloc (by simp) _).alloc (by simp;omega) _⟩
def s0T {l:List Nat}{n k:Nat}(h:l.length=n)(hk:n<=k):l.drop k = []:=Cj (by omega)
def m0q {a b n j x y:Nat}(ha:(limbs a).length=n)(hb:(limbs b).length=n)(hx:(limbs a)[j]?=some x)(hy:(limbs b)[j]?=some y)(hd:(limbs a).drop (j+1)=(limbs b).drop (j+1))(hne:¬ x=y):b0g x y=b0g a b:=by
 rcases Nm hne with h | h
 .rw[b0N h,b0N (f0l (ha.trans hb.symm) hx hy hd h)]
 .rw[c0k h,c0k (f0l (hb.trans ha.symm) hy hx hd.symm h)]
def Mi:=@Go.wpQuietIn_nil
def Ai:=@Go.KeepsOthers.setCell
def Cg:=@List.getElem?_cons_zero
def v0k (w:World)(v u:Value)(a b:Nat)(ha:IsN .u64 w v a)(hb:IsN .u64 w u b)(hne:(limbs a).length=(limbs b).length)(hlen:(limbs a).length<=1000000):
 qb 192 #[v,u] w (.int .i64 (b0g a b)):=by
 obtain⟨a1,c1,rfl,h1,h2,h3⟩:=ha.openI;obtain⟨a2,c2,rfl,k1,k2,k3⟩:=hb.openI;obtain⟨H3,K3⟩:=zu h3 k3;clear h3 k3 ha hb;obtain⟨n,ea⟩:=gn ((limbs a).length);have eb:(limbs b).length=n:=hne.symm.trans ea;rw[ea]at h1 hlen |-;rw[eb]at k1 |-;obtain⟨HA,HB⟩:=zu ea eb;clear hne ea eb;refine (Ah (n:=9)).1 ?_;refine Fj func192 rfl trivial ?_ rfl;simp only[ntmps192,An,E8,Ce,Nat.reduceAdd,Nat.reduceSub,Bu,Cl,Da,Cx,Dq,Cm]
 gi_wp2_with (refine⟨trivial,?_⟩;gi_at_call 255;refine (Ah.2 (f0A _ _ _ _)).mono ?_;rintro e w' ⟨rfl,rfl⟩)
 obtain⟨W0,hW0⟩:=gn ((((w.alloc (.cells #[.slice a1 n c1] 124)).alloc (.cells #[.slice a2 n c2] 124)).alloc (.cells #[.int .i64 0] 3)).alloc (.cells #[.slice a1 n c1] 124));have y0:Blk W0 w.heap.size #[.slice a1 n c1] 124:=by rw[<- hW0];exact (((Blk.new w _ _).alloc _).alloc _).alloc _
 have y1:Blk W0 (w.heap.size+1) #[.slice a2 n c2] 124:=by rw[<- hW0];exact ((Blk.made _ _ _ (by simp)).alloc _).alloc _
 have y2:Blk W0 (w.heap.size+1+1) #[.int .i64 0] 3:=by rw[<- hW0];exact (Blk.made _ _ _ (by simp)).alloc _
 have y3:Blk W0 (w.heap.size+1+1+1) #[.slice a1 n c1] 124:=by rw[<- hW0];exact Blk.made _ _ _ (by simp)
 have B0:Below w.heap.size w W0:=by rw[<- hW0];exact (((br0.alloc nr _).alloc (by simp) _).alloc (by simp;omega) _).alloc (by simp;omega) _
 have z0:W0.heap.size=w.heap.size+4:=by rw[<- hW0];simp
 rw[hW0];obtain⟨Y0,Y1,Y2,Y3,HB0,Z0⟩:=zf y0 y1 y2 y3 B0 z0;clear y0 y1 y2 y3 B0 z0 hW0;have hread:∀ W1 W2,Below W0.heap.size W0 W1->Below W0.heap.size W1 W2->W2.cell? ⟨w.heap.size+1+1+1,0,none⟩=some (.slice a1 n c1)/\∀ i,i<n->∃ g o z,a1=some ⟨g,o,none⟩/\W2.cell? ⟨g,o+i,none⟩=some (.int .u64 z)/\True:=fun W1 W2 b1 b2=>by
  have b3:=b1.trans b2;refine⟨(Y3.out.call b3).cell 0,fun i hi=>?_⟩;obtain⟨x,hx⟩:∃ x,(limbs a)[i]?=some x:=⟨_,Q0 (by rw[HA.out];exact hi)⟩;obtain⟨g,o,rfl,hg,hc⟩:=H3.out i x hx;exact⟨g,o,_,rfl,((b3.cell (p:=⟨g,o+i,none⟩) (by have:=Z0.out;simp;omega)).trans (HB0.out.cell (p:=⟨g,o+i,none⟩) hg)).trans hc,trivial⟩
 refine c0T (hM:=fun _ _ _=>trivial) (by omega) (gf:=310) (lb:=#[.pointer (some ⟨w.heap.size+1+1+1,0,none⟩)]) rfl (Cw Nj (by kernel_rfl) rfl)
  (e0j (Kp:=Below W0.heap.size) (V:=fun _ _=>True) 8 (by omega) _ n c1 a1 (by omega) h1 W0 (fun W=>J4 _ W) (fun h k=>h.trans k) hread) (fun h k=>h.trans k) (Lj nr) br0 (fun _=>rfl)
  (fun pre W=>Hid ((limbs a).drop (n-pre.length)=(limbs b).drop (n-pre.length))/\Below W0.heap.size W0 W)
  (fun c pre W=>(c=.ret/\Blk W (w.heap.size+1+1) #[.int .i64 (b0g a b)] 3)/\Below w.heap.size w W)
  (Jl (fun s A B row hs hg hr=>hs) (Hm nr nr))
  (fun c=>Jl (fun s A B row hs hg hr=>⟨hs.1,hs.2.kept hg (fun r e=>(hr r e).2)⟩) (Hm nr (by have:=Z0.out;omega)))
  ⟨by rw[Hid,s0T HA.out (by simp),s0T HB.out (by simp)],J4 _ _⟩ ?act ?assign ?body ?done ?stop
 case assign=>
  intro l x W K hK
  gi_wp2
  exact hK
 case body=>
  rintro l pre ⟨j,z⟩ W ⟨hj,-⟩ ⟨hd,hB⟩;dsimp only at hj;rw[show n-pre.length=j+1 by omega]at hd;obtain⟨x,hx⟩:∃ x,(limbs a)[j]?=some x:=⟨_,List.getElem?_eq_getElem (by rw[HA.out];omega)⟩;obtain⟨y,hy⟩:∃ y,(limbs b)[j]?=some y:=⟨_,List.getElem?_eq_getElem (by rw[HB.out];omega)⟩;obtain⟨g,o,rfl,hg,hc⟩:=H3.out j x hx;obtain⟨g',o',rfl,hg',hc'⟩:=K3.out j y hy;have z0:=Z0.out;have d1:=((hB.cell (p:=⟨g,o+j,none⟩) (by simp;omega)).trans (HB0.out.cell (p:=⟨g,o+j,none⟩) hg)).trans hc;have d2:=((hB.cell (p:=⟨g',o'+j,none⟩) (by simp;omega)).trans (HB0.out.cell (p:=⟨g',o'+j,none⟩) hg')).trans hc';have b0:=(Y0.out.call hB).cell 0;have b1:=(Y1.out.call hB).cell 0;have y2:=Y2.out.call hB;have b2:=y2.cell 0;have b3:=y2.free 0;simp only[List.getElem?_toArray,List.getElem?_cons_zero]at b0 b1 b2;obtain⟨HX,HY,HBB,HJ,HY2⟩:=zd hx hy hB hj y2;clear hx hy hc hc' hB z0 hj y2;have f1:=qw j
  have f2:(j:Int)<(n:Int):=by have:=HJ.out;omega
  by_cases hxy:x=y
  .subst hxy
   gi_wp2
   refine e0x (by kernel_rfl) (by kernel_rfl) (by kernel_rfl) ?_
   repeat (gi_big_quiet_step (fail))
   refine Mi ?_;intro _ hw';obtain⟨nq,rfl⟩:=hw'
   gi_wp2
   refine⟨⟨O4 _,fun _ _ _ h _=>h⟩,a0k br0 _,?_,a0k HBB.out _⟩;rw[J5,U8,show n-(pre.length+1)=j by have:=HJ.out;omega];exact g0j HX.out HY.out hd.out
  .have q1:((x:Int) != (y:Int))=true:=by simp;omega
   have HNE:=hid hxy;clear hxy
   gi_wp2
   refine e0x (by kernel_rfl) (by kernel_rfl) (by kernel_rfl) ?_
   repeat (gi_big_quiet_step (fail))
   refine Mi ?_;intro _ hw';obtain⟨nq,rfl⟩:=hw'
   gi_wp2
   obtain⟨V,hV⟩:=gn (W.drewN nq);have v1:V.cell? ⟨g,o+j,none⟩=some (.int .u64 (x:Int)):=by rw[<- hV];exact d1
   have v2:V.cell? ⟨g',o'+j,none⟩=some (.int .u64 (y:Int)):=by rw[<- hV];exact d2
   have v3:V.cell? ⟨w.heap.size,0,none⟩=some (.slice (some ⟨g,o,none⟩) n c1):=by rw[<- hV];exact b0
   have v4:V.cell? ⟨w.heap.size+1,0,none⟩=some (.slice (some ⟨g',o',none⟩) n c2):=by rw[<- hV];exact b1
   have v5:V.cell? ⟨w.heap.size+1+1,0,none⟩=some (.int .i64 0):=by rw[<- hV];exact b2
   have v6:V.frozen? ⟨w.heap.size+1+1,0,none⟩=false:=by rw[<- hV];exact b3
   obtain⟨HVB,HVY,HVW⟩:=zg (show Below W0.heap.size W0 V from by rw[<- hV];exact a0k HBB.out nq) (show Blk V (w.heap.size+1+1) #[.int .i64 0] 3 from by rw[<- hV];exact HY2.out) (show KeepsFrom W0.heap.size W V from by rw[<- hV];exact⟨O4 _,fun _ _ _ h _=>h⟩);rw[hV];clear hV d1 d2 b0 b1 b2 b3 HBB HY2;refine g0t 9 (by kernel_rfl) rfl (by kernel_rfl) (by kernel_rfl) (by kernel_rfl) ?_;simp only[Gr,Du]
   repeat (gi_big_quiet_step (fail))
   refine wpQuietIn_step (fun _ _ f hf=>trivial) (fun K hK=>?_)
   go_simp
   refine⟨_,fun _=>CallsIn.quiet_of_same ((Ah.2 (z0o x y _)).mono fun _ _ h=>⟨h.1,h.2.symm⟩),hK _ ?_⟩;clear hK K;refine Mi ?_;intro _ hw';obtain⟨nq2,rfl⟩:=hw'
   gi_wp2
   have hord:=m0q HA.out HB.out HX.out HY.out hd.out HNE.out;refine⟨HVW.out.trans ⟨by simp[World.setCell],fun k o hk ho hc=>?_⟩,⟨rfl,?_⟩,?_⟩
   .exact (Ai (V.drewN nq2) _ _).same k o ho hc
   .rw[<- hord];exact HVY.out.set 0 _
   .exact (a0k (HB0.out.trans (HVB.out.mono (by have:=Z0.out;omega))) nq2).setCell (by simp;omega) _
 case done=>
  rintro D xs W hD hx ⟨hd,hB⟩ hK;rw[hx,Bq,K9,K9]at hd;have hab:a=b:=f0p hd.out;have y2:=Y2.out.call hB;have b2:=y2.cell 0;have b3:=y2.free 0;simp only[K6,Cg]at b2;obtain⟨HAB,HBB,HY2,HK⟩:=zc hab hB y2 hK;clear hab hB y2 hK hd hx
  gi_wp2
  have hy3:=HY2.out.set 0 (.int .i64 0);have hk3:=(Ai W ⟨w.heap.size+1+1,0,none⟩ (.int .i64 0)).same D _ HK.out rfl;have hy4:=hy3.kept (Kd _ D (.deferred none)) (fun r e=>by cases e;exact⟨_,hk3,rfl⟩);have hc4:=hy4.cell 0;simp at hc4;refine b0X hk3 (v:=.int .i64 0) (by simp[results,results192,go_sem,hc4]) ⟨by rw[HAB.out,c0P],?_⟩;exact ((HB0.out.trans (HBB.out.mono (by have:=Z0.out;omega))).setCell (by simp;omega) _).trans (Lj (w:=w) nr _ D _ _ (by have:=Z0.out;omega) hk3 rfl rfl)
 case stop=>
  rintro D c pre W hD-⟨⟨rfl,hy⟩,hB⟩ hK
  gi_wp2
  have hy4:=hy.kept (Kd _ D (.deferred none)) (fun r e=>by cases e;exact⟨_,hK,rfl⟩);have hc4:=hy4.cell 0;simp only[K6,Cg]at hc4;refine b0X hK (v:=.int .i64 (b0g a b)) (by simp[results,results192,go_sem,hc4]) ⟨rfl,?_⟩;exact hB.trans (Lj (w:=w) nr _ D _ _ (by have:=Z0.out;omega) hK rfl rfl)
def m0A (w:World)(v u:Value)(a b:Nat)(ha:IsN .u64 w v a)(hb:IsN .u64 w u b)(hla:(limbs a).length<=1000000):
 qb 192 #[v,u] w (.int .i64 (b0g a b)):=by
 by_cases h:(limbs a).length=(limbs b).length
 .exact v0k w v u a b ha hb h hla
 .exact v0j w v u a b ha hb h
def j0u (R:ByteArray)(s t:ByteArray):ByteArray:=if c0i s.data.toList=0/\c0i t.data.toList=0 then R else ⟨#[]⟩
def h0v (x:Int)(s t:ByteArray):Int:=if c0i s.data.toList=0 then (if c0i t.data.toList=0 then x else c0i t.data.toList) else c0i s.data.toList
def b0L {s:ByteArray}(h:c0i s.data.toList=0):allDig s.data.toList/\s.size<=4000/\(limbs (bN s)).length<=1000:=by
 obtain⟨n,hn,h4⟩:=h0P.1 h;have hd:allDig s.data.toList:=by rw[hn];exact b0F n
 have hs:s.size<=4000:=by
  have e:s.data.toList.length=s.size:=Bh;rw[<- e,hn,I9];exact h4
 refine⟨hd,hs,?_⟩;have e:s.data.toList.length=s.size:=Bh;exact j0W hd (by omega)
def r0R (w:World)(s t:ByteArray)(F:Nat)(R:ByteArray)(x:Int)(hs:s.size<=1000000)(ht:t.size<=1000000)(hL:Lay w)
 (hen:∀ args w,(callFunc F args).run prog w=.ok (.enter F args) w)
 (hF:∀ W v u,c0i s.data.toList=0->c0i t.data.toList=0->IsN .u64 W v (bN s)->IsN .u64 W u (bN t)->Lay W->Calls prog F #[v,u] W fun e w'=>e=.returned (.tuple #[.string R,.int .i64 x])/\Below W.heap.size W w'):
 qb 279 #[.string s,.string t,.func (.func F) #[] #[]] w (.tuple #[.string (j0u R s t),.int .i64 (h0v x s t)]):=by
 have HS:=fun W=>hid (f0Q W s (by omega))
 have HT:=fun W=>hid (f0Q W t (by omega))
 obtain⟨HL,HF⟩:=zu hL hF;clear hL hF;by_cases h1:c0i s.data.toList=0
 .by_cases h2:c0i t.data.toList=0
  .have e1:j0u R s t=R:=J3 ⟨h1,h2⟩;have e2:h0v x s t=x:=by rw[h0v,J3 h1,J3 h2]
   rw[e1,e2];rw[h1]at HS;rw[h2]at HT;obtain⟨d1,d2,-⟩:=b0L h1;obtain⟨d3,d4,-⟩:=b0L h2;have P1:=fun W=>hid (c0y W s d1 (by omega))
   have P2:=fun W=>hid (c0y W t d3 (by omega))
   obtain⟨H1,H2⟩:=zu h1 h2;have fe:d0O 0 0=0:=rfl;clear h1 h2 d1 d2 d3 d4 e1 e2;go_enter func279,ntmps279;go_wp2_with fail;refine nz (HS _) fun w1 y1=>?_;go_wp2_with fail;refine nw (HT _) y1 fun w2 y2=>?_;go_wp2_with fail;refine (h0B _ _ 0 0 ?_ ?_).mono ?_
   .exact (Blk.new _ _ _).cell 0
   .exact (Blk.new _ _ _).cell 1
   rintro e w3 ⟨rfl,rfl⟩;have y3:=hid (y2.out.alloc y2.out.size (.cells #[.int .i64 0,.int .i64 0] 27));rw[fe];go_wp2_with fail;refine nu (P1 _) fun v4 w4 hv4 hb4=>?_;have y4:=qx y3 hb4;have N4:=hid hv4;clear hb4 hv4;go_wp2_with fail;refine nu (P2 _) fun v5 w5 hv5 hb5=>?_;have y5:=qx y4 hb5;obtain⟨N5,D5⟩:=zu (N4.out.call hb5) hv5;clear hb5 hv5;go_wp2_with fail;refine nk (HF.out _ _ _ H1.out H2.out N5.out D5.out (HL.out.call y5.out)) y5 fun w6 y6=>?_;go_wp2_with fail;go_ret2
   exact⟨rfl,y6.out⟩
  .have e1:j0u R s t=⟨#[]⟩:=J2 (fun h=>h2 h.2);have e2:h0v x s t=c0i t.data.toList:=by rw[h0v,J3 h1,J2 h2]
   rw[e1,e2];rw[h1]at HS;obtain⟨y,hy⟩:=gn (c0i t.data.toList);rw[hy]at HT |- h2;have fe:d0O 0 y=y:=rfl;have q1:(y != 0)=true:=by simpa using h2
   clear h1 e1 e2 hy;go_enter func279,ntmps279;go_wp2_with fail;refine nz (HS _) fun w1 y1=>?_;go_wp2_with fail;refine nw (HT _) y1 fun w2 y2=>?_;go_wp2_with fail;refine (h0B _ _ 0 y ?_ ?_).mono ?_
   .exact (Blk.new _ _ _).cell 0
   .exact (Blk.new _ _ _).cell 1
   rintro e w3 ⟨rfl,rfl⟩;have y3:=hid (y2.out.alloc y2.out.size (.cells #[.int .i64 0,.int .i64 y] 27));rw[fe];go_wp2_with fail;go_ret2
   exact⟨rfl,y3.out⟩
 .have e1:j0u R s t=⟨#[]⟩:=J2 (fun h=>h1 h.1);have e2:h0v x s t=c0i s.data.toList:=by rw[h0v,J2 h1]
  rw[e1,e2];obtain⟨y,hy⟩:=gn (c0i s.data.toList);obtain⟨z,hz⟩:=gn (c0i t.data.toList);rw[hy]at HS |- h1;rw[hz]at HT;have fe:d0O y z=y:=J2 h1;have q1:(y != 0)=true:=by simpa using h1
  clear e1 e2 hy hz;go_enter func279,ntmps279;go_wp2_with fail;refine nz (HS _) fun w1 y1=>?_;go_wp2_with fail;refine nw (HT _) y1 fun w2 y2=>?_;go_wp2_with fail;refine (h0B _ _ y z ?_ ?_).mono ?_
  .exact (Blk.new _ _ _).cell 0
  .exact (Blk.new _ _ _).cell 1
  rintro e w3 ⟨rfl,rfl⟩;have y3:=hid (y2.out.alloc y2.out.size (.cells #[.int .i64 y,.int .i64 z] 27));rw[fe];go_wp2_with fail;go_ret2
  exact⟨rfl,y3.out⟩
def w0D (f:Nat->Nat->Nat)(s t:ByteArray):ByteArray:=j0u (n0G (f (bN s) (bN t))) s t
def d1r (f:Nat->Nat->Nat)(s t:ByteArray):Int:=h0v (k0I (f (bN s) (bN t))) s t
def m0x {a b k l:Nat}(ha:(limbs a).length<=k)(hb:(limbs b).length<=l):(limbs (a+b)).length<=k+l+1:=by
 have h1:=a0g.1 ha;have h2:=a0g.1 hb;refine a0g.2 ?_;have h3:1000000000 ^ k<=1000000000 ^ (k+l):=J6 (by omega) (by omega);have h4:1000000000 ^ l<=1000000000 ^ (k+l):=J6 (by omega) (by omega);rw[E9];omega
def Ot:=@Nat.mul_lt_mul''
def d0H {a b k l:Nat}(ha:(limbs a).length<=k)(hb:(limbs b).length<=l):(limbs (a*b)).length<=k+l:=by
 have h1:=a0g.1 ha;have h2:=a0g.1 hb;refine a0g.2 ?_;rw[Be];exact Ot h1 h2
def Hv:=@Nat.sub_le
def y0w {a b k l:Nat}(ha:(limbs a).length<=k)(hb:(limbs b).length<=l):(limbs (a-b)).length<=k:=
 J0 (a0h (Hv a b)) ha
def b1j (w:World)(v u:Value)(a b:Nat)(ha:IsN .u64 w v a)(hb:IsN .u64 w u b)(hla:(limbs a).length<=1000)(hlb:(limbs b).length<=1000)(hL:Lay w):
 qb 325 #[v,u] w (.tuple #[.string (n0G (a+b)),.int .i64 (k0I (a+b))]):=by
 obtain⟨HA,HB,HL,LA,LB,LS⟩:=zf ha hb hL hla hlb (m0x hla hlb);obtain⟨a1,c1,rfl,_⟩:=ha.openI;obtain⟨a2,c2,rfl,_⟩:=hb.openI;clear ha hb hL hla hlb;go_enter func325,ntmps325;go_wp2_with fail;refine (b1u _ _ _ a b HA.out HB.out (by have:=LA.out;omega) (by have:=LB.out;omega)).mono ?_;rintro e w1 ⟨⟨v1,rfl,hv1⟩,hb1⟩;obtain⟨y1,V1⟩:=zu hb1 hv1;clear hb1 hv1;obtain⟨a3,c3,rfl,_⟩:=V1.out.openI;go_wp2_with fail;refine (g0H _ _ _ V1.out (by have:=LS.out;omega) (HL.out.call y1.out)).mono ?_;rintro e w2 ⟨rfl,hb2⟩;have y2:=qx y1 hb2;clear hb2;go_wp2_with fail;go_ret2
 exact⟨rfl,y2.out⟩
def b1k (w:World)(s t:ByteArray)(hs:s.size<=1000000)(ht:t.size<=1000000)(hL:Lay w):
 qb 276 #[.string s,.string t] w (.tuple #[.string (w0D ((· + ·)) s t),.int .i64 (d1r ((· + ·)) s t)]):=by
 have P:=hid (r0R w s t 325 (n0G (((· + ·)) (bN s) (bN t))) (k0I (((· + ·)) (bN s) (bN t))) hs ht hL (Cw func325 (by kernel_rfl) rfl)
  (fun W v u h1 h2 hv hu hLW=>b1j W v u _ _ hv hu (b0L h1).2.2 (b0L h2).2.2 hLW))
 go_enter func276,ntmps276;go_wp2_with fail;refine ny P fun w1 hb1=>?_;go_wp2_with fail;go_ret2
 exact⟨rfl,hb1⟩
def b1h (w:World)(v u:Value)(a b:Nat)(ha:IsN .u64 w v a)(hb:IsN .u64 w u b)(hla:(limbs a).length<=1000)(hlb:(limbs b).length<=1000)(hL:Lay w):
 qb 326 #[v,u] w (.tuple #[.string (n0G (a*b)),.int .i64 (k0I (a*b))]):=by
 obtain⟨HA,HB,HL,LA,LB,LS⟩:=zf ha hb hL hla hlb (d0H hla hlb);obtain⟨a1,c1,rfl,_⟩:=ha.openI;obtain⟨a2,c2,rfl,_⟩:=hb.openI;clear ha hb hL hla hlb;go_enter func326,ntmps326;go_wp2_with fail;refine (i0b _ _ _ a b HA.out HB.out (by have:=LA.out;omega) (by have:=LB.out;omega)).mono ?_;rintro e w1 ⟨⟨v1,rfl,hv1⟩,hb1⟩;obtain⟨y1,V1⟩:=zu hb1 hv1;clear hb1 hv1;obtain⟨a3,c3,rfl,_⟩:=V1.out.openI;go_wp2_with fail;refine (g0H _ _ _ V1.out (by have:=LS.out;omega) (HL.out.call y1.out)).mono ?_;rintro e w2 ⟨rfl,hb2⟩;have y2:=qx y1 hb2;clear hb2;go_wp2_with fail;go_ret2
 exact⟨rfl,y2.out⟩
def b1i (w:World)(s t:ByteArray)(hs:s.size<=1000000)(ht:t.size<=1000000)(hL:Lay w):
 qb 277 #[.string s,.string t] w (.tuple #[.string (w0D ((· * ·)) s t),.int .i64 (d1r ((· * ·)) s t)]):=by
 have P:=hid (r0R w s t 326 (n0G (((· * ·)) (bN s) (bN t))) (k0I (((· * ·)) (bN s) (bN t))) hs ht hL (Cw func326 (by kernel_rfl) rfl)
  (fun W v u h1 h2 hv hu hLW=>b1h W v u _ _ hv hu (b0L h1).2.2 (b0L h2).2.2 hLW))
 go_enter func277,ntmps277;go_wp2_with fail;refine ny P fun w1 hb1=>?_;go_wp2_with fail;go_ret2
 exact⟨rfl,hb1⟩
def x0p (a b:Nat):ByteArray:=if a<b then ⟨#[]⟩ else n0G (a-b)
def x0o (a b:Nat):Int:=if a<b then 2 else k0I (a-b)
def b1g (w:World)(v u:Value)(a b:Nat)(ha:IsN .u64 w v a)(hb:IsN .u64 w u b)(hla:(limbs a).length<=1000)(hlb:(limbs b).length<=1000)(hL:Lay w):
 qb 280 #[v,u] w (.tuple #[.string (x0p a b),.int .i64 (x0o a b)]):=by
 obtain⟨HA,HB,HL,LA,LS⟩:=zd ha hb hL hla (y0w hla hlb);obtain⟨a1,c1,rfl,_⟩:=ha.openI;obtain⟨a2,c2,rfl,_⟩:=hb.openI;clear ha hb hL hla hlb;have C:=hid (m0A w _ _ a b HA.out HB.out (by have:=LA.out;omega));by_cases h:a<b
 .have e1:x0p a b=⟨#[]⟩:=J3 h;have e2:x0o a b=2:=J3 h;rw[e1,e2];have e3:b0g a b = -1:=b0N h;rw[e3]at C;clear e1 e2 e3 h;go_enter func280,ntmps280;go_wp2_with fail;refine ny C fun w1 hb1=>?_;go_wp2_with fail;go_ret2
  exact⟨rfl,hb1⟩
 .have e1:x0p a b=n0G (a-b):=J2 h;have e2:x0o a b=k0I (a-b):=J2 h;rw[e1,e2];have e3:b0g a b=0\/b0g a b=1:=by unfold b0g;rw[J2 h];split<;>simp
  obtain⟨x,hx⟩:=gn (b0g a b);rw[hx]at C e3;have q0:decide (x<0)=false:=by rcases e3 with rfl | rfl<;>decide
  have H:=hid h;clear e1 e2 e3 h hx;go_enter func280,ntmps280;go_wp2_with fail;refine nz C fun w1 y1=>?_;go_wp2_with fail;refine (y0A _ _ _ a b (HA.out.call y1.out) (HB.out.call y1.out) (by have:=H.out;omega) (by have:=LA.out;omega)).mono ?_;rintro e w2 ⟨⟨v1,rfl,hv1⟩,hb2⟩;have y2:=qx y1 hb2;have V1:=hid hv1;clear hb2 hv1;obtain⟨a3,c3,rfl,_⟩:=V1.out.openI;go_wp2_with fail;refine (g0H _ _ _ V1.out (by have:=LS.out;omega) (HL.out.call y2.out)).mono ?_;rintro e w3 ⟨rfl,hb3⟩;have y3:=qx y2 hb3;clear hb3;go_wp2_with fail;go_ret2
  exact⟨rfl,y3.out⟩
def c1R (w:World)(s t:ByteArray)(hs:s.size<=1000000)(ht:t.size<=1000000)(hL:Lay w):
 qb 214 #[.string s,.string t] w (.tuple #[.string (j0u (x0p (bN s) (bN t)) s t),.int .i64 (h0v (x0o (bN s) (bN t)) s t)]):=by
 have P:=hid (r0R w s t 280 (x0p (bN s) (bN t)) (x0o (bN s) (bN t)) hs ht hL (Cw func280 (by kernel_rfl) rfl)
  (fun W v u h1 h2 hv hu hLW=>b1g W v u _ _ hv hu (b0L h1).2.2 (b0L h2).2.2 hLW))
 go_enter func214,ntmps214;go_wp2_with fail;refine ny P fun w1 hb1=>?_;go_wp2_with fail;go_ret2
 exact⟨rfl,hb1⟩
def r0S (w:World)(s t:ByteArray)(hs:s.size<=1000000)(ht:t.size<=1000000):
 qb 274 #[.string s,.string t] w (.int .i64 (l0z s.data.toList t.data.toList)):=by
 have HS:=fun W=>hid (f0Q W s (by omega))
 have HT:=fun W=>hid (f0Q W t (by omega))
 by_cases h:c0i s.data.toList=0/\c0i t.data.toList=0
 .have e1:l0z s.data.toList t.data.toList=b0g (bN s) (bN t):=J3 h;rw[e1];rw[h.1]at HS;rw[h.2]at HT;obtain⟨d1,d2,d5⟩:=b0L h.1;obtain⟨d3,d4,-⟩:=b0L h.2;have P1:=fun W=>hid (c0y W s d1 (by omega))
  have P2:=fun W=>hid (c0y W t d3 (by omega))
  have fe:d0O 0 0=0:=rfl;have D5:=hid d5;clear h d1 d2 d3 d4 d5 e1;go_enter func274,ntmps274;go_wp2_with fail;refine nz (HS _) fun w1 y1=>?_;go_wp2_with fail;refine nw (HT _) y1 fun w2 y2=>?_;go_wp2_with fail;refine (h0B _ _ 0 0 ?_ ?_).mono ?_
  .exact (Blk.new _ _ _).cell 0
  .exact (Blk.new _ _ _).cell 1
  rintro e w3 ⟨rfl,rfl⟩;have y3:=hid (y2.out.alloc y2.out.size (.cells #[.int .i64 0,.int .i64 0] 27));rw[fe];go_wp2_with fail;refine nu (P1 _) fun v4 w4 hv4 hb4=>?_;have y4:=qx y3 hb4;have N4:=hid hv4;clear hb4 hv4;go_wp2_with fail;refine nu (P2 _) fun v5 w5 hv5 hb5=>?_;have y5:=qx y4 hb5;obtain⟨N5,V5⟩:=zu (N4.out.call hb5) hv5;clear hb5 hv5;go_wp2_with fail;refine nk (m0A _ _ _ _ _ N5.out V5.out (J0 D5.out (by omega))) y5 fun w6 y6=>?_;go_wp2_with fail;go_ret
  exact⟨rfl,y6.out⟩
 .have e1:l0z s.data.toList t.data.toList=0:=J2 h;rw[e1];obtain⟨y,hy⟩:=gn (c0i s.data.toList);obtain⟨z,hz⟩:=gn (c0i t.data.toList);rw[hy]at HS h;rw[hz]at HT h;have fe:¬ d0O y z=0:=by
   unfold d0O
   split
   .rename_i h1
    exact fun e=>h ⟨h1,e⟩
   .rename_i h1
    exact h1
  obtain⟨f,hf⟩:=gn (d0O y z);rw[hf]at fe;have q1:(f != 0)=true:=by simpa using fe
  clear e1 hy hz h;go_enter func274,ntmps274;go_wp2_with fail;refine nz (HS _) fun w1 y1=>?_;go_wp2_with fail;refine nw (HT _) y1 fun w2 y2=>?_;go_wp2_with fail;refine (h0B _ _ y z ?_ ?_).mono ?_
  .exact (Blk.new _ _ _).cell 0
  .exact (Blk.new _ _ _).cell 1
  rintro e w3 ⟨rfl,rfl⟩;have y3:=hid (y2.out.alloc y2.out.size (.cells #[.int .i64 y,.int .i64 z] 27));rw[hf];go_wp2_with fail;go_ret
  exact⟨rfl,y3.out⟩
end
def b0A (n:Nat):bN (a0f n)=n:=by rw[bN,a0t,g0i]
def b0I {n:Nat}(h:nDigits n<=4000):c0i (a0f n).data.toList=0:=by rw[a0t];exact v0F h
def d0m {f:Nat->Nat->Nat}{a b:Nat}(ha:nDigits a<=4000)(hb:nDigits b<=4000)(hf:nDigits (f a b)<=4000):w0D f (a0f a) (a0f b)=a0f (f a b):=by
 unfold w0D j0u;rw[J3 ⟨b0I ha,b0I hb⟩,b0A,b0A,n0G,J2 (by omega)]
def k0a {a b:Nat}(ha:nDigits a<=4000)(hb:nDigits b<=4000):l0z (a0f a).data.toList (a0f b).data.toList=b0g a b:=by
 unfold l0z;rw[J3 ⟨b0I ha,b0I hb⟩,a0t,a0t,g0i,g0i]
def b0c {n k:Nat}(h:n<10 ^ k)(hk:0<k)(hk2:k<=4000):nDigits n<=4000:=J0 (a0l hk h) hk2
def a0M {n:Nat}(h:nDigits n<=4000):(a0f n).size<=1000000:=by rw[a0y];omega
def sdV (N D K T:Nat):Nat:=if N*T<=K*D then 0 else 1
def sdB (N D K T:Nat):Bool:=decide (N*T<=K*D) || decide (K*D+D<=N*T)
def c0a (N D:Nat):Nat->Nat->List UInt8->Bool×Nat×Nat
 | K,T,l=>
  if sdB N D K T=true then (true,sdV N D K T,0)
  else match l with
   | []=>(false,0,0)
   | b::r=>
    let x:=c0a N D (2*K+(if b=49 then 1 else 0)) (2*T) r
    (x.1,x.2.1,x.2.2+1)
 termination_by _ _ l=>l.length
def eN:Nat:=1000
def eK:Nat:=100
structure Fits (N D K T:Nat):Prop where
 n:N<10 ^ eN
 d:D<10 ^ eN
 k:K<10 ^ eK
 t:T<10 ^ eK
def d0N {a b k l:Nat}(ha:a<10 ^ k)(hb:b<10 ^ l):a*b<10 ^ (k+l):=by
 rw[Be];exact Ot ha hb
def h0O {a b k:Nat}(ha:a<10 ^ k)(hb:b<10 ^ k):a+b<10 ^ (k+1):=by
 rw[E9];omega
def w0Q {a k l:Nat}(ha:a<10 ^ k)(h:k<=l):a<10 ^ l:=J7 ha (J6 (by omega) h)
def pre (ws:List Nat)(i:Nat):Nat:=(ws.take i).sum
def d1x (ws:List Nat)(t i:Nat):Nat:=pre ws i*t / ws.sum+(if pre ws i*t%ws.sum≠0 then 1 else 0)
def d1y (ws:List Nat)(t i:Nat):Nat:=pre ws (i+1)*t / ws.sum
def cnt (ws:List Nat)(t i:Nat):Nat:=d1y ws t i-d1x ws t i
end Go.Proofs.YtfkpfpobmobnbaaGreatDoor
