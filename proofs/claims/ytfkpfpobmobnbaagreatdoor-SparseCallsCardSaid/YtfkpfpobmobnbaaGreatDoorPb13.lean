import Derived.Test.YtfkpfpobmobnbaaGreatDoorPb12
set_option linter.all false
set_option maxRecDepth 100000
set_option maxHeartbeats 8000000
namespace Go.Proofs.YtfkpfpobmobnbaaGreatDoor
open Go.Proofs.Tryz Go.RowKit
open Go.Lib (decDigits nDigits)
def o0W (d:List (ByteArray×ByteArray))(k:Int):List (Int×Rat):=(d.filter fun p=>decide (p.1=zB k)).map fun p=>(k,vQ p.2)
def q0R {d:List (ByteArray×ByteArray)}{i:Nat}{p:ByteArray×ByteArray}{k:Int}(h:d[i]?=some p):o0W (d.take (i+1)) k=o0W (d.take i) k++if p.1=zB k then [(k,vQ p.2)] else []:=by
 unfold o0W;rw[Cr,h,Hc,Ay]
 congr 1
 by_cases e:p.1=zB k
 .simp[e]
 .simp[e]
def h0f (d:List (ByteArray×ByteArray))(k:Int):(o0W d k).length<=d.length:=by
 unfold o0W;rw[Dp];exact Fv _ _
def chL (d:List (ByteArray×ByteArray))(n:Nat):Nat->List (Int×Rat)
 | 0=>[]
 | j+1=>chL d n j++o0W d ((j:Int)-n)
theorem i0Q (d:List (ByteArray×ByteArray))(n:Nat):∀ j,(chL d n j).length<=j*d.length
 | 0=>by simp[chL]
 | j+1=>by
  have h1:=i0Q d n j;have h2:=h0f d ((j:Int)-n);rw[chL,J5,Jp];omega
theorem p0I {L:List (ByteArray×ByteArray)}(hnd:(L.map b0t).Nodup){p:ByteArray×ByteArray}(hp:p∈L):L.filter (fun x=>decide (x.1=p.1)) = [p]:=by
 induction L with
 | nil=>simp at hp
 | cons q r ih=>
  rw[Kj,List.nodup_cons]at hnd;by_cases h:q.1=p.1
  .have hq:∀ x∈r,x.1≠p.1:=fun x hx e=>hnd.1 (by rw[show b0t q=b0t x by unfold b0t;rw[h,e]];exact List.mem_map_of_mem hx)
   have hpq:p=q:=by
    rcases Ck.1 hp with e | e
    .exact e
    .exact absurd rfl (hq p e)
   subst hpq;rw[List.filter_cons_of_pos (by simp)]
   congr 1
   rw[List.filter_eq_nil_iff];intro x hx;simpa using hq x hx
  .have hpr:p∈r:=by
    rcases Ck.1 hp with e | e
    .exact absurd (by rw[e]) h
    .exact e
   rw[List.filter_cons_of_neg (by simpa using h)];exact ih hnd.2 hpr
def u0j {g:Int->Nat}{n r:Nat}(hn:n<=1000)(hg:∀ v,g v<=2 ^ n){k:Int}(h1 : -(n:Int)<=k)(h2:k<=n):o0W (a0p (glP g (2 ^ n) n r)) k=if g k=0 then [] else [(k,dyQ (g k) n)]:=by
 have nd:=u0e (s0v g (2 ^ n) n r);unfold o0W;by_cases h:g k=0
 .rw[J3 h];have e:(a0p (glP g (2 ^ n) n r)).filter (fun p=>decide (p.1=zB k)) = []:=by
   rw[List.filter_eq_nil_iff];intro p hp;rw[b0H,d0K]at hp;rcases hp with ⟨v,-,-,h3,rfl⟩ | ⟨-,rfl⟩
   .intro e;rw[H7]at e;have:=g0U e;subst this;exact h3 h
   .intro e;rw[H7]at e;exact e0t k (congrArg (fun b:ByteArray=>b.data.toList) e.symm)
  rw[e];rfl
 .rw[J2 h];have hm:(zB k,shB (g k) (2 ^ n))∈a0p (glP g (2 ^ n) n r):=by
   rw[b0H,d0K];exact .inl ⟨k,h1,h2,h,rfl⟩
  have e:=p0I nd hm;dsimp only at e;rw[e];have e2:shB (g k) (2 ^ n)=txQ (dyQ (g k) n):=g0u (hg k) hn;rw[List.map_singleton,e2,e0P]
theorem t0p {g:Int->Nat}{n r:Nat}(hn:n<=1000)(hg:∀ v,g v<=2 ^ n):∀ j,j<=2*n+1->chL (a0p (glP g (2 ^ n) n r)) n j=(chV g n j).map fun v=>(v,dyQ (g v) n)
 | 0,_=>rfl
 | j+1,h=>by
  rw[chL,t0p hn hg j (by omega),o0t,Ay,u0j hn hg (by omega) (by omega)]
  congr 1
  by_cases e:g ((j:Int)-n)=0
  .rw[J3 e,J3 e];rfl
  .rw[J2 e,J2 e];rfl
def y0K {g:Int->Nat}{n r:Nat}(hn:n<=1000)(hg:∀ v,g v<=2 ^ n)(hr:r<=2 ^ n):∀ p∈a0p (glP g (2 ^ n) n r),qE p.2=0/\p.2.size<=10000:=fun p hp=>by
 rw[b0H,d0K]at hp;have key:∀ x,x<=2 ^ n->qE (shB x (2 ^ n))=0/\(shB x (2 ^ n)).size<=10000:=fun x hx=>by
  refine⟨?_,c0W _⟩;have e2:shB x (2 ^ n)=txQ (dyQ x n):=g0u hx hn;have hf:¬ ovQ (dyQ x n):=(g0M (K:=4000) (f0g n) (by rw[Kl];exact l0t hx hn) (l0t nr hn)).fits (by omega) (by omega);rw[e2];exact n0Q hf
 rcases hp with ⟨v,-,-,-,rfl⟩ | ⟨-,rfl⟩
 .exact key _ (hg v)
 .exact key _ hr
theorem j0l (w:World)(s:ByteArray)(hs:s.size<=1000000)(hq0:qE s=0):
 Calls prog 71 #[.string s] w fun e w'=>(∃ v,e=.returned (.tuple #[v,.int .i64 0])/\IsQF w.heap.size w' v (vQ s))/\Below w.heap.size w w':=by
 have HC:=t0i s (by omega);have hq:qB s=true:=by
  cases h:qB s
  .have:qE s=3:=by simp[qE,h]
   omega
  .rfl
 have hl':qL s=false:=by
  cases h:qL s
  .rfl
  .have:qE s=5:=by simp[qE,hq,h]
   omega
 have hi:=c0o hq;rw[hi]at HC;have hdD:=f0u (d0q hi);have hcS:cS s=false\/(cS s=true/\¬ iD (cW s)=⟨#[48]⟩/\¬ cB s=⟨#[48]⟩/\¬ cB s=⟨#[49]⟩/\fB (cB s)=true):=by
  have hq':=hq;unfold qB at hq';simp only[Aa,Av,By,H7]at hq';rcases hq'.2 with h | h
  .exact .inl h
  .cases hc:cS s
   .exact .inl rfl
   .exact .inr ⟨rfl,h.1.1.1,h.1.2,h.2,h.1.1.2⟩
 have hl1:¬ 4000<(iD (cW s)).size/\¬ 4000<(qD s).size:=by
  unfold qL at hl';simpa using hl'
 obtain⟨e1,e2,e3⟩:=i0W hq0;have key:Calls prog 71 #[.string s] w fun e w'=>RetRF w.heap.size 0 (iM (cW s)) (bN (iD (cW s))) (bN (qD s)) e w'/\Below w.heap.size w w':=by
  rcases hcS with hc | ⟨hc,h1,h2,h3,h4⟩
  .rw[hc]at HC;rw[e0b hc];exact r0b w s _ _ _ _ _ _ hs HC hl1.1 hdD
  .rw[hc,h4]at HC;have hl2:=hl1.2;rw[c0j hc]at hl2;have e:qE s=if Nat.gcd (bN (iD (cW s))) (bN (cB s))=1 then 0 else 3:=by
    simp only[qE,hq,hl',qG,hc,c0j hc];by_cases hg:Nat.gcd (bN (iD (cW s))) (bN (cB s))=1<;>simp[hg]
   rw[hq0]at e;rw[c0j hc];have:=n0H w s _ _ _ _ _ hs HC h1 h2 h3 hl1.1 hl2 hdD (f0u h4);rw[<- e]at this;exact this
 refine key.mono ?_;rintro e w' ⟨⟨v,rfl,h1,-⟩,hb⟩;obtain⟨N,D,rfl,hN,hD,f1,f2⟩:=h1 rfl;exact⟨⟨_,rfl,N,D,by rw[e1],by rw[e2];exact hN,by rw[e3];exact hD,f1,f2⟩,hb⟩
section
def u0z (w:World)(n:Nat)(h:n<=9223372036854775807):Calls prog 152 #[.int .i64 n] w fun e w'=>e=.returned (t0K n)/\w=w':=by
 go_enter func152,ntmps152;go_wp2_with fail;refine zv (i0s _ n h) ?_;go_wp2_with fail;go_ret
 exact⟨rfl,rfl⟩
def z0Y (m:Nat):(⟨#[45]⟩:ByteArray)++a0f (m+1)=zB (-((m:Int)+1)):=by
 apply b0f
 rw[ByteArray.data_append,Array.toList_append,a0t,f0H,show -((m:Int)+1) = -((m+1:Nat):Int) by omega,Lib.itoa_neg _ (by omega)]
 rfl
def n0V {n:Nat}(h:n<=9223372036854775807):nDigits n<=9000:=J0 (a0l (k:=19) (by omega) (by omega)) (by omega)
def m0w {n:Nat}(h:n<=9223372036854775807):(limbs n).length<=1000000:=J0 (c0L (K:=3) (J0 (a0l (k:=19) (by omega) (by omega)) (by omega))) (by omega)
def r0i (w:World)(m:Nat)(h:m<=1000000000):qb 55 #[.int .i64 (-((m:Int)+1))] w (.string (zB (-((m:Int)+1)))):=by
 have q0:decide ((0:Int) <= -((m:Int)+1))=false:=by simp<;>omega
 have q1:IntKind.i64.wrap (-((m:Int)+1)+1) = -(m:Int):=by rw[U0 _ ⟨by omega,by omega⟩];omega
 have q2:IntKind.i64.wrap (-(-(m:Int)))=(m:Int):=by rw[U0 _ ⟨by omega,by omega⟩];omega
 have q3:IntKind.i64.wrap (-(-((m:Int)+1)+1))=(m:Int):=by rw[U0 _ ⟨by omega,by omega⟩];omega
 have q4:IntKind.i64.wrap (m:Int)=(m:Int):=by rw[U0 _ ⟨by omega,by omega⟩]
 have hz:=z0Y m;obtain⟨Z,hZ⟩:=gn (zB (-((m:Int)+1)));rw[hZ]at hz |-;have HS:=fun V=>hid (u0z V m (by omega))
 have HR:=fun V=>hid (c0w V m (n0V (by omega)))
 have HO:=fun V=>hid (r0e V)
 have HP:=fun V v u hv hu=>hid (d0E V v u m 1 hv hu (m0w (by omega)) (m0w (by omega)))
 have HW:=fun V v hv=>hid (a0S V v (m+1) hv (m0w (by omega)))
 obtain⟨M,hM⟩:=gn (a0f m);have hsz:=a0y (m+1);have hnd:=n0V (n:=m+1) (by omega);obtain⟨M1,hM1⟩:=gn (a0f (m+1));rw[hM1]at hsz;have hcat:¬ 9223372036854775807<1+M1.size:=by omega
 simp only[b0s]at HS HW;rw[hM]at HS HR;rw[hM1]at HW hz;clear hM hM1 hZ h hsz hnd;go_enter func55,ntmps55;go_wp2_with fail;refine zx (HS _) ?_;go_wp2_with fail;refine nu (HR _) fun v2 w2 h2 hb2=>?_;obtain⟨B2,V2⟩:=zu hb2 h2;clear hb2 h2;go_wp2_with fail;refine nu (HO _) fun v3 w3 h3 hb3=>?_;have B3:=qx B2 hb3;obtain⟨V3,U3⟩:=zu (V2.out.call hb3) h3;clear hb3 h3;go_wp2_with fail;refine nu (HP _ _ _ V3.out U3.out) fun v4 w4 h4 hb4=>?_;have B4:=qx B3 hb4;have V4:=hid h4;clear hb4 h4;go_wp2_with fail;refine nw (HW _ _ V4.out) B4 fun w5 B5=>?_;go_wp2_with fail;go_ret
 exact⟨rfl,B5.out⟩
def r0h (w:World)(k:Int)(h1 : -1000000000<=k)(h2:k<=1000000000):qb 55 #[.int .i64 k] w (.string (zB k)):=by
 by_cases hk:0<=k
 .obtain⟨n,rfl⟩:∃ n:Nat,k=(n:Nat):=⟨k.toNat,by omega⟩;refine zv (k0O w n (by omega)) ?_;exact⟨by rw[n0a],J4 _ _⟩
 .obtain⟨m,rfl⟩:∃ m:Nat,k = -((m:Int)+1):=⟨(-k-1).toNat,by omega⟩;exact r0i w m (by omega)
open Go.Shelf
def QB (w:World)(g:Nat)(q:Rat):Prop:=∃ (m:Bool) (a:Option Addr) (n c:Nat) (a':Option Addr) (n' c':Nat),Blk w g #[.bool m,.slice a n c,.slice a' n' c'] 81/\IsQ .i64 w (.agg #[.bool m,.slice a n c,.slice a' n' c']) q
theorem QB.call {w w':World}{g:Nat}{q:Rat}(h:QB w g q)(hb:Below w.heap.size w w'):QB w' g q:=by
 obtain⟨m,a,n,c,a',n',c',h1,h2⟩:=h;exact⟨m,a,n,c,a',n',c',h1.call hb,h2.call hb⟩
theorem QB.new {w:World}{m:Bool}{a a':Option Addr}{n c n' c':Nat}{q:Rat}(h:IsQ .i64 w (.agg #[.bool m,.slice a n c,.slice a' n' c']) q):QB (w.alloc (.cells #[.bool m,.slice a n c,.slice a' n' c'] 81)) w.heap.size q:=
 ⟨m,a,n,c,a',n',c',Blk.new w _ _,h.call (br0.alloc nr _)⟩
def h0H {w:World}{b:Nat}{m0:Bool}{a0 b0:Option Addr}{n0 c0 n1 c1:Nat}{t:TypeId}(hb:Blk w b #[.bool m0,.slice a0 n0 c0,.slice b0 n1 c1] t)(m:Bool)(a a':Option Addr)(n c n' c':Nat){v:Value}{q:Rat}(h:IsQ .i64 w v q):
 IsQ .i64 (((w.setCell ⟨b,0,none⟩ (.bool m)).setCell ⟨b,1,none⟩ (.slice a n c)).setCell ⟨b,2,none⟩ (.slice a' n' c')) v q:=by
 obtain⟨N,D,rfl,h1,h2⟩:=h.ex;have hs:=(c0C hb m a a' n c n' c').1;exact⟨N,D,rfl,hs _ _ _ h1,hs _ _ _ h2⟩
theorem QB.put {w:World}{b:Nat}{m0:Bool}{a0 b0:Option Addr}{n0 c0 n1 c1:Nat}(hb:Blk w b #[.bool m0,.slice a0 n0 c0,.slice b0 n1 c1] 81){m:Bool}{a a':Option Addr}{n c n' c':Nat}{q:Rat}(h:IsQ .i64 w (.agg #[.bool m,.slice a n c,.slice a' n' c']) q):
 QB (((w.setCell ⟨b,0,none⟩ (.bool m)).setCell ⟨b,1,none⟩ (.slice a n c)).setCell ⟨b,2,none⟩ (.slice a' n' c')) b q:=
 ⟨m,a,n,c,a',n',c',(c0C hb m a a' n c n' c').2,h0H hb m a a' n c n' c' h⟩
end
section
def h0W {P:Program}(w:World)(base:Nat)(t ty e:TypeId)(i:TypeInfo)(z:Value)(size bytes:Nat)(ht:P.underlying t=some (.slice e))(hi:P.info? e=some i)(hz:i.zero=some z)
 (hsize:i.size=size) (hby:i.bytes=bytes) (hzs:z.cells.size=size) (hsz:0<size)
 (v:Value) (n:Nat) (xs:List Value) (hown:w.ownsRow base e size v n xs) (hv:v ≠ .slice none 0 0)
 (ao:Option Addr) (m c:Nat) (news:List Value) (hl:news.length=m*size) (hnews:∀ j u,news[j]?=some u->∃ ad,ao=some ad/\w.cell? (ad.add j)=some u) (h1:∀ u∈news,u.oneCell'=true)
 (h63:n+m<=maxLen) (hbytes:(n+m)*bytes<=140737488355328) (hbase:base<=w.heap.size):
 ∃ v' w',(Builtin.append_ #[t,t] ty #[v,.slice ao m c]).run P w=.ok v' w'/\w'.ownsRow base e size v' (n+m) (xs++news)/\w.grownBy w' v.ownBlock/\v' ≠ .slice none 0 0:=by
 cases ao with
 | some ad=>
  obtain⟨v',w',hr,k1,k2,k3,-⟩:=run_append_own_at (P:=P) w base t ty e i z size bytes ht hi hz hsize hby hzs hsz v n xs hown ad m c news hl (fun j u hu=>by obtain⟨ad',e',hc⟩:=hnews j u hu;cases e';exact hc) h1 h63 hbytes hbase;exact⟨v',w',hr,k1,k2,fun e=>hv (k3.1 e).1⟩
 | none=>
  have hn:news = []:=by
   cases news with
   | nil=>rfl
   | cons u r=>obtain⟨ad,e,_⟩:=hnews 0 u rfl;cases e
  subst hn;have hm:m=0:=by
   rcases H8 m with h | h
   .exact h
   .have:=Eb h hsz;simp at hl;omega
  subst hm;refine⟨v,w,?_,by simpa using hown,⟨rfl,rfl,rfl,O4 _,fun _ _ _=>rfl⟩,hv⟩;rcases hown.2 with ⟨e,_⟩ | ⟨g,cap,cur,rfl,hb,hg,h1',h2',h3',h4'⟩
  .exact absurd e hv
  .simp[Builtin.append_,run_underlying ht,sizeOf,typeInfo,hi,Builtin.lenOf,Builtin.firstCells,loadCells,loadCellsFrom,storeCells,h1']
def c0Q {P:Program}{w:World}{ops:Array Oper}{rest:List Oper}{o:Oper}{a:Act}{Q:Exit->Act->World->Prop}(hgd:o.guard=none)(s x:Operand)(t:TypeId)
 (ho:o.op=.call { callee:=.builtin .append,args:=#[s,x],argTypes:=#[t,t] })
 (base:Nat) (e:TypeId) (i:TypeInfo) (z:Value) (size bytes:Nat) (ht:P.underlying t=some (.slice e)) (hi:P.info? e=some i) (hz:i.zero=some z)
 (hsize:i.size=size) (hby:i.bytes=bytes) (hzs:z.cells.size=size) (hsz:0<size)
 (v:Value) (n:Nat) (xs:List Value) (hs:a.eval s=v) (hown:w.ownsRow base e size v n xs) (hv:v ≠ .slice none 0 0)
 (ao:Option Addr) (m c:Nat) (news:List Value) (hx:a.eval x=.slice ao m c) (hl:news.length=m*size) (hnews:∀ j u,news[j]?=some u->∃ ad,ao=some ad/\w.cell? (ad.add j)=some u) (h1:∀ u∈news,u.oneCell'=true)
 (h63:n+m<=maxLen) (hbytes:(n+m)*bytes<=140737488355328) (hbase:base<=w.heap.size)
 (h:∀ v' w',w'.ownsRow base e size v' (n+m) (xs++news)->w.grownBy w' v.ownBlock->v' ≠ .slice none 0 0->wpList P ops Q rest (a.put o.dst v') w'):
 wpList P ops Q (o::rest) a w:=by
 refine wpList_plain hgd fun K hK=>?_
 obtain⟨v',w',hr,h2,h3,h4⟩:=h0W (P:=P) w base t o.type e i z size bytes ht hi hz hsize hby hzs hsz v n xs hown hv ao m c news hl hnews h1 h63 hbytes hbase;unfold Oper.wp execOp;simp only[ho,resolve,invoke,builtin,Sem.run_bind,Sem.run_pure,Result.andThen_ok,List.map_toArray,Kj,List.map_nil,hs,hx,hr];exact hK _ _ (h v' w' h2 h3 h4)
def c0x {w W w3:World}{t:TypeId}{z:Nat}{v:Value}{m:Nat}{vs:List Value}(h:W.ownsRow w.heap.size t z v m vs)(h0:Below w.heap.size w W)(hg:W.grownBy w3 v.ownBlock):Below w.heap.size w w3:=by
 refine h0.trans ⟨hg.os,hg.tape,hg.output,hg.size,fun j hj=>hg.block j (J7 hj h0.size) fun e=>?_⟩;have:=(h.lt j e.symm).1;omega
open Go.Shelf
def y0F:(prog.info? 89).map (fun i=>(i.zero,i.size,i.bytes))=some (some (.agg #[.int .i64 0,.bool false,.slice none 0 0,.slice none 0 0]),4,64):=by kernel_rfl
def ltV (d:List (ByteArray×ByteArray)):Nat->Rat
 | 0=>0
 | i+1=>match d[i]? with
  | some p=>if p.1=b0d then vQ p.2 else ltV d i
  | none=>ltV d i
theorem n0Y {d:List (ByteArray×ByteArray)}{i:Nat}{p:ByteArray×ByteArray}(h:d[i]?=some p)(hp:p.1=b0d):ltV d (i+1)=vQ p.2:=by
 rw[ltV,h];exact J3 hp
theorem y0u {d:List (ByteArray×ByteArray)}{i:Nat}{p:ByteArray×ByteArray}(h:d[i]?=some p)(hp:¬ p.1=b0d):ltV d (i+1)=ltV d i:=by
 rw[ltV,h];exact J2 hp
def v0b {W:World}{g:Nat}{cs:Array Value}{t:TypeId}(h:Blk W g cs t):∀ j u,cs.toList[j]?=some u->W.cell? ((⟨g,0,none⟩:Addr).add j)=some u:=fun j u hj=>by
 rw[Addr.add_lit,F9,h.cell];simpa using hj
def o0r {w:World}{b:Nat}{m0:Bool}{a0 b0:Option Addr}{n0 c0 n1 c1:Nat}{t:TypeId}(hb:Blk w b #[.bool m0,.slice a0 n0 c0,.slice b0 n1 c1] t)(m:Bool)(a a':Option Addr)(n c n' c':Nat){v:Value}{l:List (Int×Rat)}(h:CRow w v l):
 CRow (((w.setCell ⟨b,0,none⟩ (.bool m)).setCell ⟨b,1,none⟩ (.slice a n c)).setCell ⟨b,2,none⟩ (.slice a' n' c')) v l:=by
 obtain⟨s,k,rfl,h1,h2,h3⟩:=h.ex;refine⟨s,k,rfl,h1,h2,fun i x hx=>?_⟩;obtain⟨g,o,N,D,rfl,hg,k1,k2,k3,k4,k5,k6⟩:=h3 i x hx;have hne:g≠b:=by
  rintro rfl;rw[hb.cell]at k1;exact NoInt.three _ _ _ _ _ _ _ _ _ _ k1
 have hc:∀ j,(((w.setCell ⟨b,0,none⟩ (.bool m)).setCell ⟨b,1,none⟩ (.slice a n c)).setCell ⟨b,2,none⟩ (.slice a' n' c')).cell? ⟨g,j,none⟩=w.cell? ⟨g,j,none⟩:=fun j=>by
  unfold World.cell?;rw[Bc _ _ _ _ (by simpa using hne),Bc _ _ _ _ (by simpa using hne),Bc _ _ _ _ (by simpa using hne)]
 have hs:=(c0C hb m a a' n c n' c').1;exact⟨g,o,N,D,rfl,by simpa using hg,(hc _).trans k1,(hc _).trans k2,(hc _).trans k3,(hc _).trans k4,hs _ _ _ k5,hs _ _ _ k6⟩
def h0q (w:World)(v:Value)(d:List (ByteArray×ByteArray))(n:Nat)(hn:n<=32)(hv:MRow w v d)(hd:∀ p∈d,qE p.2=0/\p.2.size<=10000)(hl:d.length<=100):
 Calls prog 70 #[v,.int .i64 (n:Nat)] w fun e w'=>(∃ u q,e=.returned (.tuple #[u,q])/\CRow w' u (chL d n (2*n+1))/\IsQ .i64 w' q (ltV d d.length))/\Below w.heap.size w w':=by
 obtain⟨i0,hi,hz0,hz1,hz2⟩:=Dx y0F;obtain⟨a,c,rfl,c1,c2,c3⟩:=hv.ex;have P1:=fun V=>hid (c0w V 1 (by decide +kernel))
 rw[show a0f 1=(⟨#[49]⟩:ByteArray) from by decide +kernel]at P1;obtain⟨HV,H3,HD,HN,HLn⟩:=zd hv c3 hd hn hl;obtain⟨L,hL⟩:=gn (d.length);have HL:=hid hL;rw[hL]at c1 hl HV |-;have wn:IntKind.i64.wrap (-(n:Int)) = -(n:Int):=by rw[U0 _ ⟨by omega,by omega⟩]
 clear hv c3 hd hn hL;go_enter func70,ntmps70;go_wp2_with fail;refine nu (P1 _) fun v1 w1 hv1 hb1=>?_;obtain⟨a1,k1,rfl,-⟩:=hv1.openI;obtain⟨l1,hl1⟩:=gn ((limbs 1).length);rw[hl1]at hv1 |-;obtain⟨A0,X5⟩:=zu ((J4 w.heap.size w).alloc nr (.cells #[.bool false,.slice none 0 0,.slice none 0 0] 81)) ((Blk.new w #[.bool false,.slice none 0 0,.slice none 0 0] 81).call hb1);have y1:=qx A0 hb1;have V1:=hid hv1;clear hb1 hv1 hl1;obtain⟨X7,A7,Q7⟩:=zg (Blk.new w1 #[.bool false,.slice none 0 0,.slice a1 l1 k1] 81) ((J4 w1.heap.size w1).alloc nr (.cells #[.bool false,.slice none 0 0,.slice a1 l1 k1] 81)) (show QB (w1.alloc (.cells #[.bool false,.slice none 0 0,.slice a1 l1 k1] 81)) w1.heap.size 0 from QB.new (IsQ.zero_ (IsN.zero .i64 w1) V1.out));go_wp2_with fail;have Y5:=hid (X5.out.call A7.out);have Y1:=qx y1 A7.out
 have GL:=hid (show w.heap.size<(w1.alloc (.cells #[.bool false,.slice none 0 0,.slice a1 l1 k1] 81)).heap.size/\w1.heap.size<(w1.alloc (.cells #[.bool false,.slice none 0 0,.slice a1 l1 k1] 81)).heap.size/\w.heap.size<w1.heap.size by
  have h1:=X5.out.lt;simp;omega)
 obtain⟨g5,hg5⟩:=gn (w.heap.size);obtain⟨g7,hg7⟩:=gn (w1.heap.size);obtain⟨W1,hW1⟩:=gn (w1.alloc (.cells #[.bool false,.slice none 0 0,.slice a1 l1 k1] 81));rw[hW1]at X7 Y5 Y1 GL Q7 |-;rw[hg7]at X7 GL Q7 |-;rw[hg5]at Y5 GL |-;obtain⟨HG5,HG7⟩:=zu hg5 hg7;clear hW1 hg5 hg7 X5 A7 A0 y1
 go_loopw [6,8,9,10,11] (fun s6 s8 s9 s10 s11 wr=>∃ (j:Nat) (vs:List (Int×Bool×Value×Value)),s8=.int .i64 ((j:Int)-n)/\j<=2*n+1/\Hid (COwn W1.heap.size wr s6 (chL d n j) vs)/\Hid (Below W1.heap.size W1 wr)) (fun s6 s8 s9 s10 s11 wr=>2*n+1-(intOf s8+n).toNat)
 case atStart=>exact⟨0,[],by congr 1;omega,K5 _,COwn.nil _ _,J4 _ _⟩
 case round=>
  obtain⟨j,vs,rfl,hj,hO,hB⟩:=hrel;have hn:=HN.out;by_cases hlt:j<2*n+1
  .have t0:decide ((j:Int)-n<=n)=true:=Z7 (by omega);have wk:IntKind.i64.wrap ((j:Int)-n+1)=((j+1:Nat):Int)-n:=by rw[U0 _ ⟨by omega,by omega⟩];omega
   have PZ:=fun V=>hid (r0h V ((j:Int)-n) (by omega) (by omega))
   obtain⟨K,hK⟩:∃ K:Int,(j:Int)-n=K:=⟨_,rfl⟩;rw[hK]at t0 wk PZ |-;obtain⟨HK,HJ⟩:=zu hK hlt;clear hK hlt hj hn;go_wp2_with fail
   go_loopw [6,9,10,11] (fun s6 s9 s10 s11 wx=>∃ (i:Nat) (vs:List (Int×Bool×Value×Value)),s9=.int .i64 (i:Nat)/\i<=L/\Hid (COwn W1.heap.size wx s6 (chL d n j++o0W (d.take i) K) vs)/\Hid (Below W1.heap.size W1 wx)) (fun s6 s9 s10 s11 wx=>L-(intOf s9).toNat)
   case atStart=>exact⟨0,vs,rfl,K5 _,by simpa[o0W]using hO,hB⟩
   case round=>
    obtain⟨i,us,rfl,hi,hO',hB'⟩:=hrel;by_cases hlt:i<L
    .obtain⟨p,hp⟩:∃ p,d[i]?=some p:=⟨_,Q0 (by rw[HL.out];exact hlt)⟩;obtain⟨g,o,rfl,hg,m1,m2⟩:=H3.out i p hp;have BW:=qx Y1 hB'.out;have KA:Hid (∀ W,Below w.heap.size w W->W.cell? ⟨g,o+i*2,none⟩=some (.string p.1)/\W.cell? ⟨g,o+i*2+1,none⟩=some (.string p.2)):=fun W hW=>by
      rw[M9 2]at m1 m2;exact⟨(hW.cell (p:=⟨g,o+i*2,none⟩) hg).trans m1,(hW.cell (p:=⟨g,o+i*2+1,none⟩) hg).trans m2⟩
     have f1:=qw i
     have f2:(i:Int)<(L:Int):=by omega
     have wi:IntKind.i64.wrap ((i:Int)+1)=((i+1:Nat):Int):=by have:=HLn.out;rw[U0 _ ⟨by omega,by omega⟩];omega
     obtain⟨HSL,HDP,HLT⟩:=zg (q0R (k:=K) hp) (HD.out p (U7 hp)) hlt;by_cases he:p.1=zB K
     .rw[if_pos he]at HSL;obtain⟨pk,pv⟩:=p;dsimp only at he KA HSL HDP;subst he;obtain⟨zk,hzk⟩:=gn (zB K);rw[hzk]at PZ KA;have r1:=(KA.out _ BW.out).1;have q5:(zk.toList==zk.toList)=true:=by simp
      have PR:=fun V=>hid (j0l V pv (by have:=HDP.out.2;omega) HDP.out.1)
      clear hp hg m1 m2 hzk hlt hi;go_wp2_with fail;refine a0j [0,1,2,3,4,5] 2 (fun w'=>w'.cell? ⟨g,o+i*2,none⟩=some (.string zk)) (by kernel_rfl) (by kernel_rfl) (by kernel_rfl) (by kernel_rfl) r1 ?_
      iterate 6
       refine⟨_,rfl,?_⟩;apply Exists.intro
       refine⟨.inl ⟨by rfl,?_⟩,?_⟩
       ·(intro W' hW';obtain q9:=hW';go_simp;try (with_reducible rfl))
       go_frame
      refine a0c (i:=6) (by kernel_rfl) rfl rfl ?_;go_wp2_with fail;refine ny (PZ _) fun w7 hb7=>?_;have x7:=hid (show Below wr.heap.size wr w7 from (br0.drew).trans hb7);have B7:=qx BW x7.out;have r7:=(KA.out _ B7.out).1;clear hb7 r1;go_wp2_with fail;refine⟨r7,?_⟩;refine a0V (is:=[7]) (g:=0) (by kernel_rfl) rfl r7 (by kernel_rfl) ?_
      iterate 1
       refine⟨_,rfl,?_⟩;apply Exists.intro
       refine⟨.inl ⟨by rfl,?_⟩,?_⟩
       ·(intro W' hW';obtain q9:=hW';go_simp;try (with_reducible rfl))
       go_frame
      refine J8 (by kernel_rfl) ?_ _;simp only[b0b];have r8:=(KA.out _ B7.out).2;clear r7;go_wp2_with fail;refine nu (PR _) fun v8 w8 hv8 hb8=>?_;have x8:=qx x7 hb8;obtain⟨N,D,rfl,hN,hD,fN,fD⟩:=hv8;obtain⟨aN,cN,rfl,-⟩:=hN.openI;obtain⟨aD,cD,rfl,-⟩:=hD.openI;obtain⟨lN,hlN⟩:=gn ((limbs (vQ pv).num.natAbs).length);obtain⟨lD,hlD⟩:=gn ((limbs (vQ pv).den).length);obtain⟨mq,hmq⟩:=gn (decide ((vQ pv).num<0));rw[hlN]at hN fN |-;rw[hlD]at hD fD |-;rw[hmq];obtain⟨Nw,Dw,FN,FD,HMQ⟩:=zd hN hD fN fD hmq;obtain⟨g0,g1,g2⟩:=qz ((Blk.new w8 #[.bool mq,.slice aN lN cN,.slice aD lD cD] 81));clear hb8 hN hD fN fD hlN hlD hmq r8;obtain⟨XA,SA⟩:=zu ((x8.out.alloc x8.out.size (.cells #[.bool mq,.slice aN lN cN,.slice aD lD cD] 81)).alloc (by have:=x8.out.size;simp;omega) (.cells #[.int .i64 K,.bool mq,.slice aN lN cN,.slice aD lD cD] 89)) (((J4 w8.heap.size w8).alloc nr (.cells #[.bool mq,.slice aN lN cN,.slice aD lD cD] 81)).alloc (by simp) (.cells #[.int .i64 K,.bool mq,.slice aN lN cN,.slice aD lD cD] 89));obtain⟨OA,CA,WB⟩:=zg (hO'.out.call XA.out) (Blk.made (w8.alloc (.cells #[.bool mq,.slice aN lN cN,.slice aD lD cD] 81)) #[.int .i64 K,.bool mq,.slice aN lN cN,.slice aD lD cD] 89 (n:=w8.heap.size+1) (by simp)) (hB'.out.trans (XA.out.mono hB'.out.size))
      have HLB:=hid (show (chL d n j++o0W (d.take i) K).length<=6700 from by
       have h1:=i0Q d n j;have h2:=h0f (d.take i) K;rw[Ba]at h2;rw[HL.out]at h1 h2;have h3:j*L<=65*100:=Ar (by have:=HJ.out;have:=HN.out;omega) (by have:=HLn.out;rw[HL.out]at this;exact this);rw[J5];have:=HLn.out;omega)
      obtain⟨NA,DA,pN,pD⟩:=zc (Nw.out.call SA.out) (Dw.out.call SA.out) (o0G (w1:=wr) (n:=(vQ pv).num.natAbs) hO'.out (fun g hg=>J0 x7.out.size (FN.out g hg))) (o0G (w1:=wr) (n:=(vQ pv).den) hO'.out (fun g hg=>J0 x7.out.size (FD.out g hg)));go_wp2_with (at_builtin;refine Fd _ rfl _ _ 78 rfl W1.heap.size 89 i0 (.agg #[.int .i64 0,.bool false,.slice none 0 0,.slice none 0 0]) 4 64 underlying78 hi hz0 hz1 hz2 rfl (by decide) _ _ (chF us) rfl OA.out.own ⟨w8.heap.size+1,0,none⟩ 1 1 [.int .i64 K,.bool mq,.slice aN lN cN,.slice aD lD cD] rfl rfl (v0b CA.out) (by simp[Value.oneCell']) (by have:=HLB.out;unfold maxLen;omega) (by have:=HLB.out;omega) WB.out.size ?_;intro v9 w9 hown hgrow _ hat;have O9:=hid hown;have G9:=hid hgrow;have T9:=hid hat;clear hown hgrow hat)
      obtain⟨B9,N9,HS9⟩:=zg (c0x OA.out.own WB.out G9.out) (COwn.next OA.out K (vQ pv) NA.out pN.out DA.out pD.out (by rw[HMQ.out];exact O9.out) G9.out T9.out) (show chL d n j++o0W (d.take (i+1)) K=chL d n j++o0W (d.take i) K ++ [(K,vQ pv)] from by rw[HSL.out,Au]);clear g0 g1 g2;go_roundw
      case rel=>exact⟨i+1,_,by go_num,by have:=HLT.out;omega,by rw[HS9.out];exact N9,B9⟩
      case measure=>simp[intOf]<;>(have:=HLT.out;omega)
     .rw[if_neg he,List.append_nil]at HSL;obtain⟨pk,pv⟩:=p;dsimp only at he KA HSL HDP;obtain⟨zk,hzk⟩:=gn (zB K);rw[hzk]at PZ he;have r1:=(KA.out _ BW.out).1;have q5:(pk.toList==zk.toList)=false:=by
       rw[M5];exact y0s he
      clear hp hg m1 m2 hzk hlt hi he;go_wp2_with fail;refine a0j [0,1,2,3,4,5] 2 (fun w'=>w'.cell? ⟨g,o+i*2,none⟩=some (.string pk)) (by kernel_rfl) (by kernel_rfl) (by kernel_rfl) (by kernel_rfl) r1 ?_
      iterate 6
       refine⟨_,rfl,?_⟩;apply Exists.intro
       refine⟨.inl ⟨by rfl,?_⟩,?_⟩
       ·(intro W' hW';obtain q9:=hW';go_simp;try (with_reducible rfl))
       go_frame
      refine a0c (i:=6) (by kernel_rfl) rfl rfl ?_;go_wp2_with fail;refine ny (PZ _) fun w7 hb7=>?_;have x7:=hid (show Below wr.heap.size wr w7 from (br0.drew).trans hb7);have B7:=qx BW x7.out;have r7:=(KA.out _ B7.out).1;clear hb7 r1;go_wp2_with fail;refine⟨r7,?_⟩;refine a0V (is:=[7]) (g:=0) (by kernel_rfl) rfl r7 (by kernel_rfl) ?_
      iterate 1
       refine⟨_,rfl,?_⟩;apply Exists.intro
       refine⟨.inl ⟨by rfl,?_⟩,?_⟩
       ·(intro W' hW';obtain q9:=hW';go_simp;try (with_reducible rfl))
       go_frame
      refine J8 (by kernel_rfl) ?_ _;simp only[b0b];clear r7;go_wp2_with fail;go_roundw
      case rel=>exact⟨i+1,us,by go_num,by have:=HLT.out;omega,by rw[HSL.out];exact hO'.out.call x7.out,hB'.out.trans (x7.out.mono hB'.out.size)⟩
      case measure=>simp[intOf]<;>(have:=HLT.out;omega)
    .obtain rfl:i=L:=by omega
     have q5:decide ((i:Int)<(i:Int))=false:=by simp
     clear hlt hi;go_wp2_with fail;go_roundw
     case rel=>exact⟨j+1,us,by congr 1<;>omega,by have:=HJ.out;omega,by
      have h:=hO'.out;rw[E7 (by rw[HL.out];exact O4 _)]at h;rw[chL,HK.out];exact h,hB'⟩
     case measure=>
      simp[intOf];have:=HJ.out;have:=HK.out;omega
  .obtain rfl:j=2*n+1:=by omega
   have t0:decide (((2*n+1:Nat):Int)-n<=n)=false:=Z6 (by omega);clear hlt hj;go_wp2_with fail;obtain⟨wL,hwL⟩:=qu wr;subst hwL;obtain⟨CL,QL7,XL5⟩:=zg hO.out.row (Q7.out.call hB.out) (Y5.out.call hB.out);have BL:=qx Y1 hB.out;clear hO hB
   go_loopw [12] (fun s12 wx=>∃ i:Nat,s12=.int .i64 (i:Nat)/\i<=L/\Hid (CRow wx u6 (chL d n (2*n+1)))/\Hid (QB wx g7 (ltV d i))/\Hid (Blk wx g5 #[.bool false,.slice none 0 0,.slice none 0 0] 81)/\Hid (Below w.heap.size w wx)) (fun s12 wx=>L-(intOf s12).toNat)
   case atStart=>exact⟨0,rfl,K5 _,CL,QL7,XL5,BL⟩
   case round=>
    obtain⟨i,rfl,hi,hC,hQ,h5,hB⟩:=hrel;by_cases hlt:i<L
    .obtain⟨p,hp⟩:∃ p,d[i]?=some p:=⟨_,Q0 (by rw[HL.out];exact hlt)⟩;obtain⟨g,o,rfl,hg,m1,m2⟩:=H3.out i p hp;have r1:=(hB.out.cell (p:=⟨g,o+2*i,none⟩) hg).trans m1;have r2:=(hB.out.cell (p:=⟨g,o+2*i+1,none⟩) hg).trans m2;rw[M9 2]at r1 r2;have f1:=qw i
     have f2:(i:Int)<(L:Int):=by omega
     have wi:=qy i (by omega)
     obtain⟨HDP,HLT⟩:=zu (HD.out p (U7 hp)) hlt;by_cases he:p.1=b0d
     .have HLV:=hid (n0Y hp he);obtain⟨pk,pv⟩:=p;dsimp only at he r1 r2 HLV HDP;subst he;unfold b0d at r1;have PR:=fun V=>hid (j0l V pv (by have:=HDP.out.2;omega) HDP.out.1)
      clear hp hg m1 m2 hlt hi;go_wp2_with fail;refine nu (PR _) fun v8 w8 hv8 hb8=>?_;obtain⟨m8,a8,n8,c8,b8,d8,e8,rfl⟩:=hv8.q.qv;obtain⟨m7,a7,n7,c7,b7,d7,e7,hb7,-⟩:=hQ.out;obtain⟨X8,V8,C8,Z8⟩:=zc (hb7.call hb8) hv8.q (hC.out.call hb8) (h5.out.call hb8);have B8:=qx hB hb8;obtain⟨t0,t1,t2⟩:=qz X8.out;obtain⟨t3,t4,t5⟩:=qq X8.out;clear hb8 hv8 hb7 hQ hC h5 hB r1 r2;go_wp2_with fail;have ne:g7≠g5:=by have:=GL.out;have:=HG5.out;have:=HG7.out;omega
      have le:w.heap.size<=g7:=by have:=GL.out;have:=HG5.out;have:=HG7.out;omega
      have Y8:=hid (((Z8.out.other (a:=⟨g7,0,none⟩) ne (.bool m8)).other (a:=⟨g7,1,none⟩) ne (.slice a8 n8 c8)).other (a:=⟨g7,2,none⟩) ne (.slice b8 d8 e8));refine⟨?_,?measure⟩
      (repeat apply Exists.intro)
      refine⟨?rel,rfl⟩
      case rel=>exact⟨i+1,by go_num,by have:=HLT.out;omega,o0r X8.out _ _ _ _ _ _ _ C8.out,by rw[HLV.out];exact QB.put X8.out V8.out,Y8,((B8.out.setCell le _).setCell le _).setCell le _⟩
      case measure=>simp[intOf]<;>(have:=HLT.out;omega)
     .have HLV:=hid (y0u hp he);obtain⟨pk,pv⟩:=p;dsimp only at he r1 r2 HLV HDP;have q5:=a0O (d:=pk) (l:=[108,97,116,101]) (by unfold b0d at he;exact he);clear hp hg m1 m2 hlt hi he;go_wp2_with fail;go_roundw
      case rel=>exact⟨i+1,by go_num,by have:=HLT.out;omega,hC,by rw[HLV.out];exact hQ,h5,hB⟩
      case measure=>simp[intOf]<;>(have:=HLT.out;omega)
    .obtain rfl:i=L:=by omega
     have q5:decide ((i:Int)<(i:Int))=false:=by simp
     obtain⟨m7,a7,n7,c7,b7,d7,e7,hb7,hq7⟩:=hQ.out;obtain⟨X7',V7⟩:=zu hb7 hq7;clear hlt hi hb7 hq7 hQ;have ne:g5≠g7:=by have:=GL.out;have:=HG5.out;have:=HG7.out;omega
     have KS:Hid (∀ (m:Bool) (a a':Option Addr) (n c n' c':Nat),Blk (((wr.drew.setCell ⟨g5,0,none⟩ (.bool m)).setCell ⟨g5,1,none⟩ (.slice a n c)).setCell ⟨g5,2,none⟩ (.slice a' n' c')) g7 #[.bool m7,.slice a7 n7 c7,.slice b7 d7 e7] 81):=fun m a a' n c n' c'=>
      ((X7'.out.drew.other (a:=⟨g5,0,none⟩) ne (.bool m)).other (a:=⟨g5,1,none⟩) ne (.slice a n c)).other (a:=⟨g5,2,none⟩) ne (.slice a' n' c')
     obtain⟨t0,t1,t2⟩:=qz h5.out;obtain⟨t3,t4,t5⟩:=qq h5.out;clear ne;go_wp2_with fail;refine a0j [0,1,2] 1 (fun w'=>w'.cell? ⟨g7,0,none⟩=some (.bool m7)/\w'.cell? ⟨g7,1,none⟩=some (.slice a7 n7 c7)/\w'.cell? ⟨g7,2,none⟩=some (.slice b7 d7 e7)) (by kernel_rfl) (by kernel_rfl) (by kernel_rfl) (by kernel_rfl) ⟨X7'.out.drew.cell 0,X7'.out.drew.cell 1,X7'.out.drew.cell 2⟩ ?_
     iterate 3
      refine⟨_,rfl,?_⟩;apply Exists.intro
      refine⟨.inl ⟨by rfl,?_⟩,?_⟩
      .rintro W' ⟨q9,q8,q7⟩;go_simp;try with_reducible rfl
      go_frame
     refine a0c (i:=3) (by kernel_rfl) rfl rfl ?_;go_wp2_with fail;refine⟨⟨(KS.out _ _ _ _ _ _ _).cell 0,(KS.out _ _ _ _ _ _ _).cell 1,(KS.out _ _ _ _ _ _ _).cell 2⟩,?_⟩;refine J8 (by kernel_rfl) ?_ _;simp only[b0b];obtain⟨s1,s2⟩:=c0C h5.out m7 a7 b7 n7 c7 d7 e7;obtain⟨f0,f1,f2⟩:=qz s2;clear t0 t1 t2 t3 t4 t5;go_wp2_with fail;refine C7 (v:=.tuple #[u6,.agg #[.bool m7,.slice a7 n7 c7,.slice b7 d7 e7]]) (by simp[results,results70,go_sem,f0,f1,f2]) rfl ⟨⟨_,_,rfl,o0r h5.out.drew _ _ _ _ _ _ _ (hC.out.call br0.drew),h0H h5.out.drew m7 a7 b7 n7 c7 d7 e7 (V7.out.call br0.drew)⟩,?_⟩;have le:w.heap.size<=g5:=by have:=HG5.out;omega
     exact ((hB.out.drew.setCell le _).setCell le _).setCell le _
end
section
def psV (g:Int->Nat)(p:Int->Bool)(v:Int):Nat:=if p v=true then g v else 0
def psN (g:Int->Nat)(n:Nat)(p:Int->Bool)(i:Nat):Nat:=smV (psV g p) ((chA g n).take i)
def u0J (g:Int->Nat)(n:Nat)(p:Int->Bool):psN g n p 0=0:=by unfold psN;rw[Du];rfl
def y0d {g:Int->Nat}{n i:Nat}{v:Int}{p:Int->Bool}(h:(chA g n)[i]?=some v)(hv:p v=true):dyQ (psN g n p i) n+dyQ (g v) n=dyQ (psN g n p (i+1)) n:=by
 unfold psN;rw[n0r h,h0Q]
 congr 2
 unfold psV;rw[J3 hv]
def u0K {g:Int->Nat}{n i:Nat}{v:Int}{p:Int->Bool}(h:(chA g n)[i]?=some v)(hv:p v=false):psN g n p i=psN g n p (i+1):=by
 unfold psN;rw[n0r h];unfold psV;rw[J2 (by rw[hv];simp)];rfl
def m0m (g:Int->Nat)(n:Nat)(p:Int->Bool):psN g n p (chA g n).length=zS n (psV g p):=by
 unfold psN;rw[Ei];exact l0Y (fun v h=>by unfold psV;rw[h];simp) n
def a1Y (g:Int->Nat)(n:Nat)(p:Int->Bool):zS n (psV g p)<=zS n g:=z0X fun v _ _=>by unfold psV;split<;>omega
def a1Z {g:Int->Nat}{n:Nat}(hz:zS n g<=2 ^ n)(p:Int->Bool)(i:Nat):psN g n p i<=2 ^ n:=by
 have h1:psN g n p i<=psN g n p (chA g n).length:=by unfold psN;rw[Ei];exact a1w i
 rw[m0m]at h1;exact J0 h1 (J0 (a1Y g n p) hz)
def r0u (g:Int->Nat)(n:Nat)(m:Int):psN g n (fun v=>decide (v<m)) (chA g n).length=blw g n m:=m0m _ _ _
def u0L (g:Int->Nat)(n:Nat)(m:Int):psN g n (fun v=>decide (m<=v)) (chA g n).length=zS n g-blw g n m:=by
 rw[m0m,<- t0w]
 congr 1
 funext v
 unfold psV;by_cases h:m<=v
 .rw[J3 (by simpa using h),J3 (by simp;omega)]
 .rw[J2 (by simpa using h),J2 (by simp;omega)]
theorem j0A {d:List (ByteArray×ByteArray)}(h:∀ p∈d,p.1≠b0d):∀ i,ltV d i=0
 | 0=>rfl
 | i+1=>by
  rw[ltV]
  split
  .rename_i p hp
   rw[J2 (h p (U7 hp)),j0A h i]
  .exact j0A h i
theorem w0F {d:List (ByteArray×ByteArray)}{q:Rat}(h:∀ p∈d,p.1=b0d->vQ p.2=q):∀ i j p,j<i->d[j]?=some p->p.1=b0d->ltV d i=q
 | 0,j,p,hj,_,_=>absurd hj (Nat.not_lt_zero _)
 | i+1,j,p,hj,hp,hl=>by
  by_cases e:j=i
  .subst e;rw[n0Y hp hl,h p (U7 hp) hl]
  .have ih:=w0F h i j p (by omega) hp hl;rw[ltV]
   split
   .rename_i p' hp'
    by_cases hl':p'.1=b0d
    .rw[J3 hl',h p' (U7 hp') hl']
    .rw[J2 hl'];exact ih
   .exact ih
def r0Y {g:Int->Nat}{n r:Nat}(hn:n<=1000)(hr:r<=2 ^ n):ltV (a0p (glP g (2 ^ n) n r)) (a0p (glP g (2 ^ n) n r)).length=dyQ r n:=by
 have hm:∀ p∈a0p (glP g (2 ^ n) n r),p.1=b0d->r≠0/\p.2=dyB r n:=fun p hp e=>by
  rw[b0H,d0K]at hp;rcases hp with ⟨v,_,_,_,rfl⟩ | ⟨h0,rfl⟩
  .exact absurd (congrArg (fun b:ByteArray=>b.data.toList) e) (e0t v)
  .exact⟨h0,rfl⟩
 have hv:vQ (dyB r n)=dyQ r n:=by rw[show dyB r n=txQ (dyQ r n) from g0u hr hn,e0P]
 by_cases h0:r=0
 .rw[j0A fun p hp e=>(hm p hp e).1 h0,h0,j0T]
 .have hin:(b0d,dyB r n)∈a0p (glP g (2 ^ n) n r):=by rw[b0H,d0K];exact .inr ⟨h0,rfl⟩
  obtain⟨j,hj⟩:=Bi hin;exact w0F (fun p hp e=>by rw[(hm p hp e).2,hv]) _ j _ (U4.1 hj).1 hj rfl
def ryN (gA gC:Int->Nat)(n:Nat)(thr x:Int)(c:List Int)(i k:Nat):Nat:=gA x*(zS n gC-blw gC n (thr+x-c.getD i 0))*sqB gC n (thr+x) c (min i k)*zS n gC ^ (k-(i+1))
def ryE (i k:Nat):Nat:=2+(if k<=i then k else k-1)
section
variable {gA gC : Int -> Nat} {n : Nat} (hA : zS n gA <= 2 ^ n) (hC : zS n gC <= 2 ^ n) (hx : ∀ x, gA x <= 2 ^ n)
theorem u0n (thr x:Int)(c:List Int)(i:Nat):dyQ (gA x) n*dyQ (zS n gC-blw gC n (thr+x-c.getD i 0)) n=dyQ (ryN gA gC n thr x c i 0) (n*ryE i 0):=by
 rw[f0W];unfold ryN ryE;rw[Nat.min_zero,J3 (K5 _),Nat.zero_sub,Dd,Dr,sqB,Dr]
 congr 1;omega
theorem q0X {thr x:Int}{c:List Int}{i k:Nat}(h:k<i):dyQ (ryN gA gC n thr x c i k) (n*ryE i k)*dyQ (blw gC n (thr+x-c.getD k 0)) n=dyQ (ryN gA gC n thr x c i (k+1)) (n*ryE i (k+1)):=by
 rw[f0W];unfold ryN ryE;rw[Nat.min_eq_right (by omega),Nat.min_eq_right (by omega),J3 (by omega),J3 (by omega),show k-(i+1)=0 by omega,show k+1-(i+1)=0 by omega,Dd,Dr,Dr,sqB,<- A9]
 congr 1
theorem x0I {thr x:Int}{c:List Int}{i:Nat}:dyQ (ryN gA gC n thr x c i i) (n*ryE i i)=dyQ (ryN gA gC n thr x c i (i+1)) (n*ryE i (i+1)):=by
 unfold ryN ryE;rw[Nat.min_self,Gt (by omega),J3 nr,J2 (by omega),show i-(i+1)=0 by omega,Bq,Fb]
theorem q0W {thr x:Int}{c:List Int}{i k:Nat}(h:i<k):dyQ (ryN gA gC n thr x c i k) (n*ryE i k)*dyQ (zS n gC) n=dyQ (ryN gA gC n thr x c i (k+1)) (n*ryE i (k+1)):=by
 rw[f0W];unfold ryN ryE;rw[Gt (by omega),Gt (by omega),J2 (by omega),J2 (by omega),show k+1-(i+1)=k-(i+1)+1 by omega,E9,<- A9]
 congr 1
 rw[<- Fu]
 congr 1;omega
theorem w0r {thr x:Int}{c:List Int}{i:Nat}(hi:i<c.length):ryN gA gC n thr x c i c.length=gA x*sqF gC n (thr+x) i 0 c/\ryE i c.length=c.length+1:=by
 constructor
 .unfold ryN;rw[q0C gC n (thr+x) hi,Gt (by omega),show c.length-(i+1)=c.length-1-i by omega];simp only[M9,Gk]
 .unfold ryE;rw[J2 (by omega)];omega
include hC hx in
theorem c1F (thr x:Int)(c:List Int)(i k:Nat):ryN gA gC n thr x c i k<=2 ^ (n*ryE i k):=by
 unfold ryN;have h1:=hx x;have h2:zS n gC-blw gC n (thr+x-c.getD i 0)<=2 ^ n:=J0 (Hv _ _) hC;have h3:=q0E hC (thr+x) c (min i k);have h4:=g0T hC (k-(i+1));refine J0 (Ar (Ar (Ar h1 h2) h3) h4) ?_;rw[<- Be,<- Be,<- Be];refine J6 (by omega) ?_;unfold ryE;rw[show n+n+n*min i k+n*(k-(i+1))=n*(2+min i k+(k-(i+1))) by simp only[Al];omega];refine Ad n ?_
 split<;>omega
theorem a1j {thr x:Int}{c:List Int}{i j:Nat}(hi:i<c.length)(h:(chA gA n)[j]?=some x):dyQ (sqS gA gC n thr c (chA gA n) i j) (n*(c.length+1))+dyQ (ryN gA gC n thr x c i c.length) (n*ryE i c.length)=dyQ (sqS gA gC n thr c (chA gA n) i (j+1)) (n*(c.length+1)):=by
 rw[(w0r (gA:=gA) (gC:=gC) (n:=n) (thr:=thr) (x:=x) hi).1,(w0r (gA:=gA) (gC:=gC) (n:=n) (thr:=thr) (x:=x) hi).2,h0Q];unfold sqS;rw[j0e h]
theorem x0h (thr:Int)(c:List Int)(i:Nat):sqS gA gC n thr c (chA gA n) i 0=0:=by unfold sqS;rw[Du];rfl
theorem n0D (g:Int->Nat)(n:Nat):q0c g n (chA g n):=fun f hf=>l0Y hf n
def alN (gA gC:Int->Nat)(n i:Nat):Nat:=zS n gA*zS n gC ^ i
def rsN (gA gC:Int->Nat)(n:Nat)(thr:Int)(c:List Int)(i:Nat):Nat:=zS n gA*zS n gC ^ c.length-a0m (sqT gA gC n thr c) i
theorem z0N (i:Nat):dyQ (alN gA gC n i) (n*(i+1))*dyQ (zS n gC) n=dyQ (alN gA gC n (i+1)) (n*(i+2)):=by
 rw[f0W];unfold alN;rw[E9,<- A9,<- Fu]
theorem z0M:dyQ (zS n gA) n=dyQ (alN gA gC n 0) (n*1):=by unfold alN;rw[Dd,Dr,Dr]
include hA hC in
theorem z0O (i:Nat):alN gA gC n i<=2 ^ (n*(i+1)):=by
 unfold alN;refine J0 (Ar hA (g0T hC i)) ?_;rw[<- Be];exact J6 (by omega) (by rw[Fu];omega)
theorem x0L (thr:Int)(c:List Int):rsN gA gC n thr c 0=alN gA gC n c.length:=by unfold rsN alN;rfl
theorem a1E {thr:Int}{c:List Int}{i:Nat}(hi:i<c.length):dyQ (rsN gA gC n thr c i) (n*(c.length+1)) + -dyQ (sqT gA gC n thr c i) (n*(c.length+1))=dyQ (rsN gA gC n thr c (i+1)) (n*(c.length+1)):=by
 have h1:=l0V gA gC n thr c;have h2:a0m (sqT gA gC n thr c) (i+1)<=a0m (sqT gA gC n thr c) (c.length+1):=a0Q (by omega);have h3:a0m (sqT gA gC n thr c) (i+1)=a0m (sqT gA gC n thr c) i+sqT gA gC n thr c i:=rfl;unfold rsN;rw[m0F (by omega)]
 congr 1;omega
theorem a1F (thr:Int)(c:List Int):rsN gA gC n thr c c.length=sqT gA gC n thr c c.length:=by
 have h1:=l0V gA gC n thr c;have h3:a0m (sqT gA gC n thr c) (c.length+1)=a0m (sqT gA gC n thr c) c.length+sqT gA gC n thr c c.length:=rfl;unfold rsN;omega
include hA hC in
theorem c1G (thr:Int)(c:List Int)(i:Nat):rsN gA gC n thr c i<=2 ^ (n*(c.length+1)):=J0 (Hv _ _) (z0O hA hC c.length)
include hA hC in
theorem y0y (L:Nat):1 + -dyQ (alN gA gC n L) (n*(L+1))=dyQ (sqL gA gC n L) (n*(L+1)):=by
 rw[<- j0U (n*(L+1)),m0F (z0O hA hC L)]
 rfl
end
def x0l {g:Int->Nat}{n r:Nat}(h:zS n g+r=2 ^ n):1 + -dyQ r n=dyQ (zS n g) n:=by
 rw[<- j0U n,m0F (by omega)]
 congr 1;omega
def ryW (gA gC:Int->Nat)(n:Nat)(thr:Int)(c:List Int):List (ByteArray×ByteArray):=c0v gA gC n thr c c.length ++ [(m1B,dyB (sqT gA gC n thr c c.length) (n*(c.length+1)))] ++ [(b0d,dyB (sqL gA gC n c.length) (n*(c.length+1)))]
def n0B (gA gC:Int->Nat)(n:Nat)(thr:Int)(c:List Int):(ryW gA gC n thr c).Perm (sqW gA gC n thr c c.length):=by
 unfold ryW sqW;rw[Au];exact List.perm_append_comm
def n0C (gA gC:Int->Nat)(n:Nat)(thr:Int)(c:List Int):((ryW gA gC n thr c).map b0t).Nodup:=(((n0B gA gC n thr c).map b0t).nodup_iff).2 (q0z gA gC n thr c)
def u0o (gA gC:Int->Nat)(n:Nat)(thr:Int)(c:List Int):a0p ((ryW gA gC n thr c).filter f0O)=a0p (sqD gA gC n thr c):=by
 refine d0X ((List.filter_sublist.map b0t).nodup (n0C gA gC n thr c)) (w0i gA gC n thr c) fun p=>?_
 unfold sqD;rw[Kk,Kk,(n0B gA gC n thr c).mem_iff]
def x0H {gA gC:Int->Nat}{n:Nat}{thr:Int}{c:List Int}{i:Nat}(hi:i<=c.length):((c0v gA gC n thr c i).map b0t).Nodup:=by
 have h:=n0C gA gC n thr c;unfold ryW at h;rw[Au,Ay]at h;have h2:=(Gn.1 h).1;refine ((List.IsPrefix.map b0t (?_:c0v gA gC n thr c i <+: c0v gA gC n thr c c.length)).sublist).nodup h2;unfold c0v
 exact List.IsPrefix.map _ (by
  rw[show List.range i=(List.range c.length).take i by rw[List.take_range,Gt hi]];exact List.take_prefix _ _)
def a1D {gA gC:Int->Nat}{n:Nat}{thr:Int}{c:List Int}{i:Nat}(hi:i<c.length):i0T (a0p ((c0v gA gC n thr c i).filter f0O)) (a0f i) (dyB (sqT gA gC n thr c i) (n*(c.length+1)))=a0p ((c0v gA gC n thr c (i+1)).filter f0O):=by
 rw[f0I];refine e0M ?_;rw[<- f0I];exact x0H (by omega)
def x0J (gA gC:Int->Nat)(n:Nat)(thr:Int)(c:List Int):i0T (a0p ((c0v gA gC n thr c c.length).filter f0O)) m1B (dyB (sqT gA gC n thr c c.length) (n*(c.length+1)))=a0p ((c0v gA gC n thr c c.length ++ [(m1B,dyB (sqT gA gC n thr c c.length) (n*(c.length+1)))]).filter f0O):=by
 refine e0M ?_;have h:=n0C gA gC n thr c;unfold ryW at h;rw[Ay]at h;exact (Gn.1 h).1
def x0K (gA gC:Int->Nat)(n:Nat)(thr:Int)(c:List Int):i0T (a0p ((c0v gA gC n thr c c.length ++ [(m1B,dyB (sqT gA gC n thr c c.length) (n*(c.length+1)))]).filter f0O)) b0d (dyB (sqL gA gC n c.length) (n*(c.length+1)))=a0p (sqD gA gC n thr c):=by
 rw[<- u0o];exact e0M (n0C gA gC n thr c)
open Go.Shelf
def c0U (w:World)(s:ByteArray)(hs:s.size<=1000000)(hq:qE s=0):
 Calls prog 120 #[.string s] w fun e w'=>f0E .i64 (vQ s) e w'/\Below w.heap.size w w':=by
 have PR:=fun V=>hid (j0l V s hs hq)
 obtain⟨A0,X0⟩:=zu ((J4 w.heap.size w).alloc nr (.cells #[.bool false,.slice none 0 0,.slice none 0 0] 81)) (Blk.new w #[.bool false,.slice none 0 0,.slice none 0 0] 81);clear hs hq;go_enter func120,ntmps120;go_wp2_with fail;refine nu (PR _) fun v1 w1 hv1 hb1=>?_;obtain⟨m1,a1,n1,c1,a2,n2,c2,rfl⟩:=hv1.q.qv;have X1:=hid (X0.out.call hb1);have y1:=qx A0 hb1;obtain⟨A1,Z1⟩:=zu ((J4 w1.heap.size w1).alloc nr (.cells #[.bool m1,.slice a1 n1 c1,.slice a2 n2 c2] 81)) (Blk.new w1 #[.bool m1,.slice a1 n1 c1,.slice a2 n2 c2] 81);have X2:=hid (X1.out.call A1.out);have y2:=qx y1 A1.out;have Q2:=hid (hv1.q.call A1.out);clear hb1 hv1 X1 y1;obtain⟨d0,d1,d2⟩:=qz X2.out;obtain⟨e0,e1,e2⟩:=qq X2.out;obtain⟨g0,g1,g2⟩:=qz Z1.out;go_wp2_with fail;obtain⟨s1,s2⟩:=c0C X2.out m1 a1 a2 n1 c1 n2 c2;obtain⟨f0,f1,f2⟩:=qz s2;refine C7 (v:=.agg #[.bool m1,.slice a1 n1 c1,.slice a2 n2 c2]) (by simp[results,results120,go_sem,f0,f1,f2]) rfl ⟨⟨_,rfl,h0H X2.out m1 a1 a2 n1 c1 n2 c2 Q2.out⟩,?_⟩;exact ((y2.out.setCell nr _).setCell nr _).setCell nr _
def n0M (w:World)(v:Value)(g:Int->Nat)(n:Nat)(most:Int)(hg:∀ v,g v<=2 ^ n)(hz:zS n g<=2 ^ n)(hn:n<=32)(hv:CRow w v (chQ g n))(p:Int->Bool)(E:Nat)(hE:psN g n p (chA g n).length=E):
 ((∀ x,p x=decide (x<most))->Calls prog 130 #[v,.int .i64 most] w fun e w'=>f0E .i64 (dyQ E n) e w'/\Below w.heap.size w w')/\((∀ x,p x=decide (most<=x))->Calls prog 129 #[v,.int .i64 most] w fun e w'=>f0E .i64 (dyQ E n) e w'/\Below w.heap.size w w'):=by
 refine⟨fun hp=>?_,fun hp=>?_⟩
 all_goals
  have PN:=fun V=>hid (c0U V ⟨#[48]⟩ (by decide) d1q)
  rw[d1m]at PN;obtain⟨LZ,GL,HE,HP⟩:=zc (fun i=>a1Z hz p i) (fun (v:Int) (_:v<=n)=>hg v) hE hp;obtain⟨a,c,rfl,c1,c2,c3⟩:=hv.ex;rw[i0P]at c1 |-;have HK65:=hid (J0 (i0R g n) (show 2*n+1<=65 by omega));obtain⟨K,hK⟩:=gn ((chA g n).length);have HK:=hid hK;rw[hK]at c1 HE HK65 |-;obtain⟨H3,HN,A0,X0⟩:=zc c3 hn ((J4 w.heap.size w).alloc nr (.cells #[.bool false,.slice none 0 0,.slice none 0 0] 81)) (Blk.new w #[.bool false,.slice none 0 0,.slice none 0 0] 81);clear hv c3 hK hg hz hn hp hE
  first
   | go_enter func130,ntmps130
   | go_enter func129,ntmps129
  go_wp2_with fail;refine nu (PN _) fun v1 w1 hv1 hb1=>?_;obtain⟨m1,a1,n1,k1,a2,n2,k2,rfl⟩:=hv1.qv;have X1:=hid (X0.out.call hb1);have y1:=qx A0 hb1;obtain⟨Q1,A1⟩:=zu (QB.new hv1) ((J4 w1.heap.size w1).alloc nr (.cells #[.bool m1,.slice a1 n1 k1,.slice a2 n2 k2] 81));clear hb1 hv1 X0 A0;go_wp2_with fail
  go_loopw [6] (fun s6 wr=>∃ i:Nat,s6=.int .i64 (i:Nat)/\i<=K/\Hid (QB wr w1.heap.size (dyQ (psN g n p i) n))/\Hid (Below w1.heap.size w1 wr)) (fun s6 wr=>K-(intOf s6).toNat)
  case atStart=>exact⟨0,rfl,K5 _,by rw[u0J,j0T];exact Q1,A1⟩
  case round=>
   obtain⟨i,rfl,hi,hQ,hB⟩:=hrel;have hk65:=HK65.out;by_cases hlt:i<K
   .obtain⟨x,hx,hx2⟩:=t0o (g:=g) (n:=n) (i:=i) (by rw[HK.out];exact hlt);obtain⟨gl,o,N,D,rfl,hgl,m1',m2',m3',m4',m5',m6'⟩:=H3.out i _ hx2;have BW:=qx y1 hB.out;have KA:Hid (∀ W,Below w.heap.size w W->W.cell? ⟨gl,o+i*4,none⟩=some (.int .i64 x)/\W.cell? ⟨gl,o+i*4+1,none⟩=some (.bool (decide ((dyQ (g x) n).num<0)))/\W.cell? ⟨gl,o+i*4+2,none⟩=some N/\W.cell? ⟨gl,o+i*4+3,none⟩=some D):=fun W hW=>
     ⟨(hW.cell (p:=⟨gl,o+i*4,none⟩) hgl).trans m1',(hW.cell (p:=⟨gl,o+i*4+1,none⟩) hgl).trans m2',(hW.cell (p:=⟨gl,o+i*4+2,none⟩) hgl).trans m3',(hW.cell (p:=⟨gl,o+i*4+3,none⟩) hgl).trans m4'⟩
    have QL:=hid (show IsQ .i64 w (.agg #[.bool (decide ((dyQ (g x) n).num<0)),N,D]) (dyQ (g x) n) from⟨N,D,rfl,m5',m6'⟩);obtain⟨mq,aq,nq,cq,aq',nq',cq',eq⟩:=QL.out.qv;injection eq with eq
    have eqs:[Value.bool (decide ((dyQ (g x) n).num<0)),N,D] = [.bool mq,.slice aq nq cq,.slice aq' nq' cq']:=congrArg Array.toList eq;injection eqs with e1 eqs
    injection eqs with e2 eqs
    injection eqs with e3 eqs
    subst e2 e3;rw[e1]at KA QL;have hxn:x<=(n:Int):=(c1c (U7 hx)).2.1;obtain⟨LQ,LP⟩:=zu (b0E (GL.out x hxn) (show n<=1000 by have:=HN.out;omega)) (b0E (LZ.out i) (show n<=1000 by have:=HN.out;omega));obtain⟨k0,k1'',k2'',k3''⟩:=KA.out _ BW.out;have f1:=qw i
    have f2:(i:Int)<(K:Int):=by omega
    have wi:=qy i (by omega)
    have HLT:=hid hlt;by_cases hm:p x=true
    .have t1:=hm;rw[HP.out]at t1;have HAD:=hid (y0d (p:=p) hx hm);obtain⟨m5,a5,n5,c5,a6,n6,c6,hb5,hq5⟩:=hQ.out;obtain⟨B5,V5⟩:=zu (show Blk wr.drew w1.heap.size _ _ from hb5) hq5;obtain⟨b0,b1,b2⟩:=qz B5.out;clear hx hx2 m1' m2' m3' m4' m5' m6' eq eqs e1 hm hlt hi hxn hk65 hb5 hq5 hQ;go_wp2_with fail;refine a0j [1,2,3,4,5] 3 (fun w'=>w'.cell? ⟨gl,o+i*4+1,none⟩=some (.bool mq)/\w'.cell? ⟨gl,o+i*4+2,none⟩=some (.slice aq nq cq)/\w'.cell? ⟨gl,o+i*4+3,none⟩=some (.slice aq' nq' cq')) (by kernel_rfl) (by kernel_rfl) (by kernel_rfl) (by kernel_rfl) (KA.out _ BW.out.drew).2 ?_
     iterate 5
      refine⟨_,rfl,?_⟩;apply Exists.intro
      refine⟨.inl ⟨by rfl,?_⟩,?_⟩
      .rintro W' ⟨q9,q8,q7⟩;go_simp;try with_reducible rfl
      go_frame
     refine a0c (i:=0) (by kernel_rfl) rfl rfl ?_;go_wp2_with fail;refine⟨(KA.out _ BW.out.drew).2,?_⟩;refine a0c (i:=6) (by kernel_rfl) rfl rfl ?_;go_wp2_with fail;refine ng (e0v _ _ _ _ _ (V5.out.call br0.drew) (QL.out.call BW.out.drew) LP.out.1 LP.out.2 LQ.out.1 LQ.out.2) fun v6 w6 hv6 hb6=>?_;obtain⟨m7,a7,n7,c7,a8,n8,c8,rfl⟩:=hv6.qv;obtain⟨x6,B6⟩:=zu (show Below wr.heap.size wr w6 from br0.drew.trans hb6) (B5.out.call hb6);have y6:=qx hB x6.out;have BW6:=qx BW x6.out;rw[HAD.out]at hv6;have V6:=hid hv6;obtain⟨t0,t1,t2⟩:=qz B6.out;obtain⟨t3,t4,t5⟩:=qq B6.out;clear hb6 hv6 b0 b1 b2;go_wp2_with fail;refine⟨(KA.out _ BW6.out).2,?_⟩;refine a0c (i:=7) (by kernel_rfl) rfl rfl ?_;go_wp2_with fail;have Y6:Below w.heap.size w (((w6.setCell ⟨w1.heap.size,0,none⟩ (.bool m7)).setCell ⟨w1.heap.size,1,none⟩ (.slice a7 n7 c7)).setCell ⟨w1.heap.size,2,none⟩ (.slice a8 n8 c8)):=((BW6.out.setCell y1.out.size _).setCell y1.out.size _).setCell y1.out.size _;refine⟨(KA.out _ Y6).2,?_⟩;clear Y6;refine J8 (by kernel_rfl) ?_ _;simp only[b0b];clear t0 t1 t2 t3 t4 t5;go_wp2_with fail;go_roundw
     case rel=>exact⟨i+1,by go_num,by have:=HLT.out;omega,QB.put B6.out V6.out,((y6.out.setCell nr _).setCell nr _).setCell nr _⟩
     case measure=>simp[intOf]<;>(have:=HLT.out;omega)
    .have t1:=Gm.2 hm;rw[HP.out]at t1;have HSK:=hid (u0K (p:=p) hx (Gm.2 hm));rw[HSK.out]at hQ;clear hx hx2 m1' m2' m3' m4' m5' m6' eq eqs e1 hm hlt hi hxn hk65 HSK;go_wp2_with fail;go_roundw
     case rel=>exact⟨i+1,by go_num,by have:=HLT.out;omega,hQ,hB⟩
     case measure=>simp[intOf]<;>(have:=HLT.out;omega)
   .obtain rfl:i=K:=by omega
    have t1:decide ((i:Int)<(i:Int))=false:=by simp
    rw[HE.out]at hQ;obtain⟨m5,a5,n5,c5,a6,n6,c6,hb5,hq5⟩:=hQ.out;obtain⟨V5,X5⟩:=zu hq5 (X1.out.call hB.out);have BW:=qx y1 hB.out;obtain⟨b0,b1,b2⟩:=qz hb5;obtain⟨d0,d1,d2⟩:=qz X5.out;obtain⟨e0,e1,e2⟩:=qq X5.out;clear hb5 hq5 hQ hlt hi hk65;go_wp2_with fail;obtain⟨s1,s2⟩:=c0C X5.out m5 a5 a6 n5 c5 n6 c6;obtain⟨f0,f1,f2⟩:=qz s2;refine C7 (v:=.agg #[.bool m5,.slice a5 n5 c5,.slice a6 n6 c6]) (by simp[results,results130,results129,go_sem,f0,f1,f2]) rfl ⟨⟨_,rfl,h0H X5.out m5 a5 a6 n5 c5 n6 c6 V5.out⟩,?_⟩;exact ((BW.out.setCell nr _).setCell nr _).setCell nr _
def r0j (w:World)(v:Value)(g:Int->Nat)(n:Nat)(most:Int)(hg:∀ v,g v<=2 ^ n)(hz:zS n g<=2 ^ n)(hn:n<=32)(hv:CRow w v (chQ g n)):
 Calls prog 130 #[v,.int .i64 most] w fun e w'=>f0E .i64 (dyQ (blw g n most) n) e w'/\Below w.heap.size w w':=
 (n0M w v g n most hg hz hn hv _ _ (r0u g n most)).1 fun _=>rfl
def u0D (w:World)(v:Value)(g:Int->Nat)(n:Nat)(most:Int)(hg:∀ v,g v<=2 ^ n)(hz:zS n g<=2 ^ n)(hn:n<=32)(hv:CRow w v (chQ g n)):
 Calls prog 129 #[v,.int .i64 most] w fun e w'=>f0E .i64 (dyQ (zS n g-blw g n most) n) e w'/\Below w.heap.size w w':=
 (n0M w v g n most hg hz hn hv _ _ (u0L g n most)).2 fun _=>rfl
end
section
def o0U (q:Rat):(0<q/\n0z q=1)\/(q=0/\n0z q=0)\/(q<0/\n0z q = -1):=by
 unfold n0z;by_cases h:q.num=0
 .exact .inr (.inl ⟨Mt.1 h,by rw[J3 h]⟩)
 .have hq:q≠0:=fun e=>h (Mt.2 e)
  by_cases h2:q.num<0
  .have h3:¬ 0<=q:=fun e=>absurd (Rat.num_nonneg.2 e) (by omega)
   exact .inr (.inr ⟨by grind,by rw[J2 h,J3 h2]⟩)
  .have h3:0<=q:=Rat.num_nonneg.1 (by omega);exact .inl ⟨by grind,by rw[J2 h,J2 h2]⟩
def n0S {p q:Rat}(h:¬ g0f p q<0):q<=p:=by
 unfold g0f at h;rcases o0U (p-q) with ⟨h1,h2⟩ | ⟨h1,h2⟩ | ⟨h1,h2⟩
 .grind
 .grind
 .omega
def hfQ (r:Rat):Rat:=(r+r) / (r+1)
def hlE (s:ByteArray):Int:=if qE s≠0 then qE s else if g0f (vQ s) 1<0 then 2 else c0p (hfQ (vQ s))
def hlB (s:ByteArray):ByteArray:=if qE s=0/\¬ g0f (vQ s) 1<0 then c0b (hfQ (vQ s)) else ⟨#[]⟩
def w0K {s:ByteArray}(h:¬ hlE s=0):hlB s=⟨#[]⟩:=by
 unfold hlB
 split
 .rename_i h1
  unfold hlE at h;rw[J2 (by simpa using h1.1),J2 h1.2]at h;unfold c0p at h;unfold c0b
  split at h
  .rename_i h2;rw[J3 h2]
  .exact absurd rfl h
 .rfl
open Go.Shelf
def f0m:(limbs (1:Rat).num.natAbs).length<=100000/\(limbs (1:Rat).den).length<=100000:=by
 have h:=b0E (x:=1) (m:=0) (by decide) (by omega);rwa[show dyQ 1 0=1 from j0U 0]at h
def j0n (w:World)(v:Value)(q:Rat)(hv:IsQ .i64 w v q)(h1:(limbs q.num.natAbs).length<=100000)(h2:(limbs q.den).length<=100000):
 Calls prog 128 #[v] w fun e w'=>f0E .i64 (1 + -q) e w'/\Below w.heap.size w w':=by
 have PN:=fun V=>hid (c0U V t1 (by decide) p0m)
 rw[q0l]at PN;unfold t1 at PN;have NQ:=fun V x h=>hid (e0w V x q h)
 have LN:Hid ((limbs (-q).num.natAbs).length<=100000/\(limbs (-q).den).length<=100000):=by
  show _/\_
  rw[Ij,Hw,Ld];exact⟨h1,h2⟩
 have HV:=hid hv;obtain⟨m,a,n,c,a',n',c',rfl⟩:=hv.qv;clear hv h1 h2;go_enter func128,ntmps128;go_wp2_with fail;obtain⟨W,hW⟩:=gn ((w.alloc (.cells #[.bool m,.slice a n c,.slice a' n' c'] 81)).alloc (.cells #[.bool false,.slice none 0 0,.slice none 0 0] 81));rw[hW];obtain⟨X0,Y0,Y1⟩:=zg (show Below w.heap.size w W from by rw[<- hW];exact (br0.alloc nr _).alloc (by simp) _) (show Blk W w.heap.size #[.bool m,.slice a n c,.slice a' n' c'] 81 from by rw[<- hW];exact (Blk.new w _ _).alloc _) (show Blk W (w.heap.size+1) #[.bool false,.slice none 0 0,.slice none 0 0] 81 from by rw[<- hW];exact Blk.made (w.alloc _) _ _ (by simp));clear hW;have KK:Hid (∀ w',Below W.heap.size W w'->w'.cell? ⟨w.heap.size,0,none⟩=some (.bool m)/\w'.cell? ⟨w.heap.size,1,none⟩=some (.slice a n c)/\w'.cell? ⟨w.heap.size,2,none⟩=some (.slice a' n' c')):=fun w' hb=>⟨(Y0.out.call hb).cell 0,(Y0.out.call hb).cell 1,(Y0.out.call hb).cell 2⟩
 refine a0j [1] 4 (fun w'=>w'.cell? ⟨w.heap.size,0,none⟩=some (.bool m)/\w'.cell? ⟨w.heap.size,1,none⟩=some (.slice a n c)/\w'.cell? ⟨w.heap.size,2,none⟩=some (.slice a' n' c')) (by kernel_rfl) (by kernel_rfl) (by kernel_rfl) (by kernel_rfl) (KK.out _ br0.drew) ?_
 iterate 1
  refine⟨_,rfl,?_⟩;apply Exists.intro
  refine⟨.inl ⟨by rfl,?_⟩,?_⟩
  .rintro W' ⟨q7,q8,q9⟩;go_simp;try with_reducible rfl
  go_frame
 refine a0c (i:=0) (by kernel_rfl) rfl rfl ?_;go_wp2_with fail;refine nu (PN _) fun v1 w1 hv1 hb1=>?_;obtain⟨m1,a1,n1,c1,b1,d1,e1,rfl⟩:=hv1.qv;obtain⟨y1,Q1⟩:=zu (show Below W.heap.size W w1 from br0.drew.trans hb1) hv1;clear hb1 hv1;go_wp2_with fail;refine⟨KK.out _ y1.out,?_⟩;refine a0c (i:=2) (by kernel_rfl) rfl rfl ?_;go_wp2_with fail;refine nu (NQ _ _ (HV.out.call (X0.out.trans (y1.out.mono X0.out.size)))) fun v2 w2 hv2 hb2=>?_;obtain⟨m2,a2,n2,c2,b2,d2,e2,rfl⟩:=hv2.qv;have y2:=qx y1 hb2;obtain⟨Q2,N2⟩:=zu (Q1.out.call hb2) hv2;clear hb2 hv2;go_wp2_with fail;refine⟨KK.out _ y2.out,?_⟩;refine a0c (i:=3) (by kernel_rfl) rfl rfl ?_;go_wp2_with fail;refine ng (e0v _ _ _ _ _ Q2.out N2.out f0m.1 f0m.2 LN.out.1 LN.out.2) fun v3 w3 hv3 hb3=>?_;obtain⟨m3,a3,n3,c3,b3,d3,e3,rfl⟩:=hv3.qv;have y3:=qx y2 hb3;obtain⟨X3,V3⟩:=zu (Y1.out.call y3.out) hv3;obtain⟨t0,t1,t2⟩:=qz X3.out;obtain⟨t3,t4,t5⟩:=qq X3.out;have Z0:=hid (Y0.out.call y3.out);clear hb3 hv3;go_wp2_with fail;refine⟨KK.out _ y3.out,?_⟩;refine a0c (i:=4) (by kernel_rfl) rfl rfl ?_;go_wp2_with fail;have ne:w.heap.size+1≠w.heap.size:=by omega
 have Y16:=((Z0.out.other (a:=⟨w.heap.size+1,0,none⟩) ne (.bool m3)).other (a:=⟨w.heap.size+1,1,none⟩) ne (.slice a3 n3 c3)).other (a:=⟨w.heap.size+1,2,none⟩) ne (.slice b3 d3 e3);refine⟨⟨Y16.cell 0,Y16.cell 1,Y16.cell 2⟩,?_⟩;refine J8 (by kernel_rfl) ?_ _;simp only[b0b];clear t0 t1 t2 t3 t4 t5 ne Y16;obtain⟨s1,s2⟩:=c0C X3.out m3 a3 b3 n3 c3 d3 e3;obtain⟨f0,f1,f2⟩:=qz s2;go_wp2_with fail;have Y3:=X0.out.trans (y3.out.mono X0.out.size);refine C7 (v:=.agg #[.bool m3,.slice a3 n3 c3,.slice b3 d3 e3]) (by simp[results,results128,go_sem,f0,f1,f2]) rfl ⟨⟨_,rfl,h0H X3.out m3 a3 b3 n3 c3 d3 e3 V3.out⟩,?_⟩;exact ((Y3.setCell (by simp) _).setCell (by simp) _).setCell (by simp) _
def n0N (w:World)(s:ByteArray)(hs:s.size<=100000):
 qb 36 #[.string s] w (.tuple #[.string (hlB s),.int .i64 (hlE s)]):=by
 have HC:=hid (n0L w s (by omega));unfold hlB hlE;by_cases hq:qE s=0
 case neg=>
  rw[J2 (fun h=>hq h.1),J3 hq];obtain⟨E,hE⟩:=gn (qE s);rw[hE]at HC hq |-;have q0:(E==0)=false:=by simpa using hq
  clear hs hq hE;go_enter func36,ntmps36;go_wp2_with fail;refine ny HC fun w0 hb0=>?_;go_wp2_with fail;go_ret2
  exact⟨rfl,hb0⟩
 have HM:=fun V=>hid (w0w V s t1 (by omega) (by decide))
 have hcm:cmB s t1=g0f (vQ s) 1:=by unfold cmB;rw[J3 ⟨hq,p0m⟩,q0l]
 rw[hcm]at HM;obtain⟨ce,hce⟩:=gn (cmE s t1);rw[hce]at HM;unfold t1 at HM;rw[hq]at HC |-;by_cases ho:g0f (vQ s) 1<0
 case pos=>
  rw[J2 (fun h=>h.2 ho),J2 (by simp),J3 ho];obtain⟨k,hk⟩:=gn (g0f (vQ s) 1);rw[hk]at HM ho;have q1:decide (k<0)=true:=Z7 ho;clear hs hq hce hcm hk ho;go_enter func36,ntmps36;go_wp2_with fail;refine nz HC fun w0 y0=>?_;go_wp2_with fail;refine nw (HM _) y0 fun w1 y1=>?_;go_wp2_with fail;go_ret2
  exact⟨rfl,y1.out⟩
 rw[J3 ⟨rfl,ho⟩,J2 (by simp),J2 ho];have h1:=n0S ho;obtain⟨k,hk⟩:=gn (g0f (vQ s) 1);rw[hk]at HM ho;have q1:decide (k<0)=false:=Z6 ho;have PS:=fun V=>hid (c0U V s (by omega) hq)
 have PN:=fun V=>hid (c0U V t1 (by decide) p0m)
 rw[q0l]at PN;unfold t1 at PN;have SR:=d0x hq;obtain⟨r,hr⟩:=gn (vQ s);rw[hr]at PS SR h1 |-;have S1':Sml 1000 (1:Rat):=by rw[<- q0l];exact d0x p0m
 obtain⟨S2,S3⟩:=zu (j0c SR SR) (j0c SR S1');have n0:r+1≠0:=by
  intro e;have h2:(0:Rat)<r+1:=by
   have:(1:Rat)+1<=r+1:=(Rat.add_le_add_right).2 h1;exact Std.lt_of_lt_of_le (by decide +kernel) this
  rw[e]at h2;exact absurd h2 (by decide +kernel)
 have S4:=hid (q0L n0 S3.out);obtain⟨S5,HR,N0⟩:=zg (n0q S2.out S4.out) SR n0;have HH:Hid ((r+r)*(r+1)⁻¹ = hfQ r):=by show _=_;unfold hfQ;rw[Rat.div_def]
 have W8:=fun V x h=>hid (c0F V x ((r+r)*(r+1)⁻¹) h (J0 S5.out.n (by omega)) (J0 S5.out.d (by omega)))
 rw[HH.out]at W8;clear hs hq hce hcm hk ho h1 hr SR S1' n0;go_enter func36,ntmps36;go_wp2_with fail;refine nz HC fun w0 y0=>?_;go_wp2_with fail;refine nw (HM _) y0 fun w1 y1=>?_;go_wp2_with fail;refine nu (PS _) fun v2 w2 hv2 hb2=>?_;obtain⟨m2,a2,n2,c2,b2,d2,e2,rfl⟩:=hv2.qv;have y2:=qx y1 hb2;obtain⟨A2,Z2⟩:=zu ((J4 w2.heap.size w2).alloc nr (.cells #[.bool m2,.slice a2 n2 c2,.slice b2 d2 e2] 81)) (Blk.new w2 #[.bool m2,.slice a2 n2 c2,.slice b2 d2 e2] 81);have R2:=hid (hv2.call A2.out);clear hb2 hv2;go_wp2_with fail;obtain⟨W,hW⟩:=gn (w2.alloc (.cells #[.bool m2,.slice a2 n2 c2,.slice b2 d2 e2] 81));rw[hW]at A2 Z2 R2 |-;clear hW;have yW:=qx y2 A2.out;have KK:Hid (∀ w',Below W.heap.size W w'->w'.cell? ⟨w2.heap.size,0,none⟩=some (.bool m2)/\w'.cell? ⟨w2.heap.size,1,none⟩=some (.slice a2 n2 c2)/\w'.cell? ⟨w2.heap.size,2,none⟩=some (.slice b2 d2 e2)):=fun w' hb=>⟨(Z2.out.call hb).cell 0,(Z2.out.call hb).cell 1,(Z2.out.call hb).cell 2⟩
 refine a0j [0,1,3] 10 (fun w'=>w'.cell? ⟨w2.heap.size,0,none⟩=some (.bool m2)/\w'.cell? ⟨w2.heap.size,1,none⟩=some (.slice a2 n2 c2)/\w'.cell? ⟨w2.heap.size,2,none⟩=some (.slice b2 d2 e2)) (by kernel_rfl) (by kernel_rfl) (by kernel_rfl) (by kernel_rfl) (KK.out _ br0.drew) ?_
 iterate 3
  refine⟨_,rfl,?_⟩;apply Exists.intro
  refine⟨.inl ⟨by rfl,?_⟩,?_⟩
  .rintro W' ⟨q7,q8,q9⟩;go_simp;try with_reducible rfl
  go_frame
 refine a0c (i:=2) (by kernel_rfl) rfl rfl ?_;go_wp2_with fail;refine ng (e0v _ _ _ _ _ (R2.out.call br0.drew) (R2.out.call br0.drew) (J0 HR.out.n (by omega)) (J0 HR.out.d (by omega)) (J0 HR.out.n (by omega)) (J0 HR.out.d (by omega))) fun v3 w3 hv3 hb3=>?_;obtain⟨m3,a3,n3,c3,b3,d3,e3,rfl⟩:=hv3.qv;obtain⟨y3,Q3⟩:=zu (show Below W.heap.size W w3 from br0.drew.trans hb3) hv3;clear hb3 hv3;go_wp2_with fail;refine⟨KK.out _ y3.out,?_⟩;refine a0c (i:=4) (by kernel_rfl) rfl rfl ?_;go_wp2_with fail;refine nu (PN _) fun v4 w4 hv4 hb4=>?_;obtain⟨m4,a4,n4,c4,b4,d4,e4,rfl⟩:=hv4.qv;have y4:=qx y3 hb4;obtain⟨Q4,V4⟩:=zu (Q3.out.call hb4) hv4;clear hb4 hv4;go_wp2_with fail;refine⟨KK.out _ y4.out,?_⟩;refine a0c (i:=5) (by kernel_rfl) rfl rfl ?_;go_wp2_with fail;refine ng (e0v _ _ _ _ _ (R2.out.call y4.out) V4.out (J0 HR.out.n (by omega)) (J0 HR.out.d (by omega)) f0m.1 f0m.2) fun v5 w5 hv5 hb5=>?_;obtain⟨m5,a5,n5,c5,b5,d5,e5,rfl⟩:=hv5.qv;have y5:=qx y4 hb5;obtain⟨Q5,V5⟩:=zu (Q4.out.call hb5) hv5;clear hb5 hv5;go_wp2_with fail;refine⟨KK.out _ y5.out,?_⟩;refine a0c (i:=6) (by kernel_rfl) rfl rfl ?_;go_wp2_with fail;refine ng (r0g _ _ _ V5.out N0.out) fun v6 w6 hv6 hb6=>?_;obtain⟨m6,a6,n6,c6,b6,d6,e6,rfl⟩:=hv6.qv;have y6:=qx y5 hb6;obtain⟨Q6,V6⟩:=zu (Q5.out.call hb6) hv6;clear hb6 hv6;go_wp2_with fail;refine⟨KK.out _ y6.out,?_⟩;refine a0c (i:=7) (by kernel_rfl) rfl rfl ?_;go_wp2_with fail;refine ng (c0G _ _ _ _ _ Q6.out V6.out (J0 S2.out.n (by omega)) (J0 S2.out.d (by omega)) (J0 S4.out.n (by omega)) (J0 S4.out.d (by omega))) fun v7 w7 hv7 hb7=>?_;obtain⟨m7,a7,n7,c7,b7,d7,e7,rfl⟩:=hv7.qv;have y7:=qx y6 hb7;rw[HH.out]at hv7;have V7:=hid hv7;clear hb7 hv7;go_wp2_with fail;refine⟨KK.out _ y7.out,?_⟩;refine a0c (i:=8) (by kernel_rfl) rfl rfl ?_;go_wp2_with fail;refine nw (W8 _ _ V7.out) y7 fun w8 y8=>?_;go_wp2_with fail;refine⟨KK.out _ y8.out,?_⟩;refine a0V (is:=[9,10,11,12]) (g:=0) (by kernel_rfl) rfl (KK.out _ y8.out) (by kernel_rfl) ?_
 iterate 4
  refine⟨_,rfl,?_⟩;apply Exists.intro
  refine⟨.inl ⟨by rfl,?_⟩,?_⟩
  .rintro W' ⟨q7,q8,q9⟩;go_simp;try with_reducible rfl
  go_frame
 refine J8 (by kernel_rfl) ?_ _;simp only[b0b];go_wp2_with fail;go_ret2
 exact⟨rfl,a0a yW.out y8.out⟩
def v0m:(prog.info? 204).map (fun i=>(i.zero,i.size,i.bytes))=some (some (.slice none 0 0),1,24):=by kernel_rfl
def v0G (w:World)(m:Bool)(vN vD:Value)(N D n:Nat)(hn:n<=32)(h0:0<N)(hND:N<D)(hN:IsN .i64 w vN N)(hD:IsN .i64 w vD D)(hd:∀ j,j<=n->nDigits (N*2 ^ j)<=4000):
 Calls prog 241 #[.agg #[.bool m,vN,vD],.int .i64 (n:Nat)] w fun e w'=>(∃ v,e=.returned v/\NSeg w.heap.size w' v (n+1) (n+1) (edn N D))/\Below w.heap.size w w':=by
 obtain⟨i0,hi,hz0,hz1,hz2⟩:=Dx v0m;obtain⟨aN,cN,rfl,-,-,-⟩:=hN.openI;obtain⟨aD,cD,rfl,-,-,-⟩:=hD.openI;obtain⟨lN,hlN⟩:=gn ((limbs N).length);obtain⟨lD,hlD⟩:=gn ((limbs D).length);rw[hlN]at hN |-;rw[hlD]at hD |-;have HT:=fun V hV1 hV2=>hid (l0s V m (.slice aN lN cN) (.slice aD lD cD) N D n (by omega) h0 hND hV1 hV2 hd)
 obtain⟨NN,ND,HN⟩:=zg hN hD hn;clear hN hD hd;go_enter func241,ntmps241;go_wp2_with fail;have C0:=hid ((J4 w.heap.size w).alloc nr (.cells #[.bool m,.slice aN lN cN,.slice aD lD cD] 81));refine (HT _ (NN.out.call C0.out) (ND.out.call C0.out)).out.mono ?_;rintro e w1 ⟨⟨u1,u2,rfl,hu1,hu2⟩,hb1⟩;obtain⟨a1,c1,rfl,p1,p2,-⟩:=hu1.ex;obtain⟨a2,c2,rfl,p3,p4,-⟩:=hu2.ex;simp only[t0x]at p1 p3 hu1 hu2 |-;have HZ:=fun V=>hid (f0w V n (by omega))
 have HR:=fun V=>hid (j0h V)
 have Z1:Hid (a0D N D 0=false/\a0i N D 0=false):=⟨rfl,by simp[a0i];omega⟩;obtain⟨WA,hWA⟩:=gn ((w1.alloc (.cells #[.slice a1 (n+1) c1,.slice a2 (n+1) c2] 268)));have BA:Hid (Below w.heap.size w WA):=by
  show Below w.heap.size w WA
  rw[<- hWA];have h1:=(C0.out.trans (hb1.mono C0.out.size));exact h1.alloc h1.size _
 have BB:Hid (Below w1.heap.size w1 WA):=by
  show Below w1.heap.size w1 WA
  rw[<- hWA];exact br0.alloc nr _
 have KA:Hid (Blk WA w1.heap.size #[.slice a1 (n+1) c1,.slice a2 (n+1) c2] 268):=by
  show Blk _ _ _ _
  rw[<- hWA];exact Blk.new w1 _ _
 obtain⟨U1,U2⟩:=zu (hu1.call BB.out) (hu2.call BB.out);obtain⟨gc,hgc⟩:=gn (w1.heap.size);rw[hgc]at KA;clear hu1 hu2 hb1 BB;go_wp2_with fail
 try rw[hWA]
 try rw[hgc]
 clear hWA hgc;refine (HZ _).out.mono ?_;rintro e w2 ⟨⟨g,c,rfl,ht⟩,hb2⟩;obtain⟨T0,B2⟩:=zu ht hb2;clear ht hb2;go_wp2_with fail;refine (HR _).out.mono ?_;rintro e w3 ⟨⟨v1,rfl,hv1,hf1⟩,hb3⟩;obtain⟨av,cv,rfl,-,-,-⟩:=hv1.openI;obtain⟨lv,hlv⟩:=gn ((limbs 1).length);rw[hlv]at hv1 hf1 |-;have B3:=qx B2 hb3;have T1:=hid (T0.out.call hb3);have F1:Hid (∀ g',(Value.slice av lv cv).ownBlock=some g'->WA.heap.size<=g'/\g'≠g):=fun g' hg=>by
  have h1:w2.heap.size<=g':=hf1 g' hg;have h2:=T0.out.slot;have h3:=B2.out.size;exact⟨by omega,by omega⟩
 have V1:=hid hv1;have fr:=T1.out.slot.2.2.2.2 0;obtain⟨x0,cx0,-,-⟩:=T1.out.at (i:=0) (by omega);have e0':(0:Int)<(n:Int)+1:=by omega
 have T2:Hid (NTab WA.heap.size (w3.setCell ⟨g,0,none⟩ (.slice av lv cv)) g (n+1) c (opn N D 0)):=(T1.out.put 0 V1.out (.inr F1.out)).fn fun k hk=>rfl
 have B4:=hid (B3.out.setCell (p:=⟨g,0,none⟩) (by have:=T1.out.slot.1;exact this) (.slice av lv cv));clear hlv hv1 hf1 hb3;go_wp2_with fail;have X0:Hid (NRowX (w3.setCell ⟨g,0,none⟩ (.slice av lv cv)) (.slice (some ⟨g,0,none⟩) (n+1) c) (n+1) (opn N D 0) (.slice none 0 0)):=NRowX.of T2.out fun b hb=>by simp[Value.ownBlock]at hb
 clear cx0 T0 T1 T2 fr e0' F1 V1 B2 B3 HR HT HZ;have SZ:Hid (gc<WA.heap.size):=KA.out.lt;obtain⟨CC,CC2⟩:=zu (KA.out.cell 0) (KA.out.cell 1)
 go_loopw [6,7,8] (fun s6 s7 s8 wr=>∃ (k G C:Nat),s6=.slice (some ⟨G,0,none⟩) (n+1) C/\s8=.int .i64 (k:Nat)/\k<=n+1/\Hid (NRowX wr s6 (n+1) (opn N D k) s7)/\Hid (NSeg WA.heap.size wr s7 k (n+1) (edn N D))/\Hid (Below WA.heap.size WA wr)) (fun s6 s7 s8 wr=>n+1-(intOf s8).toNat)
 case atStart=>exact⟨0,g,c,rfl,rfl,K5 _,X0,NSeg.nil _ _ _ _,B4⟩
 case round=>
  clear X0 B4;obtain⟨k,G,C,rfl,rfl,hk,hX,hO,hB⟩:=hrel;by_cases hlt:k<=n
  .have d0:decide (k<=n)=true:=by simp;omega
   have wi:IntKind.i64.wrap ((k:Int)+1)=((k+1:Nat):Int):=by have:=HN.out;rw[U0 _ ⟨by omega,by omega⟩];omega
   have cc2:wr.cell? ⟨gc,1,none⟩=some (.slice a2 (n+1) c2):=(hB.out.cell (p:=⟨gc,1,none⟩) SZ.out).trans CC2.out;obtain⟨U3,XR,KL⟩:=zg (U2.out.call hB.out) hX.out.row hlt;clear hk hlt;go_wp2_with fail;refine (j0S _ _ _ n (opn N D k) (a0i N D) (by have:=HN.out;omega) XR.out U3.out Z1.out.2 (fun s hs=>⟨a0b (o0m HN.out k s hs) (by have:=HN.out;have:=KL.out;omega),a0b (h0y HN.out k s hs) (by have:=HN.out;have:=KL.out;omega)⟩)).mono ?_;rintro e wz ⟨⟨gz,cz,rfl,htz⟩,hbz⟩;obtain⟨BZ,TZ⟩:=zu hbz htz;clear hbz htz;obtain⟨vs,HO0,HO1⟩:=id hO.out;obtain⟨HOO,HO9⟩:=zu HO0 HO1;obtain⟨ar,cr,rfl⟩:=b0l HO0;clear HO0 HO1;have hk9:=KL.out;go_wp2_with (at_builtin;refine Fd _ rfl _ _ 226 rfl WA.heap.size 204 i0 (.slice none 0 0) 1 24 underlying226 hi hz0 hz1 hz2 rfl (by decide) _ k vs rfl ((HOO.out.kept (b0O BZ.out none) (by cases ar<;>simp[Value.ownBlock])).alloc _) ⟨wz.heap.size,0,none⟩ 1 1 [.slice (some ⟨gz,0,none⟩) (n+1) cz] rfl rfl (Eu wz (.slice (some ⟨gz,0,none⟩) (n+1) cz) 204) (by simp[Value.oneCell']) (by unfold maxLen;omega) (by omega) (by have:=hB.out.size;have:=BZ.out.size;simp;omega) ?_;intro v' w5 hown hgrow _ hat;have HO5:=hid hown;have HG5:=hid hgrow;have HA5:=hid hat;clear hown hgrow hat;have B5:=hid (k0W HOO.out hB.out BZ.out HG5.out);have cc5:w5.cell? ⟨gc,0,none⟩=some (.slice a1 (n+1) c1):=(B5.out.cell (p:=⟨gc,0,none⟩) SZ.out).trans CC.out)
   obtain⟨N5,X5⟩:=zu (NSeg.next (f:=edn N D) (Ev n) HOO.out HO9.out BZ.out TZ.out HO5.out HG5.out HA5.out) (((hX.out.call BZ.out).call (br0.alloc nr _)).grow (Ev n) HG5.out HA5.out);obtain⟨XR5,U5⟩:=zu X5.out.row (U1.out.call B5.out);have OL5:Hid (∀ b,v'.ownBlock=some b->b<w5.heap.size):=fun b hb=>(HO5.out.lt b hb).2
   clear HO5 HG5 HA5 hk9 cc2;refine (j0S _ _ _ n (opn N D k) (a0D N D) (by have:=HN.out;omega) XR5.out U5.out Z1.out.1 (fun s hs=>⟨a0b (h0y HN.out (k+1) s hs) (by have:=HN.out;have:=KL.out;omega),a0b (h0y HN.out k s hs) (by have:=HN.out;have:=KL.out;omega)⟩)).mono ?_;rintro e w6 ⟨⟨g6,c6,rfl,ht6⟩,hb6⟩;have X6:Hid (NRowX w6 (.slice (some ⟨g6,0,none⟩) (n+1) c6) (n+1) (opn N D (k+1)) v'):=NRowX.of ht6 OL5.out;have N6:=hid (N5.out.call hb6);have B6:=qx B5 hb6;clear ht6 hb6;go_wp2_with fail;go_roundw
   case rel=>exact⟨k+1,_,_,rfl,by go_num,by have:=KL.out;omega,X6,N6,B6⟩
   case measure=>simp[intOf]<;>(have:=KL.out;omega)
  .have e1:k=n+1:=by omega
   subst e1;have d0:decide ((n:Int)+1<=(n:Int))=false:=by simp;omega
   obtain⟨BF,NF⟩:=zu (BA.out.trans (hB.out.mono BA.out.size)) (hO.out.mono BA.out.size);clear hk hlt;go_wp2_with fail;go_ret
   exact⟨⟨_,rfl,NF.out⟩,BF.out⟩
def r0c (w:World)(n:Nat)(h:n<=9223372036854775807):Calls prog 286 #[.int .i64 n] w fun e w'=>RetFr w.heap.size .i64 n e w'/\Below w.heap.size w w':=by
 have hd:=hid (show nDigits n<=9000 from J0 (a0l (k:=19) (by omega) (by omega)) (by omega));go_enter func286,ntmps286;go_wp2_with fail;refine (k0O _ n h).mono ?_;rintro e w1 ⟨rfl,rfl⟩;go_wp2_with fail;refine (c0H _ n hd.out).mono ?_;rintro e w1 ⟨⟨v,rfl,hv,hf⟩,hb⟩;go_wp2_with fail;go_ret
 exact⟨⟨_,rfl,hv,hf⟩,hb⟩
def x0S (w:World)(n:Nat)(hn:n<=100000):Calls prog 221 #[.int .i64 n] w fun e w'=>RetFr w.heap.size .i64 (2 ^ n) e w'/\Below w.heap.size w w':=by
 go_enter func221,ntmps221;go_wp2_with fail;refine (r0c _ 1 (by omega)).mono ?_;rintro e w1 ⟨⟨v,rfl,hv,hf⟩,hb⟩;obtain⟨V,B,F⟩:=zg hv hb hf;clear hv hb hf;go_wp2_with fail
 go_loopw [0,3] (fun nn o wr=>∃ j:Nat,nn=.int .i64 j/\j<=n/\Hid (IsN .i64 wr o (2 ^ (n-j)))/\Hid (∀ g,o.ownBlock=some g->w.heap.size<=g)/\Hid (Below w.heap.size w wr)) (fun nn o wr=>(intOf nn).toNat)
 case atStart=>exact⟨n,rfl,O4 _,by rw[Bq,Dd];exact V,F,B⟩
 case round=>
  obtain⟨j,rfl,hj,hO,hF,hB⟩:=hrel;by_cases h0:0<j
  .have ll:Hid ((limbs (2 ^ (n-j))).length<=1000000):=J0 (d0a (k:=n-j+1) (Hg (by omega) (by omega))) (by omega);have hs:Hid (2 ^ (n-j)+2 ^ (n-j)=2 ^ (n-(j-1))):=by
    show _=_
    rw[show n-(j-1)=n-j+1 by omega,E9];omega
   go_wp2_with fail;refine (c0I _ _ _ _ _ hO.out hO.out ll.out ll.out).mono ?_;rintro e w2 ⟨⟨v2,rfl,hv2,hf2⟩,hb2⟩;have V2:=hid hv2;have B2:=qx hB hb2;have F2:Hid (∀ g,v2.ownBlock=some g->w.heap.size<=g):=fun g hg=>J0 hB.out.size (hf2 g hg)
   clear hv2 hb2 hf2;go_wp2_with fail;go_roundw
   case rel=>exact⟨j-1,by go_num,by omega,V2.out.cast hs.out,F2,B2⟩
   case measure=>simp[intOf]<;>omega
  .obtain rfl:j=0:=by omega
   go_wp2_with fail;go_ret
   exact⟨⟨_,rfl,hO.out,hF.out⟩,hB.out⟩
def cF (N D n:Nat)(two:Bool)(i j:Nat):Nat:=if two=true then c3 N D n i 0 0 ((j:Int)-n) else o3 N D n i j
def z0z (N D n:Nat)(two:Bool)(j:Nat):cF N D n two 0 j=0:=by
 unfold cF
 split
 .rw[z0A]
 .exact y0n N D n j
def c1g {N D n:Nat}(h:N<D){two:Bool}{j:Nat}(hj:j<=2*n):cF N D n two (n+1) j=gV N D two n ((j:Int)-n):=by
 unfold cF;cases two
 .rw[J2 (by simp)];exact b1c h hj
 .rw[J3 rfl];exact w0U h n _
def c1O {x n:Nat}(h:x<=2 ^ n)(hn:n<=32):(limbs x).length<=1000000:=a0x (a0b h (by omega))
def s0M (w:World)(a:ByteArray)(n:Nat)(two:Bool)(ha:a.size<=100000)(he:gPE a=0)(hn:n<=32)(h0:a≠⟨#[48]⟩):
 Calls prog 170 #[.string a,.int .i64 (n:Nat),.bool two] w fun e w'=>(∃ u,e=.returned (.tuple #[u,.int .i64 0])/\MRow w' u (a0p (glP (gV (bN (cW a)) (bN (qD a)) two n) (2 ^ n) n (gL (bN (cW a)) (bN (qD a)) two n))))/\Below w.heap.size w w':=by
 have HA:=hid (b0K w a (by omega));rw[he]at HA;obtain⟨hq,hm⟩:=j0i he;have HR:=fun V=>hid (j0m V a (by omega))
 rw[hq,b0Z hm,hm]at HR;obtain⟨N,hN⟩:=gn (bN (cW a));obtain⟨D,hD⟩:=gn (bN (qD a));have hND:=(b0R he).2;have hpos:=h0m he h0;have hdg:∀ j,j<=n->nDigits (N*2 ^ j)<=4000:=fun j hj=>by rw[<- hN];exact k0J he (by omega)
 rw[hN]at HR hND hpos;rw[hD]at HR hND;rw[hN,hD];have HT:=fun V m v1 v2 k1 k2=>hid (v0G V m v1 v2 N D n hn hpos hND k1 k2 hdg)
 obtain⟨HND,HN⟩:=zu hND hn;have n0:(decide ((n:Int)<0))=false:=by simp
 have n1:(decide ((32:Int)<(n:Int)))=false:=by simp;omega
 have ze:(a.toList == [48])=false:=a0O h0;clear ha he hq hm hN hD hND hpos hdg h0;go_enter func170,ntmps170;go_wp2_with fail;refine nz HA fun w1 B1=>?_;clear HA;go_wp2_with fail;refine (HR _).out.mono ?_;rintro e w2 ⟨⟨v,rfl,hv,-⟩,hb2⟩;obtain⟨vN,vD,rfl,hvN,hvD⟩:=hv rfl;obtain⟨aN,cN,rfl,-,-,-⟩:=hvN.openI;obtain⟨aD,cD,rfl,-,-,-⟩:=hvD.openI;have B2:=qx B1 hb2;obtain⟨lN,hlN⟩:=gn ((limbs N).length);obtain⟨lD,hlD⟩:=gn ((limbs D).length);rw[hlN]at hvN |-;rw[hlD]at hvD |-;have C2:=hid ((J4 w2.heap.size w2).alloc nr (.cells #[.bool false,.slice aN lN cN,.slice aD lD cD] 81));obtain⟨VN,VD⟩:=zu (hvN.call C2.out) (hvD.call C2.out);have B3:=qx B2 C2.out;clear hv hb2 hvN hvD hlN hlD HR;go_wp2_with fail;refine nu (HT _ _ _ _ VN.out VD.out) fun vl WL hl hbl=>?_;obtain⟨gs,cs,rfl,s1,s2,s3,s4⟩:=hl.open;have SL:Hid (gs<WL.heap.size):=s3;have SE:=hid s4;have BL:=qx B3 hbl;clear hl hbl s3 s4 HT VN VD;have HZ:=fun V=>hid (f0w V (2*n) (by have:=HN.out;omega))
 obtain⟨M,hM⟩:=gn (2*n);rw[hM]at HZ;have w2n:IntKind.i64.wrap (2*(n:Int))=(M:Int):=by have:=HN.out;rw[U0 _ ⟨by omega,by omega⟩];omega
 have HM:=hid hM;clear hM hn;go_wp2_with fail;refine (HZ _).out.mono ?_;rintro e w4 ⟨⟨g,c,rfl,ht⟩,hb4⟩;have T4:Hid (NTab WL.heap.size w4 g (M+1) c (cF N D n two 0)):=ht.fn fun j _=>(z0z N D n two j).symm
 have B4:=hid hb4;clear ht hb4 HZ;go_wp2_with fail;refine (x0S _ n (by have:=HN.out;omega)).mono ?_;rintro e w5 ⟨⟨vt,rfl,hvt,hft⟩,hb5⟩;have V5:=hid hvt;have F5:Hid (vt.ownBlock≠some g):=fun e=>by
  have h1:=hft g e;have h2:=T4.out.slot.2.1;omega
 have T5:=hid (T4.out.call hb5);have B5:=qx B4 hb5;have GL:Hid (WL.heap.size<=g):=T4.out.slot.1;clear hvt hft hb5 T4 B4 w2n;go_wp2_with fail;have f0:=qw n
 have f1':(n:Int)<(n:Int)+1:=by omega
 have HDW:Hid (∀ k m,m<=n->nDigits (cvo (edn N D k) pw2 m)<=4000):=fun k m hm=>by
  rw[<- e0K HND.out];exact a0b (t0a _ _) (by have:=HN.out;omega)
 go_loopw [14,15,16,17] (fun s14 s15 s16 s17 wr=>∃ i:Nat,s14=.int .i64 (i:Nat)/\i<=n+1/\Hid (NTab WL.heap.size wr g (M+1) c (cF N D n two i))/\Hid (IsN .i64 wr vt (2 ^ n))/\Hid (Below WL.heap.size WL wr)) (fun s14 s15 s16 s17 wr=>n+1-(intOf s14).toNat)
 case atStart=>exact⟨0,rfl,K5 _,T5,V5,B5⟩
 case round=>
  clear T5 V5 B5;obtain⟨i,rfl,hi,hT,hV,hB⟩:=hrel;by_cases hlt:i<=n
  .have d0:decide (i<=n)=true:=by simp;omega
   have e0:=qw i
   have e1:(i:Int)<((n+1:Nat):Int):=by omega
   have e1':(i:Int)<(n:Int)+1:=by omega
   have wi:IntKind.i64.wrap ((i:Int)+1)=((i+1:Nat):Int):=by have:=HN.out;rw[U0 _ ⟨by omega,by omega⟩];omega
   have IL:=hid hlt;obtain⟨x,hx1,hx2⟩:=SE.out i hlt;have cx:wr.cell? ⟨gs,i,none⟩=some x:=(hB.out.cell (p:=⟨gs,i,none⟩) SL.out).trans hx1;have XR:=hid (hx2.call hB.out);clear hx1 hx2 hi hlt;go_wp2_with fail;refine (l0r _ _ n (edn N D i) (by have:=HN.out;omega) XR.out (fun m hm=>HDW.out i m hm)).mono ?_;rintro e w6 ⟨⟨gd,cd,rfl,htd⟩,hb6⟩;obtain⟨TD,T6,V6,B6⟩:=zc htd (hT.out.call hb6) (hV.out.call hb6) (hB.out.trans (hb6.mono hB.out.size));have GD:Hid (g<wr.heap.size):=hT.out.slot.2.1;obtain⟨BD,hBD⟩:=gn (wr.heap.size);rw[hBD]at TD GD;clear htd hb6 hT hV hB XR cx hBD;cases two
   .obtain⟨y,cy,hy,hy2⟩:=TD.out.at (i:=n) (by omega);obtain⟨ay,cy9,rfl,-,-,-⟩:=hy.openI;obtain⟨ly,hly⟩:=gn ((limbs (cvo (edn N D i) pw2 n)).length);rw[hly]at hy hy2 cy;obtain⟨J,hJ⟩:=gn (n+i);have HJ:Hid (n+i=J/\J<=M):=⟨hJ,by have:=HM.out;have:=IL.out;omega⟩;have ws:IntKind.i64.wrap ((n:Int)+(i:Int))=(J:Int):=by have:=HN.out;have:=IL.out;rw[U0 _ ⟨by omega,by omega⟩];omega
    have j0:=qw J
    have j1:(J:Int)<((M+1:Nat):Int):=by have:=HJ.out;omega
    have j1':(J:Int)<(M:Int)+1:=by have:=HJ.out;omega
    have fr:=T6.out.slot.2.2.2.2 J;obtain⟨z,cz,-,-⟩:=T6.out.at (i:=J) (by have:=HJ.out;omega);have Z1:Hid (cvo (edn N D i) pw2 n=0\/∀ g',(Value.slice ay ly cy9).ownBlock=some g'->WL.heap.size<=g'/\g'≠g):=hy2.imp id fun k g' hg'=>by
     have h1:=(k g' hg').1;have h2:=GD.out;have h3:=GL.out;exact⟨by omega,by omega⟩
    have T7:Hid (NTab WL.heap.size (w6.setCell ⟨g,J,none⟩ (.slice ay ly cy9)) g (M+1) c (cF N D n false (i+1))):=(T6.out.put J hy Z1.out).fn fun j hj=>by
     have e:cF N D n false (i+1) j=o3 N D n (i+1) j:=rfl;have e':cF N D n false i j=o3 N D n i j:=rfl;rw[e,e',y0o HND.out];by_cases hc:j=J
     .rw[J3 hc,J3 (by have:=HJ.out;omega)]
     .rw[J2 hc,J2 (by have:=HJ.out;omega)]
    obtain⟨V7,B7⟩:=zu (d0I V6.out (a:=⟨g,J,none⟩) (.inr F5.out) (.slice ay ly cy9)) (B6.out.setCell (p:=⟨g,J,none⟩) GL.out (.slice ay ly cy9));clear hy hy2 hly hJ;go_wp2_with fail
    try simp only[b0b]
    go_roundw
    case rel=>exact⟨i+1,by go_num,by have:=IL.out;omega,T7,V7,B7⟩
    case measure=>simp[intOf]<;>(have:=IL.out;omega)
   .go_wp2_with fail;have T7:Hid (NTab WL.heap.size w6 g (M+1) c (fun j=>c3 N D n i 0 0 ((j:Int)-n))):=T6.out
    go_loopw [16,17] (fun s16 s17 wr2=>∃ k:Nat,s16=.int .i64 (k:Nat)/\k<=n+1/\Hid (NTab WL.heap.size wr2 g (M+1) c (fun j=>c3 N D n i k 0 ((j:Int)-n)))/\Hid (NTab BD wr2 gd (n+1) cd (cvo (edn N D i) pw2))/\Hid (IsN .i64 wr2 vt (2 ^ n))/\Hid (Below WL.heap.size WL wr2)) (fun s16 s17 wr2=>n+1-(intOf s16).toNat)
    case atStart=>exact⟨0,rfl,K5 _,T7,TD,V6,B6⟩
    case round=>
     clear T6 T7 TD V6 B6;obtain⟨k,rfl,hk,hT,hG,hV,hB⟩:=hrel;by_cases hlt:k<=n
     .have d1:decide (k<=n)=true:=by simp;omega
      have wk:IntKind.i64.wrap ((k:Int)+1)=((k+1:Nat):Int):=by have:=HN.out;rw[U0 _ ⟨by omega,by omega⟩];omega
      have KL:=hid hlt;clear hk hlt;go_wp2_with fail
      go_loopw [17] (fun s17 wr3=>∃ s:Nat,s17=.int .i64 (s:Nat)/\s<=n+1/\Hid (NTab WL.heap.size wr3 g (M+1) c (fun j=>c3 N D n i k s ((j:Int)-n)))/\Hid (NTab BD wr3 gd (n+1) cd (cvo (edn N D i) pw2))/\Hid (IsN .i64 wr3 vt (2 ^ n))/\Hid (Below WL.heap.size WL wr3)) (fun s17 wr3=>n+1-(intOf s17).toNat)
      case atStart=>exact⟨0,rfl,K5 _,hT,hG,hV,hB⟩
      case round=>
       clear hT hG hV hB;obtain⟨s,rfl,hs,hT,hG,hV,hB⟩:=hrel;by_cases hlt:s<=n
       .have d2:decide (s<=n)=true:=by simp;omega
        have wsx:IntKind.i64.wrap ((s:Int)+1)=((s+1:Nat):Int):=by have:=HN.out;rw[U0 _ ⟨by omega,by omega⟩];omega
        have SLE:=hid hlt;obtain⟨T,hTT⟩:=gn (n+k);obtain⟨J,hJ⟩:=gn (T-i);obtain⟨U,hU⟩:=gn (n-s);have HJ:Hid (n+k=T/\i<=T/\T-i=J/\J<=M/\(k:Int)-(i:Int)=(J:Int)-(n:Int)):=⟨hTT,by have:=IL.out;omega,hJ,by have:=HM.out;have:=IL.out;have:=KL.out;omega,by have:=IL.out;omega⟩;have HU:Hid (n-s=U/\U<=n):=⟨hU,by omega⟩;have w1:IntKind.i64.wrap ((n:Int)+(k:Int))=(T:Int):=by have:=HN.out;have:=KL.out;rw[U0 _ ⟨by omega,by omega⟩];omega
        have w2':IntKind.i64.wrap ((T:Int)-(i:Int))=(J:Int):=by have:=HN.out;have:=KL.out;have:=IL.out;rw[U0 _ ⟨by omega,by omega⟩];omega
        have w3:IntKind.i64.wrap ((n:Int)-(s:Int))=(U:Int):=by have:=HN.out;rw[U0 _ ⟨by omega,by omega⟩];omega
        have j0:=qw J
        have j1:(J:Int)<((M+1:Nat):Int):=by have:=HJ.out;omega
        have j1':(J:Int)<(M:Int)+1:=by have:=HJ.out;omega
        have u0:=qw U
        have u1:(U:Int)<((n+1:Nat):Int):=by have:=HU.out;omega
        have u1':(U:Int)<(n:Int)+1:=by have:=HU.out;omega
        have k0:=qw k
        have k1:(k:Int)<((n+1:Nat):Int):=by have:=KL.out;omega
        have k1':(k:Int)<(n:Int)+1:=by have:=KL.out;omega
        have s0:=qw s
        have s1:(s:Int)<((n+1:Nat):Int):=by omega
        have s1':(s:Int)<(n:Int)+1:=by omega
        obtain⟨x1,cx1,hx1,-⟩:=hT.out.at (i:=J) (by have:=HJ.out;omega);obtain⟨tk,htk,hrk⟩:=SE.out k KL.out;obtain⟨at',ct',rfl,p1,p2⟩:=hrk.openA;obtain⟨gt,ot,x2,rfl,hgt,hx2c,hx2⟩:=hrk.el (i:=s) (by omega);obtain⟨x3,cx3,hx3,-⟩:=hG.out.at (i:=U) (by have:=HU.out;omega);have ck:wr.cell? ⟨gs,k,none⟩=some (.slice (some ⟨gt,ot,none⟩) (n+1) ct'):=(hB.out.cell (p:=⟨gs,k,none⟩) SL.out).trans htk;have cx2:wr.cell? ⟨gt,ot+s,none⟩=some x2:=(hB.out.cell (p:=⟨gt,ot+s,none⟩) hgt).trans hx2c;obtain⟨X1,X2,X3⟩:=zg hx1 (hx2.call hB.out) hx3;have EY:cvo (edn N D i) pw2 U=cw (n-s) (h0Z N D i):=by rw[<- e0K HND.out,HU.out.1]
        have STP:Hid (c3 N D n i k s ((J:Int)-n)+edn N D k s*cvo (edn N D i) pw2 U=c3 N D n i k (s+1) ((J:Int)-n)):=by
         show _=_
         rw[d1e,EY];unfold k0j;rw[J3 HJ.out.2.2.2.2.symm]
        have LE:Hid (c3 N D n i k (s+1) ((J:Int)-n)<=2 ^ n):=J0 (d1f HND.out IL.out KL.out (by have:=SLE.out;omega) _) (l0k HND.out true n _);have L1:Hid ((limbs (c3 N D n i k s ((J:Int)-n))).length<=1000000):=c1O (J0 (by rw[<- STP.out];omega) LE.out) HN.out;have L2:Hid ((limbs (edn N D k s)).length<=1000000):=a0x (J0 (a0r (j0Q _ _)) (HDW.out k s hlt));have L3:Hid ((limbs (cvo (edn N D i) pw2 U)).length<=1000000):=a0x (HDW.out i U HU.out.2);have L4:Hid ((limbs (edn N D k s*cvo (edn N D i) pw2 U)).length<=1000000):=c1O (J0 (by rw[<- STP.out];omega) LE.out) HN.out;clear hTT hJ hU hx1 hx2 hx3 hrk htk hx2c hgt hs hlt EY;go_wp2_with fail;refine a0T 29 2 [0,1,2,3,4,5,6,7,8,9,10,11,12,13,14,15,16,17,18,19,20,21,22,23,24,25,26] 2 (fun W'=>W'.cell? ⟨g,J,none⟩=some x1/\W'.cell? ⟨gs,k,none⟩=some (.slice (some ⟨gt,ot,none⟩) (n+1) ct')/\W'.cell? ⟨gt,ot+s,none⟩=some x2/\W'.cell? ⟨gd,U,none⟩=some x3) (by kernel_rfl) rfl (by kernel_rfl) (by kernel_rfl) (by kernel_rfl) (by kernel_rfl) ⟨cx1,ck,cx2,cx3⟩ ?_
        iterate 27
         refine⟨_,rfl,?_⟩;apply Exists.intro
         refine⟨.inl ⟨by rfl,?_⟩,?_⟩
         .rintro W' ⟨r1,r2,r3,r4⟩;go_simp;try with_reducible rfl
         go_frame
        refine a0c (i:=27) (by kernel_rfl) rfl rfl ?_;go_wp2_with fail;refine ng (b0n _ _ _ _ _ (X2.out.call br0.drew) (X3.out.call br0.drew) L2.out L3.out) fun vp wa hvp hba=>?_;obtain⟨A1,VP⟩:=zu (show Below wr.heap.size wr wa from br0.drew.trans hba) hvp;have m1:=(A1.out.cell (a0e cx1)).trans cx1;have m2:=(A1.out.cell (a0e ck)).trans ck;have m3:=(A1.out.cell (a0e cx2)).trans cx2;have m4:=(A1.out.cell (a0e cx3)).trans cx3;clear hba hvp cx1 ck cx2 cx3;go_wp2_with fail;refine⟨⟨m1,m2,m3,m4⟩,?_⟩;refine a0c (i:=28) (by kernel_rfl) rfl rfl ?_;go_wp2_with fail;refine (c0I _ _ _ _ _ (X1.out.call A1.out) VP.out L1.out L4.out).mono ?_;rintro e wb ⟨⟨vs,rfl,hvs,hfs⟩,hbb⟩;have hvs':=hvs.cast STP.out;obtain⟨as1,cs1,rfl,-,-,-⟩:=hvs'.openI;obtain⟨ls1,hls⟩:=gn ((limbs (c3 N D n i k (s+1) ((J:Int)-n))).length);rw[hls]at hvs' hfs |-;have A2:=qx A1 hbb;have VS:=hid hvs';have FS:Hid (∀ g',(Value.slice as1 ls1 cs1).ownBlock=some g'->WL.heap.size<=g'/\g'≠g):=fun g' hg'=>by
         have h1:wa.heap.size<=g':=hfs g' hg';have h2:=hT.out.slot;have h3:=hB.out.size;have h4:=A1.out.size;exact⟨by omega,by omega⟩
        have y1:=(hbb.cell (a0e m1)).trans m1;have y2:=(hbb.cell (a0e m2)).trans m2;have y3:=(hbb.cell (a0e m3)).trans m3;have y4:=(hbb.cell (a0e m4)).trans m4;clear hbb hvs hvs' hfs hls m1 m2 m3 m4;go_wp2_with fail;refine⟨⟨y1,y2,y3,y4⟩,?_⟩;refine J8 (by kernel_rfl) ?_ _;simp only[b0b,c0t,Aj,K9];have TA:=hid (hT.out.call A2.out);have fr:=TA.out.slot.2.2.2.2 J;have TB:Hid (NTab WL.heap.size (wb.setCell ⟨g,J,none⟩ (.slice as1 ls1 cs1)) g (M+1) c (fun j=>c3 N D n i k (s+1) ((j:Int)-n))):=(TA.out.put J VS.out (.inr FS.out)).fn fun j hj=>by
         rw[d1e];unfold k0j;have hh:=HJ.out.2.2.2.2;by_cases hc:j=J
         .have:=STP.out;rw[d1e]at this;unfold k0j at this;rw[J3 hc,hc]
         .rw[J2 hc,J2 (by omega)]
        obtain⟨GB,VB,BB⟩:=zg ((hG.out.call A2.out).other (a:=⟨g,J,none⟩) GD.out (.slice as1 ls1 cs1)) (d0I (hV.out.call A2.out) (a:=⟨g,J,none⟩) (.inr F5.out) (.slice as1 ls1 cs1)) ((hB.out.trans (A2.out.mono hB.out.size)).setCell (p:=⟨g,J,none⟩) GL.out (.slice as1 ls1 cs1));clear y2 y3 y4;go_wp2_with fail
        try simp only[b0b]
        go_roundw
        case rel=>exact⟨s+1,by go_num,by have:=SLE.out;omega,TB,GB,VB,BB⟩
        case measure=>simp[intOf]<;>(have:=SLE.out;omega)
       .have e1:s=n+1:=by omega
        subst e1;have d2:decide ((n:Int)+1<=(n:Int))=false:=by simp;omega
        have TE:Hid (NTab WL.heap.size wr g (M+1) c (fun j=>c3 N D n i (k+1) 0 ((j:Int)-n))):=hT.out.fn fun j hj=>by rw[d1z]
        clear hs hlt;go_wp2_with fail;go_roundw
        case rel=>exact⟨k+1,by go_num,by have:=KL.out;omega,TE,hG,hV,hB⟩
        case measure=>simp[intOf]<;>(have:=KL.out;omega)
     .have e1:k=n+1:=by omega
      subst e1;have d2:decide ((n:Int)+1<=(n:Int))=false:=by simp;omega
      have TE:Hid (NTab WL.heap.size wr g (M+1) c (cF N D n true (i+1))):=hT.out.fn fun j hj=>by
       show c3 N D n i (n+1) 0 ((j:Int)-n)=c3 N D n (i+1) 0 0 ((j:Int)-n)
       rw[d1A]
      clear hk hlt;go_wp2_with fail;go_roundw
      case rel=>exact⟨i+1,by go_num,by have:=IL.out;omega,TE,hV,hB⟩
      case measure=>simp[intOf]<;>(have:=IL.out;omega)
  .have e1:i=n+1:=by omega
   have d2:decide (i<=n)=false:=by simp;omega
   rw[e1]at hT;have TE:Hid (NTab WL.heap.size wr g (M+1) c (fun j=>gV N D two n ((j:Int)-n))):=hT.out.fn fun j hj=>c1g HND.out (by have:=HM.out;omega)
   have HVD:Hid (∀ v,nDigits (gV N D two n v)<=4000):=fun v=>b1E HND.out two v (by have:=HN.out;omega)
   have HPD:Hid (nDigits (2 ^ n)<=4000):=a0b nr (by have:=HN.out;omega);have HLD:Hid (nDigits (gL N D two n)<=4000):=b1G HND.out two (by have:=HN.out;omega);have HV2:Hid (∀ v,gV N D two n v<=2 ^ 256):=fun v=>J0 (l0k HND.out two n v) (J6 (by omega) (by have:=HN.out;omega))
   have HL2:Hid (gL N D two n<=2 ^ 256):=J0 (b1F HND.out two n) (J6 (by omega) (by have:=HN.out;omega));have HLF:Hid (∀ i,(limbs (lfI (gV N D two n) (2 ^ n) n i)).length<=1000000):=fun i=>c1O (Hv _ _) HN.out
   have HLE:Hid (∀ i,i<M+1->gV N D two n ((i:Int)-n)<=lfI (gV N D two n) (2 ^ n) n i):=fun i hi=>b1n HND.out (by have:=HM.out;omega)
   have HEND:Hid (lfI (gV N D two n) (2 ^ n) n (M+1)=gL N D two n):=by
    show _=_
    rw[<- HM.out];exact y0v HND.out two n
   have HSh:=fun V u x hu hx=>hid (n0J V u x n hu (by have:=HN.out;omega) hx)
   have HADD:Hid (∀ i,i0T (a0p (glI (gV N D two n) (2 ^ n) n i)) (zB ((i:Int)-n)) (shB (gV N D two n ((i:Int)-n)) (2 ^ n))=a0p (glI (gV N D two n) (2 ^ n) n (i+1))):=fun i=>y0M (n0e n) (HVD.out _) HPD.out
   have HLAT:Hid (i0T (a0p (glI (gV N D two n) (2 ^ n) n (M+1))) b0d (shB (gL N D two n) (2 ^ n))=a0p (glP (gV N D two n) (2 ^ n) n (gL N D two n))):=by
    show _=_
    rw[<- HM.out];exact v0q (n0e n) HLD.out HPD.out
   have V0:Hid (IsN .i64 wr vt (lfI (gV N D two n) (2 ^ n) n 0)):=by
    show IsN _ _ _ _
    rw[v0g];exact hV.out
   have M0:Hid (MRow wr (.slice none 0 0) (a0p (glI (gV N D two n) (2 ^ n) n 0))):=by
    show MRow _ _ _
    rw[show a0p (glI (gV N D two n) (2 ^ n) n 0) = [] by simp[a0p,glI]];exact MRow.nil _
   have HMB:Hid (M<=64):=by show M<=64;have:=HM.out;have:=HN.out;omega
   clear hi hlt hV hT e1;go_wp2_with fail
   go_loopw [13,18,19] (fun s13 s18 s19 wr=>∃ i:Nat,s19=.int .i64 (i:Nat)/\i<=M+1/\Hid (IsN .i64 wr s13 (lfI (gV N D two n) (2 ^ n) n i))/\Hid (MRow wr s18 (a0p (glI (gV N D two n) (2 ^ n) n i)))/\Hid (NTab WL.heap.size wr g (M+1) c (fun j=>gV N D two n ((j:Int)-n)))/\Hid (Below WL.heap.size WL wr)) (fun s13 s18 s19 wr=>M+1-(intOf s19).toNat)
   case atStart=>exact⟨0,rfl,K5 _,V0,M0,TE,hB⟩
   case round=>
    clear V0 TE hB M0;obtain⟨i,rfl,hi,hV,hM,hT,hB⟩:=hrel;by_cases hlt:i<M+1
    .have d1:decide ((i:Int)<(M:Int)+1)=true:=by simp;omega
     have e0:=qw i
     have e1:(i:Int)<((M+1:Nat):Int):=by omega
     have e1':(i:Int)<(M:Int)+1:=by omega
     have wi:IntKind.i64.wrap ((i:Int)+1)=((i+1:Nat):Int):=by have:=HMB.out;rw[U0 _ ⟨by omega,by omega⟩];omega
     have ws:IntKind.i64.wrap ((i:Int)-(n:Int))=(i:Int)-(n:Int):=by have:=HMB.out;have:=HN.out;rw[U0 _ ⟨by omega,by omega⟩]
     have IL:=hid hlt;obtain⟨x,cx,hx,-⟩:=hT.out.at (i:=i) hlt;have XN:=hid hx;have HI:=fun V=>hid (r0h V ((i:Int)-n) (by have:=HN.out;omega) (by have:=HMB.out;omega))
     have RA:=fun V u key p hu=>hid (k0L V u (a0p (glI (gV N D two n) (2 ^ n) n i)) key p hu (by rw[b0m];have:=s0y (gV N D two n) (2 ^ n) n i;have:=HMB.out;omega))
     clear hx hi hlt;go_wp2_with fail;refine a0j [0,1,2,3,5,6,7,8,9] 4 (fun W'=>W'.cell? ⟨g,i,none⟩=some x) (by kernel_rfl) (by kernel_rfl) (by kernel_rfl) (by kernel_rfl) cx ?_
     iterate 9
      refine⟨_,rfl,?_⟩;apply Exists.intro
      refine⟨.inl ⟨by rfl,?_⟩,?_⟩
      ·(intro W' hW';obtain r1:=hW';go_simp;try (with_reducible rfl))
      go_frame
     refine a0c (i:=4) (by kernel_rfl) rfl rfl ?_;go_wp2_with fail;refine ny (HI _) fun wa hba=>?_;have A1:=hid (show Below wr.heap.size wr wa from br0.drew.trans hba);have m1:=(A1.out.cell (a0e cx)).trans cx;clear hba HI;go_wp2_with fail;refine⟨m1,?_⟩;refine a0c (i:=10) (by kernel_rfl) rfl rfl ?_;go_wp2_with fail;refine ny (HSh _ _ _ (XN.out.call A1.out) (HV2.out _)) fun wb hbb=>?_;have A2:=qx A1 hbb;have m2:=(hbb.cell (a0e m1)).trans m1;clear hbb m1;go_wp2_with fail;refine⟨m2,?_⟩;refine a0c (i:=11) (by kernel_rfl) rfl rfl ?_;go_wp2_with fail;refine nu (RA _ _ _ _ (hM.out.call A2.out)) fun u wc hu hbc=>?_;rw[HADD.out i]at hu;have A3:=qx A2 hbc;have MU:=hid hu;have m3:=(hbc.cell (a0e m2)).trans m2;clear hbc hu m2 RA;go_wp2_with fail;refine⟨m3,?_⟩;refine a0c (i:=12) (by kernel_rfl) rfl rfl ?_;go_wp2_with fail;refine⟨m3,?_⟩;refine J8 (by kernel_rfl) ?_ _;simp only[b0b];go_wp2_with fail;refine ng (f0f _ _ _ _ _ (hV.out.call A3.out) (XN.out.call A3.out) (HLE.out i IL.out) (HLF.out i)) fun vr wd hvr hbd=>?_;rw[v0h]at hvr;have A4:=qx A3 hbd;obtain⟨VR,M4,T4,B4⟩:=zc hvr (MU.out.call hbd) (hT.out.call A4.out) (hB.out.trans (A4.out.mono hB.out.size));clear hbd hvr m3 cx;go_wp2_with fail;go_roundw
     case rel=>exact⟨i+1,by go_num,by have:=IL.out;omega,VR,M4,T4,B4⟩
     case measure=>simp[intOf]<;>(have:=IL.out;omega)
    .have e1:i=M+1:=by omega
     subst e1;have d1:decide ((M:Int)+1<(M:Int)+1)=false:=by simp
     have RA:=fun V u key p hu=>hid (k0L V u (a0p (glI (gV N D two n) (2 ^ n) n (M+1))) key p hu (by rw[b0m];have:=s0y (gV N D two n) (2 ^ n) n (M+1);have:=HMB.out;omega))
     have VL:=hid (hV.out.cast HEND.out);clear hi hlt hV;go_wp2_with fail;refine ny (HSh _ _ _ VL.out HL2.out) fun wb hbb=>?_;have M1:=hid (hM.out.call hbb);have A1:=qx hB hbb;clear hbb;go_wp2_with fail;refine nu (RA _ _ _ _ M1.out) fun u wc hu hbc=>?_;have A2:=hid (BL.out.trans ((a0a A1.out hbc).mono BL.out.size));rw[show (⟨#[108,97,116,101]⟩:ByteArray)=b0d from rfl,HLAT.out]at hu;have MU:=hid hu;clear hbc hu RA;go_wp2_with fail;go_ret2
     exact⟨⟨_,rfl,MU.out⟩,A2.out⟩
def b1Q (w:World)(a:ByteArray)(n:Int)(two:Bool)(ha:a.size<=100000):
 Calls prog 170 #[.string a,.int .i64 n,.bool two] w fun e w'=>(∃ v,e=.returned (.tuple #[v,.int .i64 (glE a n 32)])/\MRow w' v (glR a n two))/\Below w.heap.size w w':=by
 by_cases he:gPE a=0
 focus
  by_cases hn:n<0\/32<n
  focus
   have e1:glE a n 32=2:=by unfold glE;rw[J2 (by rw[he];simp),J3 hn]
   have e2:glR a n two = []:=by unfold glR;rw[J2 (by rw[e1];decide)]
   rw[e1,e2];have HA:=hid (b0K w a (by omega));rw[he]at HA;obtain⟨b1,k1⟩:=gn (decide (n<0));obtain⟨b2,k2⟩:=gn (decide (32<n));have k3:(b1 || b2)=true:=by rw[<- k1,<- k2];simpa using hn
   clear ha he hn e1 e2;cases b1
   focus
    obtain rfl:b2=true:=by simpa using k3
    clear k3
   rotate_left
   focus
    clear k2 k3
  rotate_left 2
  .obtain⟨m,rfl⟩:∃ m:Nat,n=(m:Nat):=⟨n.toNat,by omega⟩;have e1:glE a (m:Nat) 32=0:=by unfold glE;rw[J2 (by rw[he];simp),J2 hn]
   unfold glR;rw[J3 e1,e1,Ao];by_cases h0:a=⟨#[48]⟩
   .obtain⟨q1,q2⟩:=i0q h0;rw[q1,q2,v0p (by omega)];have HA:=hid (b0K w a (by omega));rw[he]at HA;have ze:(a.toList == [48])=true:=by rw[h0];exact c0q
    have n0:(decide ((m:Int)<0))=false:=by simp
    have n1:(decide ((32:Int)<(m:Int)))=false:=by simp;omega
    clear ha he hn e1 q1 q2 h0;go_enter func170,ntmps170;go_wp2_with fail;refine nz HA fun w1 B1=>?_;clear HA;obtain⟨K1,B2⟩:=zu (Blk.new w1 #[.string ⟨#[48]⟩,.string ⟨#[49]⟩] 42) (B1.out.alloc B1.out.size (.cells #[.string ⟨#[48]⟩,.string ⟨#[49]⟩] 42));go_wp2_with fail;go_ret2
    refine⟨⟨_,rfl,?_⟩,B2.out⟩;refine⟨some ⟨w1.heap.size,0,none⟩,1,rfl,O4 _,by omega,fun i x hx=>?_⟩
    match i,hx with
    | 0,hx=>
     simp at hx;subst hx;exact⟨_,_,rfl,K1.out.lt,K1.out.cell 0,K1.out.cell 1⟩
   .exact s0M w a m two ha he (by omega) h0
 rotate_left 2
 focus
  have e1:glE a n 32=gPE a:=by unfold glE;rw[J3 he]
  have e2:glR a n two = []:=by unfold glR;rw[J2 (by rw[e1];exact he)]
  rw[e1,e2];have HA:=hid (b0K w a (by omega));obtain⟨x,hx⟩:=gn (gPE a);rw[hx]at HA he |-;have x0:(x != 0)=true:=by simpa using he
  clear ha he hx e1 e2
 all_goals
  go_enter func170,ntmps170;go_wp2_with fail;refine nz HA fun w1 B1=>?_;clear HA;go_wp2_with fail;go_ret2
  exact⟨⟨_,rfl,MRow.nil _⟩,B1.out⟩
def f0x (w:World)(a:ByteArray)(n:Int)(ha:a.size<=100000):
 Calls prog 68 #[.string a,.int .i64 n] w fun e w'=>(∃ v,e=.returned (.tuple #[v,.int .i64 (glE a n 32)])/\MRow w' v (glR a n true))/\Below w.heap.size w w':=by
 have H:=hid (b1Q w a n true ha);obtain⟨o,ho⟩:=gn (glR a n true);obtain⟨x,hx⟩:=gn (glE a n 32);rw[ho,hx]at H |-;clear ha ho hx;go_enter func68,ntmps68;go_wp2_with fail;refine nu H fun v w1 hv hb1=>?_;obtain⟨B1,V1⟩:=zu hb1 hv;clear hb1 hv;go_wp2_with fail;go_ret2
 exact⟨⟨_,rfl,V1.out⟩,B1.out⟩
end
end Go.Proofs.YtfkpfpobmobnbaaGreatDoor
