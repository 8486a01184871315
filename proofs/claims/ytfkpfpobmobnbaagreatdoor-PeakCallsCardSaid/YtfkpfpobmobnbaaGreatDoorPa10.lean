/- Texts that the proof rests on, merged: En, Gl1, Gl2, Gl3, Gd1, Gd2, Fn1, Fd11, Fn2, Df0, Rq0. -/
import Derived.Test.YtfkpfpobmobnbaaGreatDoorPa9
import Derived.Maps.RangeWalk
import Derived.Maps.StringElems
import Derived.Maps.OwnSet
import Derived.Deep.DeepCutAuto
import Derived.Lib.SliceRun
set_option linter.defProp false
set_option linter.unusedVariables false
set_option linter.unusedSimpArgs false
set_option linter.unusedSectionVars false
set_option maxRecDepth 100000
set_option maxHeartbeats 8000000
namespace Go.Proofs.YtfkpfpobmobnbaaGreatDoor
section
open Go.RowKit Go.Shelf
open Go.Lib (decDigits nDigits)
structure EnS (W:World)(gt gO gN gD g1 g2 n r:Nat)(rv:Value)(gs:List Nat)(O nx dn:List Nat)(os zs:Nat->Bool)(f:Nat->List Nat):Prop where
 tab:TabO W (gt+1) gt rv (gs ++ [gD]) n r f
 o:NRowT W gO O
 nx:NRowT W gN nx
 dn:NRowT W gD dn
 b1:Blk W g1 (f0F os n).toArray 4
 b2:Blk W g2 (f0F zs n).toArray 4
structure EnD (gt gO gN gD g1 g2 r:Nat)(rv:Value)(gs:List Nat):Prop where
 tN:gN≠gt
 tD:gD≠gt
 rN:rv.ownBlock≠some gN
 rD:rv.ownBlock≠some gD
 ND:gN≠gD
 oN:gO≠gN
 oD:gO≠gD
 n1:gN≠g1
 n2:gN≠g2
 d1:gD≠g1
 d2:gD≠g2
 sN:∀ i g,i<r->(gs ++ [gD])[i]?=some g->gN≠g
 sD:∀ i g,i<r->(gs ++ [gD])[i]?=some g->gD≠g
theorem EnS.call {W W':World}{gt gO gN gD g1 g2 n r:Nat}{rv:Value}{gs:List Nat}{O nx dn:List Nat}{os zs:Nat->Bool}{f:Nat->List Nat}(h:EnS W gt gO gN gD g1 g2 n r rv gs O nx dn os zs f)(hb:Below W.heap.size W W'):EnS W' gt gO gN gD g1 g2 n r rv gs O nx dn os zs f:=
 ⟨h.tab.call hb,h.o.call hb,h.nx.call hb,h.dn.call hb,h.b1.call hb,h.b2.call hb⟩
theorem EnS.setN {W:World}{gt gO gN gD g1 g2 n r:Nat}{rv:Value}{gs:List Nat}{O nx dn:List Nat}{os zs:Nat->Bool}{f:Nat->List Nat}(h:EnS W gt gO gN gD g1 g2 n r rv gs O nx dn os zs f)(d:EnD gt gO gN gD g1 g2 r rv gs)(i x:Nat):EnS (W.setCell ⟨gN,i,none⟩ (.string (a0f x))) gt gO gN gD g1 g2 n r rv gs O (nx.set i x) dn os zs f:=
 ⟨h.tab.other d.tN d.rN d.sN _,h.o.other d.oN.symm _,h.nx.set i x,h.dn.other d.ND _,h.b1.other d.n1 _,h.b2.other d.n2 _⟩
theorem EnS.setD {W:World}{gt gO gN gD g1 g2 n r:Nat}{rv:Value}{gs:List Nat}{O nx dn:List Nat}{os zs:Nat->Bool}{f:Nat->List Nat}(h:EnS W gt gO gN gD g1 g2 n r rv gs O nx dn os zs f)(d:EnD gt gO gN gD g1 g2 r rv gs)(i x:Nat):EnS (W.setCell ⟨gD,i,none⟩ (.string (a0f x))) gt gO gN gD g1 g2 n r rv gs O nx (dn.set i x) os zs f:=
 ⟨h.tab.other d.tD d.rD d.sD _,h.o.other d.oD.symm _,h.nx.other d.ND.symm _,h.dn.set i x,h.b1.other d.d1 _,h.b2.other d.d2 _⟩
def q0s {c:Nat->Bool}{N D n r:Nat}{F:Nat->Nat}(hn:n<=32)(hr:r<=32)(hF:d0S c (i0C N D n r) n (n+1)=fnL F n)(hB:∀ s,s<=n->F s<=2 ^ (6*(r+1))){i j k:Nat}(hi:i<=n)(hij:i+j<=n+1)(hk:k<=n):(aIn c ((i0C N D n r).getD i 0) i j (d0S c (i0C N D n r) n i)).getD k 0<=2 ^ 200:=by
 refine O0 (a1W hi hij hk) ?_;rw[hF,g0Z hk];exact O0 (hB k hk) (H6 (by omega) (by omega))
def y0B (w:World)(n N D:Nat)(e:Ending)(w':World):Prop:=∃ gt,e=.returned (.pointer (some ⟨gt,0,none⟩))/\w.heap.size<=gt/\TabR w' gt n (p0h N D n)
def j0l {w w':World}{g:Nat}{cs:Array Value}{t:TypeId}(h:Blk w g cs t)(e:w'.heap[g]?=w.heap[g]?):Blk w' g cs t:=e.trans h
def v0U {W:World}{H gt:Nat}{rv:Value}{gs:List Nat}{n:Nat}{f:Nat->List Nat}(h:TabO W H gt rv gs n (n+1) f)(hl:gs.length=n+1)(hf:∀ i,(f i).length=n+1)(hn:n<=1000):TabR W gt n f:=by
 obtain⟨g,cap,rfl⟩:∃ g c,rv=.slice (some ⟨g,0,none⟩) (n+1) c:=by
  have:=h.own;rw[hl]at this;exact Mw this
 obtain⟨a,c,e,h1,h2,h3⟩:=(Row.of_owns h.own).ex;simp only[Hv]at e;obtain⟨rfl,-,rfl⟩:=e;rw[Dl,hl]at h1;have c0:=h.blk.cell 0;have c1:=h.blk.cell 1;simp at c0 c1;refine⟨fun i _=>hf i,g,cap,h1,by unfold maxLen at h2;omega,c0,c1,fun i hi=>?_⟩;obtain⟨gr,hgr⟩:∃ g,gs[i]?=some g:=⟨_,J0 (by omega)⟩;obtain⟨g',o',e1,-,e2⟩:=h3 i (k0R n gr) (by rw[Ea,hgr];rfl);simp only[Ad,Hc]at e1;obtain⟨rfl,rfl,-⟩:=e1;rw[J8]at e2;exact⟨gr,e2,h.rows i gr (by omega) hgr⟩
def v0w (w:World)(a:ByteArray)(n N D:Nat)(ha:a.size<=100000)(he:gPE a=0)(hn:n<=32)(hN:bN (cW a)=N)(hD:bN (qD a)=D)(hND:N<D)(hL:Lay w):
 Calls Tryz.prog 287 #[.string a,.int .i64 n] w fun e w'=>y0B w n N D e w'/\Below w.heap.size w w':=by
 have HS:=hid (r0p w a n N D ha he (by omega) hN hD hND hL);have HR:=fun V g h=>hid (e0z V g (n+1) ⟨#[48]⟩ (by omega) (by omega) h)
 have HTR:=fun V gt rv gs r f (h:TabO V (gt+1) gt rv gs n r f) (h1:r<=gs.length) (h2:gs.length<=1000) (h3:gt+1<=V.heap.size)=>hid (y0X V (gt+1) gt rv gs n r f h h1 h2 (by omega) h3)
 have HL:=hid hL;have HLL:=hid hL.lt;have HN:=hid hn;have wn:IntKind.i64.wrap ((n:Int)+1)=((n+1:Nat):Int):=by rw[Q0 _ ⟨by omega,by omega⟩];omega
 have NX:Hid (∀ r,d0S (a0C N D) (i0C N D n r) n (n+1)=i0C N D n (r+1)):=fun r=>k0k N D n r
 have DN:Hid (∀ r,d0S (a0i N D) (i0C N D n r) n (n+1)=p0h N D n r):=fun r=>r0N N D n r
 have BN:Hid (∀ r i j k,r<=n->i<=n->i+j<=n+1->k<=n->(aIn (a0C N D) ((i0C N D n r).getD i 0) i j (d0S (a0C N D) (i0C N D n r) n i)).getD k 0<=2 ^ 200):=fun r i j k h1 h2 h3 h4=>q0s (F:=opn N D (r+1)) hn (by omega) (k0k N D n r) (fun s hs=>g0L hn (r+1) s hs) h2 h3 h4
 have BD:Hid (∀ r i j k,r<=n->i<=n->i+j<=n+1->k<=n->(aIn (a0i N D) ((i0C N D n r).getD i 0) i j (d0S (a0i N D) (i0C N D n r) n i)).getD k 0<=2 ^ 200):=fun r i j k h1 h2 h3 h4=>q0s (F:=edn N D r) hn (by omega) (r0N N D n r) (fun s hs=>n0s hn r s hs) h2 h3 h4
 have BO:Hid (∀ r i,r<=n->i<=n->(i0C N D n r).getD i 0<=2 ^ 200):=fun r i h1 h2=>by
  unfold i0C;rw[g0Z h2];exact O0 (g0L hn r i h2) (H6 (by omega) (by omega))
 have OZ:Hid ((List.replicate (n+1) 0).set 0 1=i0C N D n 0):=q0F N D n;have OL:Hid (∀ r,(i0C N D n r).length=n+1):=fun r=>f0j _ _
 obtain⟨OF,hOF⟩:=gn (i0C N D n);obtain⟨EF,hEF⟩:=gn (p0h N D n);obtain⟨os,hos⟩:=gn (a0C N D);obtain⟨zs,hzs⟩:=gn (a0i N D);rw[hOF]at NX DN BN BD BO OZ OL;rw[hEF]at DN;rw[hos]at NX BN;rw[hzs]at DN BD;have HOS:=hid hos;have HZS:=hid hzs;have HEF:=hid hEF;clear ha he hn hN hD hND hL hos hzs hOF hEF;go_enter Tryz.func287,Tryz.ntmps287;go_wp2_with fail;refine HS.out.mono ?_;rintro e w1 ⟨⟨v1,v2,rfl,⟨g1,g2,rfl,rfl,h3,h4,h5,hg1,hg2⟩⟩,hb1⟩;rw[HOS.out]at hg1;rw[HZS.out]at hg2;have G1:=hid hg1;have G2:=hid hg2;have B1:=hid hb1;have N1:=hid (show g1<w1.heap.size from Blk.lt hg1);have N2:=hid (show g2<w1.heap.size from Blk.lt hg2);have z1:=hid hb1.size;clear hg1 hg2 hb1 h3 h4 h5 HS;go_wp2_with fail;have T1:=hid (Blk.new w1 #[.slice none 0 0,.string ⟨#[48]⟩] 275);have A1:=hid ((Z3 w1.heap.size w1).alloc nr0 (.cells #[.slice none 0 0,.string ⟨#[48]⟩] 275));obtain⟨wt,hwt⟩:=gn (w1.alloc (.cells #[.slice none 0 0,.string ⟨#[48]⟩] 275));have zt:Hid (wt.heap.size=w1.heap.size+1):=by show wt.heap.size=_;rw[<- hwt];simp
 rw[hwt]at T1 A1 |-;obtain⟨gt,hgt⟩:=gn (w1.heap.size);have HGT:=hid hgt;have T1':Hid (Blk wt gt #[.slice none 0 0,.string ⟨#[48]⟩] 275):=by show Blk _ _ _ _;rw[<- hgt];exact T1.out
 try rw[hgt]
 clear T1 hwt hgt;have C0:(wt.alloc (.cells #[.string ⟨#[48]⟩] 23)).cell? ⟨gt+1,0,none⟩=some (.string ⟨#[48]⟩):=by
  have:=(Blk.new wt #[.string ⟨#[48]⟩] 23).cell 0;rw[show wt.heap.size=gt+1 by rw[zt.out,HGT.out]]at this;exact this
 refine (HR _ _ C0).out.mono ?_;rintro e w2 ⟨rfl,hg7,hb2⟩;clear C0;obtain⟨g0,h7⟩:=gn ((wt.alloc (.cells #[.string ⟨#[48]⟩] 23)).heap.size);rw[h7]at hg7 |-;have R7:=hid (NRowT.zeros hg7);have a1:=(Z3 wt.heap.size wt).alloc nr0 (.cells #[.string ⟨#[48]⟩] 23);have b2:=hid (a0a a1 hb2);have K7:=hid (show wt.heap.size<g0 by rw[<- h7];simp);have Bt:=hid (a0a B1.out A1.out);have B2:=hid (a0a Bt.out b2.out);have G12:=hid ((G1.out.call A1.out).call b2.out);have G22:=hid ((G2.out.call A1.out).call b2.out);have T2:=hid (T1'.out.call b2.out);clear hg7 hb2 a1 h7;have k0:w2.cell? ⟨g0,0,none⟩=some (.string ⟨#[48]⟩):=by
  refine (R7.out.cell (i:=0) (by simp)).trans ?_;rw[<- a0p];simp[J3]
 have k1:=R7.out.free 0;have z0':(0:Int)<(n:Int)+1:=by omega
 go_wp2_with fail;obtain⟨W2,hW2⟩:=gn (w2.setCell ⟨g0,0,none⟩ (.string ⟨#[49]⟩));have S0:Hid (NRowT W2 g0 (OF 0)):=by
  show NRowT _ _ _
  rw[<- hW2,<- b0X,<- OZ.out];exact R7.out.set 0 1
 have S1:Hid (Blk W2 g1 (f0F os n).toArray 4):=by rw[<- hW2];exact G12.out.other (by have:=K7.out;have:=N1.out;have:=zt.out;simp;omega) _
 have S2:Hid (Blk W2 g2 (f0F zs n).toArray 4):=by rw[<- hW2];exact G22.out.other (by have:=K7.out;have:=N2.out;have:=zt.out;simp;omega) _
 have ST:Hid (Blk W2 gt #[.slice none 0 0,.string ⟨#[48]⟩] 275):=by rw[<- hW2];exact T2.out.other (by have:=K7.out;have:=HGT.out;have:=zt.out;simp;omega) _
 have SB:Hid (Below w.heap.size w W2):=by rw[<- hW2];exact B2.out.setCell (by have:=K7.out;have:=z1.out;have:=zt.out;simp;omega) _
 have TO:Hid (TabO W2 (gt+1) gt (.slice none 0 0) [] n 0 EF):=⟨ST.out,Eb _ _ _ _,fun i g hi=>absurd hi (by omega),by simp[Value.ownBlock],fun i g hi=>absurd hi (by omega),fun i g hi=>absurd hi (by omega)⟩;have D1:Hid (g1<gt/\g2<gt/\w.heap.size<=gt):=⟨by have:=N1.out;have:=HGT.out;omega,by have:=N2.out;have:=HGT.out;omega,by have:=z1.out;have:=HGT.out;omega⟩;have D2:Hid (gt<g0):=by show gt<g0;have:=K7.out;have:=HGT.out;have:=zt.out;omega
 rw[hW2];clear hW2 k0 k1 z0' R7 G12 G22 T2 B2 b2 K7 Bt T1' A1 G1 G2 B1 N1 N2 z1 zt HGT ST
 go_loopw [8,29] (fun oo ii wr=>∃ r gO rv gs,oo=k0R n gO/\ii=.int .i64 (r:Nat)/\r<=n+1/\Hid (gs.length=r/\gt<gO/\rv.ownBlock≠some gO)/\Hid (TabO wr (gt+1) gt rv gs n r EF)/\Hid (NRowT wr gO (OF r))/\Hid (Blk wr g1 (f0F os n).toArray 4)/\Hid (Blk wr g2 (f0F zs n).toArray 4)/\Hid (Below w.heap.size w wr)) (fun oo ii wr=>n+1-(intOf ii).toNat)
 case atStart=>exact⟨0,g0,_,[],rfl,rfl,S4 _,⟨rfl,D2.out,by simp[Value.ownBlock]⟩,TO,S0,S1,S2,SB⟩
 case round=>
  obtain⟨r,gO,rv,gs,rfl,rfl,hr,hM,hT,hO,hg1,hg2,hB⟩:=hrel;by_cases hlt:r<n+1
  .have q0:decide ((r:Int)<((n+1:Nat):Int))=true:=by simp;omega
   have dr:decide ((r:Int)<(n:Int)+1)=true:=by simp;omega
   have HR0:=hid hlt;clear hr hlt;unfold k0R;go_wp2_with fail;refine (HTR _ _ _ _ _ _ hT.out (by have:=hM.out.1;omega) (by have:=hM.out.1;have:=HR0.out;have:=HN.out;omega) hT.out.blk.lt).out.mono ?_;rintro e w3 ⟨gD,rv',rfl,hgD,hND,hT3,hne,hat,hK⟩;simp only[k0R];have T3:=hid hT3;have ND3:=hid hND;have NE3:=hid hne;have zD:=hid hgD;have LD:=hid (show gD<w3.heap.size from hND.lt');have keep:∀ b,b<wr.heap.size->b≠gt->rv.ownBlock≠some b->w3.heap[b]?=wr.heap[b]? := fun b h1 h2 h3=>hK.block b h1 h2 (fun e=>h3 e.symm)
   have lO:gO<wr.heap.size:=hO.out.lt';have l1:g1<wr.heap.size:=Blk.lt hg1.out;have l2:g2<wr.heap.size:=Blk.lt hg2.out;have rvge:∀ b,rv.ownBlock=some b->gt+1<=b:=fun b hb=>(hT.out.own.lt b hb).1
   have O3:Hid (NRowT w3 gO (OF r)):=j0l hO.out (keep gO lO (by have:=hM.out.2.1;omega) hM.out.2.2);have G13:Hid (Blk w3 g1 (f0F os n).toArray 4):=j0l hg1.out (keep g1 l1 (by have:=D1.out.1;omega) (fun e=>by have:=rvge _ e;have:=D1.out.1;omega));have G23:Hid (Blk w3 g2 (f0F zs n).toArray 4):=j0l hg2.out (keep g2 l2 (by have:=D1.out.2.1;omega) (fun e=>by have:=rvge _ e;have:=D1.out.2.1;omega))
   have B3:Hid (Below w.heap.size w w3):=⟨hK.os.trans hB.out.os,hK.tape.trans hB.out.tape,hK.output.trans hB.out.output,O0 hB.out.size hK.size,fun k hk=>by
    have s0:=hB.out.size;have d:=D1.out.2.2;exact (keep k (by omega) (by omega) (fun e=>by have:=rvge _ e;omega)).trans (hB.out.block k hk)⟩
   have M3:Hid (gD≠gO/\gD≠g1/\gD≠g2/\gD≠gt/\rv'.ownBlock≠some gO):=by
    refine⟨by omega,by omega,by omega,by have:=hT.out.blk.lt;omega,?_⟩;rcases hat with e | ⟨b,e,hb⟩
    .rw[e];exact hM.out.2.2
    .rw[e];intro e';have:=J9 e';omega
   have SG:Hid (∀ i g,i<r->(gs ++ [gD])[i]?=some g->gD≠g/\g<w3.heap.size):=fun i g hi hg=>by
    have hl:=hM.out.1;have hg':=hg;rw[I9 (by omega)]at hg';have h1:=(hT.out.rows i g hi hg').lt';have h2:=hK.size;exact⟨by omega,by omega⟩
   clear hT3 hND hne hgD hat hK keep lO l1 l2 rvge;go_wp2_with fail;refine (HR _ _ ((Blk.new w3 _ _).cell 0)).out.mono ?_;rintro e w4 ⟨rfl,hg7,hb2⟩;obtain⟨gN,h7⟩:=gn ((w3.alloc (.cells #[.string ⟨#[48]⟩] 23)).heap.size);rw[h7]at hg7 |-;have R7:=hid (NRowT.zeros hg7);have a1:=(Z3 w3.heap.size w3).alloc nr0 (.cells #[.string ⟨#[48]⟩] 23);have b4:=hid (a0a a1 hb2);have K7:=hid (show w3.heap.size<gN by rw[<- h7];simp);have T4:=hid (T3.out.call b4.out);have B4:=hid (a0a B3.out b4.out);have QD:=hid (show w.heap.size<=gD by have:=zD.out;have:=hB.out.size;omega);have QN:=hid (show w.heap.size<=gN by have:=K7.out;have:=B3.out.size;omega);have l1:g1<w3.heap.size:=Blk.lt G13.out;have l2:g2<w3.heap.size:=Blk.lt G23.out;have lO:gO<w3.heap.size:=O3.out.lt';have lT:gt<w3.heap.size:=T3.out.blk.lt;have lR:∀ b,rv'.ownBlock=some b->b<w3.heap.size:=fun b hb=>(T3.out.own.lt b hb).2
   have ED:Hid (EnD gt gO gN gD g1 g2 r rv' gs):=by
    have k:=K7.out;have d:=LD.out;refine⟨by omega,M3.out.2.2.2.1,fun e=>?_,NE3.out,by omega,by omega,fun e=>M3.out.1 e.symm,by omega,by omega,M3.out.2.1,M3.out.2.2.1,fun i g hi hg=>?_,fun i g hi hg=>(SG.out i g hi hg).1⟩
    .have:=lR _ e;omega
    .have:=(SG.out i g hi hg).2;omega
   have ES:Hid (EnS w4 gt gO gN gD g1 g2 n r rv' gs (OF r) (List.replicate (n+1) 0) (List.replicate (n+1) 0) os zs EF):=⟨T4.out,O3.out.call b4.out,R7.out,ND3.out.call b4.out,G13.out.call b4.out,G23.out.call b4.out⟩;have NO:Hid (rv'.ownBlock≠some gN):=fun e=>by have:=lR _ e;have:=K7.out;omega
   have DG:Hid (gt<gN):=by show gt<gN;have:=K7.out;omega
   have RL:Hid (r<=n):=by show r<=n;have:=HR0.out;omega
   have LG:=hid hM.out.1;clear hg7 hb2 a1 h7 l1 l2 lO lT lR T3 ND3 NE3 zD LD O3 G13 G23 B3 M3 SG R7 K7 T4 hM hT hO hg1 hg2 hB b4 q0
   -- the state of this round
   have NXr:=hid (NX.out r);have DNr:=hid (DN.out r);have OLr:=hid (OL.out r);have BNr:=hid (fun i j k=>BN.out r i j k RL.out);have BDr:=hid (fun i j k=>BD.out r i j k RL.out);have BOr:=hid (fun i=>BO.out r i RL.out);obtain⟨O,hO⟩:=gn (OF r);rw[hO]at NXr DNr OLr BNr BDr BOr ES;clear hO;go_wp2_with fail
   go_loopw [41] (fun ii wr=>∃ i:Nat,ii=.int .i64 (i:Nat)/\i<=n+1/\Hid (EnS wr gt gO gN gD g1 g2 n r rv' gs O (d0S os O n i) (d0S zs O n i) os zs EF)/\Hid (Below w.heap.size w wr)) (fun ii wr=>n+1-(intOf ii).toNat)
   case atStart=>exact⟨0,rfl,S4 _,ES,B4⟩
   case round=>
    clear ES;obtain⟨i,rfl,hi,hS,hB⟩:=hrel;by_cases hlt:i<n+1
    .have q0:decide ((i:Int)<((n+1:Nat):Int))=true:=by simp;omega
     have di:decide ((i:Int)<(n:Int)+1)=true:=by simp;omega
     have f0:(0:Int)<=(i:Int):=by omega
     have f1:(i:Int)<((n+1:Nat):Int):=by omega
     have f1':(i:Int)<(n:Int)+1:=by omega
     have f2:(i:Int)<=1000:=by have:=HN.out;omega
     have IL:=hid hlt;clear hi hlt;go_wp2_with fail;obtain⟨x,hx⟩:=gn (O.getD i 0);obtain⟨wo,rfl⟩:∃ wo:World,wo=wr:=⟨_,rfl⟩;have hnx:Hid (d0S os O n (i+1)=aIn os x i (n+1-i) (d0S os O n i)):=by show _=_;rw[d0S,hx]
     have hdn:Hid (d0S zs O n (i+1)=aIn zs x i (n+1-i) (d0S zs O n i)):=by show _=_;rw[d0S,hx]
     by_cases hx0:x=0
     .have k0:wo.cell? ⟨gO,i,none⟩=some (.string (a0f x)):=by rw[<- hx];exact hS.out.o.cell (by rw[OLr.out];exact IL.out)
      have q1:((a0f x).toList == [48])=true:=by rw[hx0,a0p];exact c0l
      have e1:Hid (d0S os O n (i+1)=d0S os O n i):=by show _=_;rw[hnx.out,hx0,e0X]
      have e2:Hid (d0S zs O n (i+1)=d0S zs O n i):=by show _=_;rw[hdn.out,hx0,e0X]
      obtain⟨sx,hsx⟩:=gn (a0f x);rw[hsx]at k0 q1;clear hx hx0 hsx
      go_loopw [12] (fun jj wq=>jj=.int .i64 0/\wq=wo) (fun jj wq=>0)
      case atStart=>exact⟨rfl,rfl⟩
      case round=>
       obtain⟨rfl,rfl⟩:=hrel;go_wp2_with fail;go_roundw
       case rel=>exact⟨i+1,by go_num,by have:=IL.out;omega,by rw[e1.out,e2.out];exact hS,hB⟩
       case measure=>simp[intOf]<;>(have:=IL.out;omega)
     .have q1:((a0f x).toList == [48])=false:=a0L (l:=[48]) (by rw[<- a0p];exact b0M hx0);have AOL:Hid (∀ c,(d0S c O n i).length=n+1):=fun c=>c0v c O n i
      have BNi:=hid (fun j k=>BNr.out i j k (by have:=IL.out;omega));have BDi:=hid (fun j k=>BDr.out i j k (by have:=IL.out;omega));have hxb:x<=2 ^ 200:=by rw[<- hx];exact BOr.out i (by have:=IL.out;omega)
      have HXB:=hid hxb;have HX:=hid hx;rw[hx]at BNi BDi;obtain⟨nx0,hnx0⟩:=gn (d0S os O n i);obtain⟨dn0,hdn0⟩:=gn (d0S zs O n i);have HNL:Hid (∀ j,(aIn os x i j nx0).length=n+1):=fun j=>by rw[c0V,<- hnx0];exact AOL.out os
      have HDL:Hid (∀ j,(aIn zs x i j dn0).length=n+1):=fun j=>by rw[c0V,<- hdn0];exact AOL.out zs
      rw[hnx0]at BNi hnx hS;rw[hdn0]at BDi hdn hS;obtain⟨sx,hsx⟩:=gn (a0f x);rw[hsx]at q1;have HSX:=hid hsx;clear hx hx0 hsx hnx0 hdn0 hxb AOL
      go_loopw [12] (fun jj wq=>∃ j:Nat,jj=.int .i64 (j:Nat)/\i+j<=n+1/\Hid (EnS wq gt gO gN gD g1 g2 n r rv' gs O (aIn os x i j nx0) (aIn zs x i j dn0) os zs EF)/\Hid (Below w.heap.size w wq)) (fun jj wq=>n+1-(intOf jj).toNat)
      case atStart=>exact⟨0,rfl,by have:=IL.out;omega,hS,hB⟩
      case round=>
       clear hS hB;obtain⟨j,rfl,hj,hS,hB⟩:=hrel;have k0:wr.cell? ⟨gO,i,none⟩=some (.string sx):=by
        refine (hS.out.o.cell (by rw[OLr.out];exact IL.out)).trans ?_;rw[HX.out,HSX.out]
       by_cases hlt:i+j<=n
       .have q2:decide ((i:Int)+(j:Int)<=(n:Int))=true:=by simp;omega
        have f5:(0:Int)<=(j:Int):=by omega
        have f6:(j:Int)<((n+1:Nat):Int):=by omega
        have f6':(j:Int)<(n:Int)+1:=by omega
        have f7:(j:Int)<=1000:=by have:=HN.out;omega
        have f8:(i:Int)+(j:Int)<((n+1:Nat):Int):=by omega
        have f9:(i:Int)+(j:Int)<(n:Int)+1:=by omega
        have f10:(0:Int)<=(i:Int)+(j:Int):=by omega
        have c1:wr.cell? ⟨g1,j,none⟩=some (.bool (os j)):=(hS.out.b1.cell j).trans (by rw[J5,d0R (by omega)]);have c2:wr.cell? ⟨g2,j,none⟩=some (.bool (zs j)):=(hS.out.b2.cell j).trans (by rw[J5,d0R (by omega)]);have HLT:=hid hlt;obtain⟨zj,hzj⟩:=gn (zs j);obtain⟨oj,hoj⟩:=gn (os j);rw[hoj]at c1;rw[hzj]at c2;have HZJ:=hid hzj;have HOJ:=hid hoj;clear hlt hj hzj hoj;obtain⟨y1,hy1⟩:=gn ((aIn zs x i j dn0).getD (i+j) 0);obtain⟨y2,hy2⟩:=gn ((aIn os x i j nx0).getD (i+j) 0);have p2:(2:Nat) ^ 201=2 ^ 200+2 ^ 200:=by rw[show (201:Nat)=200+1 from rfl,I8]
        have hxb:=HXB.out;have hy1b:y1<=2 ^ 200:=hy1 ▸ BDi.out j (i+j) (by have:=HLT.out;omega) HLT.out;have hy2b:y2<=2 ^ 200:=hy2 ▸ BNi.out j (i+j) (by have:=HLT.out;omega) HLT.out;have dx:=a0b hxb (by omega);have P1:=fun V hV=>hid (f0t V y1 x (a0b hy1b (by omega)) dx (a0b (i:=201) (by rw[p2];exact Nat.add_le_add hy1b hxb) (by omega)) hV)
        have P2:=fun V hV=>hid (f0t V y2 x (a0b hy2b (by omega)) dx (a0b (i:=201) (by rw[p2];exact Nat.add_le_add hy2b hxb) (by omega)) hV)
        have t1:wr.cell? ⟨gD,i+j,none⟩=some (.string (a0f y1)):=by rw[<- hy1];exact hS.out.dn.cell (by rw[HDL.out];have:=HLT.out;omega)
        have t2:wr.cell? ⟨gN,i+j,none⟩=some (.string (a0f y2)):=by rw[<- hy2];exact hS.out.nx.cell (by rw[HNL.out];have:=HLT.out;omega)
        rw[HSX.out]at P1 P2;obtain⟨u1,hu1⟩:=gn (a0f y1);obtain⟨u2,hu2⟩:=gn (a0f y2);rw[hu1]at P1 t1;rw[hu2]at P2 t2;have HY1:=hid hy1;have HY2:=hid hy2;have HU2:=hid hu2;obtain⟨m1,hm1⟩:=gn (a0f (y1+x));obtain⟨m2,hm2⟩:=gn (a0f (y2+x));rw[hm1]at P1;rw[hm2]at P2;have HM1:=hid hm1;have HM2:=hid hm2;have k1:=k0;have k2:=k0;have HOL:=OLr;clear hm1 hm2;clear hy1 hy2 p2 hxb hy1b hy2b dx hu1 hu2
        go_upto_if 61 with fail
        go_cut [] (fun wx=>Hid (EnS wx gt gO gN gD g1 g2 n r rv' gs O (aIn os x i j nx0) (aIn zs x i (j+1) dn0) os zs EF)/\Hid (Below w.heap.size w wx))
        case first=>
         cases zj
         .have hD0:Hid (aIn zs x i (j+1) dn0=aIn zs x i j dn0):=by show _=_;rw[aIn,HZJ.out,d0h]
          go_wp2_with fail
          go_meet
          exact⟨by rw[hD0.out];exact hS,hB⟩
         .have hD0:Hid (aIn zs x i (j+1) dn0=(aIn zs x i j dn0).set (i+j) (y1+x)):=by show _=_;rw[aIn,HZJ.out,c0T,HY1.out]
          go_wp2_with fail;have ew:IntKind.i64.wrap ((i:Int)+(j:Int))=(i:Int)+(j:Int):=by rw[Q0 _ ⟨by omega,by omega⟩]
          have et:((i:Int)+(j:Int)).toNat=i+j:=by omega
          refine b0a 15 2 [0,1,2,3,4,5,6,7,8,9,10,11,12,13] 1 (fun W'=>W'.cell? ⟨gD,i+j,none⟩=some (.string u1)/\W'.cell? ⟨gO,i,none⟩=some (.string sx)) (by kernel_rfl) rfl (by kernel_rfl) (by kernel_rfl) (by kernel_rfl) (by kernel_rfl) ⟨t1,k1⟩ ?_
          iterate 14
           refine⟨_,rfl,?_⟩;apply Exists.intro
           refine⟨.inl ⟨by rfl,?_⟩,?_⟩
           .rintro W' ⟨r1,r2⟩;go_simp;try with_reducible rfl
           go_frame
          refine a0c (i:=14) (by kernel_rfl) (by rfl) (by rfl) ?_;go_wp2_with fail;refine (P1 _ (HL.out.below hB.out.drew HLL.out)).out.mono ?_;rintro e w5 ⟨rfl,hbc⟩;have C1:=hid (show Below wr.heap.size wr w5 from br0.drew.trans hbc);have E1:=hid (hS.out.call C1.out);have F1:=hid (hB.out.trans (C1.out.mono hB.out.size));have tc1:=(C1.out.cell (a0e t1)).trans t1;have kc1:=(C1.out.cell (a0e k1)).trans k1;clear hbc;go_wp2_with fail;refine⟨⟨tc1,kc1⟩,?_⟩;refine H8 (by kernel_rfl) ?_ _;simp only[b0h,c0w,Ab,A9];have fz1:=E1.out.dn.free (i+j);clear kc1;have S6:Hid (EnS (w5.setCell ⟨gD,i+j,none⟩ (.string m1)) gt gO gN gD g1 g2 n r rv' gs O (aIn os x i j nx0) ((aIn zs x i j dn0).set (i+j) (y1+x)) os zs EF):=by rw[<- HM1.out];exact E1.out.setD ED.out (i+j) (y1+x)
          go_wp2_with fail
          try simp only[b0h]
          go_meet
          exact⟨by rw[hD0.out];exact S6,F1.out.setCell QD.out _⟩
        case rest=>
         obtain⟨S6,B6⟩:=hcut;clear hS hB t1 k1 t2 k2 c1 c2;have c1:wc.cell? ⟨g1,j,none⟩=some (.bool oj):=(S6.out.b1.cell j).trans (by rw[J5,d0R (by have:=HLT.out;omega),HOJ.out]);have k2:wc.cell? ⟨gO,i,none⟩=some (.string sx):=by
          refine (S6.out.o.cell (by rw[HOL.out];exact IL.out)).trans ?_;rw[HX.out,HSX.out]
         have t2:wc.cell? ⟨gN,i+j,none⟩=some (.string u2):=by
          refine (S6.out.nx.cell (by rw[HNL.out j];have:=HLT.out;omega)).trans ?_;rw[HY2.out,HU2.out]
         cases oj
         .have hN0:Hid (aIn os x i (j+1) nx0=aIn os x i j nx0):=by show _=_;rw[aIn,HOJ.out,d0h]
          go_wp2_with fail;go_roundw
          case rel=>exact⟨j+1,by go_num,by have:=HLT.out;omega,by rw[hN0.out];exact S6,B6⟩
          case measure=>simp[intOf]<;>(have:=HLT.out;omega)
         .have hN0:Hid (aIn os x i (j+1) nx0=(aIn os x i j nx0).set (i+j) (y2+x)):=by show _=_;rw[aIn,HOJ.out,c0T,HY2.out]
          go_wp2_with fail;have ew:IntKind.i64.wrap ((i:Int)+(j:Int))=(i:Int)+(j:Int):=by rw[Q0 _ ⟨by omega,by omega⟩]
          have et:((i:Int)+(j:Int)).toNat=i+j:=by omega
          refine b0a 15 2 [0,1,2,3,4,5,6,7,8,9,10,11,12,13] 1 (fun W'=>W'.cell? ⟨gN,i+j,none⟩=some (.string u2)/\W'.cell? ⟨gO,i,none⟩=some (.string sx)) (by kernel_rfl) rfl (by kernel_rfl) (by kernel_rfl) (by kernel_rfl) (by kernel_rfl) ⟨t2,k2⟩ ?_
          iterate 14
           refine⟨_,rfl,?_⟩;apply Exists.intro
           refine⟨.inl ⟨by rfl,?_⟩,?_⟩
           .rintro W' ⟨r1,r2⟩;go_simp;try with_reducible rfl
           go_frame
          refine a0c (i:=14) (by kernel_rfl) (by rfl) (by rfl) ?_;go_wp2_with fail;refine (P2 _ (HL.out.below B6.out.drew HLL.out)).out.mono ?_;rintro e w7 ⟨rfl,hbc⟩;have C2:=hid (show Below wc.heap.size wc w7 from br0.drew.trans hbc);have E2:=hid (S6.out.call C2.out);have F2:=hid (B6.out.trans (C2.out.mono B6.out.size));have tc2:=(C2.out.cell (a0e t2)).trans t2;have kc2:=(C2.out.cell (a0e k2)).trans k2;clear hbc;go_wp2_with fail;refine⟨⟨tc2,kc2⟩,?_⟩;refine H8 (by kernel_rfl) ?_ _;simp only[b0h,c0w,Ab,A9];have fz2:=E2.out.nx.free (i+j);clear kc2;go_wp2_with fail
          try simp only[b0h]
          go_roundw
          case rel=>exact⟨j+1,by go_num,by have:=HLT.out;omega,by rw[hN0.out,<- HM2.out];exact E2.out.setN ED.out (i+j) (y2+x),F2.out.setCell QN.out _⟩
          case measure=>simp[intOf]<;>(have:=HLT.out;omega)
       .have q2:decide ((i:Int)+(j:Int)<=(n:Int))=false:=by simp;omega
        have e1:j=n+1-i:=by omega
        have f7:(j:Int)<=1001:=by have:=HN.out;omega
        have f5:(0:Int)<=(j:Int):=by omega
        subst e1;clear hj hlt;go_wp2_with fail;go_roundw
        case rel=>exact⟨i+1,by go_num,by have:=IL.out;omega,by rw[hnx.out,hdn.out];exact hS,hB⟩
        case measure=>simp[intOf]<;>(have:=IL.out;omega)
    .have q0:decide ((i:Int)<((n+1:Nat):Int))=false:=by simp;omega
     have di:decide ((i:Int)<(n:Int)+1)=false:=by simp;omega
     have e1:i=n+1:=by omega
     subst e1;rw[NXr.out,DNr.out]at hS;clear hi hlt;have wr1:IntKind.i64.wrap ((r:Int)+1)=((r+1:Nat):Int):=by have:=RL.out;have:=HN.out;rw[Q0 _ ⟨by omega,by omega⟩];omega
     go_wp2_with fail;go_roundw
     case rel=>
      refine⟨r+1,gN,rv',gs ++ [gD],rfl,by go_num,by have:=RL.out;omega,⟨by rw[Z4,LG.out];rfl,DG.out,NO.out⟩,?_,hS.out.nx,hS.out.b1,hS.out.b2,hB⟩;have h:=hS.out.tab;refine⟨h.blk,h.own,fun i g hi hg=>?_,h.ne,fun i g hi hg=>?_,fun i g hi hg=>?_⟩
      .by_cases hi2:i<r
       .exact h.rows i g hi2 hg
       .obtain rfl:i=r:=by omega
        rw[G8 (by have:=LG.out;omega),LG.out,Ce]at hg;simp at hg;subst hg;exact hS.out.dn
      .by_cases hi2:i<r
       .exact h.sep i g hi2 hg
       .obtain rfl:i=r:=by omega
        rw[G8 (by have:=LG.out;omega),LG.out,Ce]at hg;simp at hg;subst hg;exact ED.out.rD
      .by_cases hi2:i<r
       .exact h.gne i g hi2 hg
       .obtain rfl:i=r:=by omega
        rw[G8 (by have:=LG.out;omega),LG.out,Ce]at hg;simp at hg;subst hg;exact ED.out.tD
     case measure=>simp[intOf]<;>(have:=RL.out;omega)
  .have q0:decide ((r:Int)<((n+1:Nat):Int))=false:=by simp;omega
   have dr:decide ((r:Int)<(n:Int)+1)=false:=by simp;omega
   have e1:r=n+1:=by omega
   subst e1;clear hr hlt;unfold k0R;go_wp2_with fail;go_ret
   refine⟨⟨gt,rfl,D1.out.2.2,?_⟩,hB.out⟩;rw[HEF.out];exact v0U hT.out hM.out.1 (fun i=>by rw[<- HEF.out];exact f0j _ _) (by have:=HN.out;omega)
end
section
open Go.RowKit Go.Maps
open Go.Lib (decDigits nDigits)
def c1f (w:World)(g x:Nat)(h:Blk w g #[.string (j0j x),.string ⟨#[48]⟩] 23):
 Calls Tryz.prog 289 #[.slice (some ⟨g,0,none⟩) 2 2] w fun e w'=>e=.returned (.string (a0f x))/\w=w':=by
 have r0:=h.cell 0;have r1:=h.cell 1;simp at r0 r1;by_cases hx:x=0
 .subst hx;have e1:j0j 0=⟨#[]⟩:=rfl;have e2:a0f 0=⟨#[48]⟩:=a0p;rw[e1]at r0;rw[e2];clear h e1 e2;go_enter Tryz.func289,Tryz.ntmps289;go_wp2_with fail
  go_loopw [8] (fun ii wr=>∃ i:Nat,ii=.int .i64 (i:Nat)/\i<=1/\wr=w) (fun ii wr=>2-(intOf ii).toNat)
  case atStart=>exact⟨0,rfl,S4 _,rfl⟩
  case round=>
   obtain⟨i,rfl,hi,rfl⟩:=hrel;rcases Cc i 1 with h0 | h0
   .obtain rfl:i=0:=by omega
    clear hi h0;go_wp2_with fail;go_roundw
    case rel=>exact⟨1,by go_num,by omega,by simp⟩
    case measure=>simp[intOf]
   .obtain rfl:i=1:=by omega
    clear hi h0;go_wp2_with fail;go_ret
    exact⟨rfl,rfl⟩
 .have e1:j0j x=a0f x:=U0 hx;rw[e1]at r0
  have q1:((a0f x).toList == [])=false:=a0L (l:=[]) (fun e=>by
   have h1:=a0t x;rw[e]at h1;have h2:=Go.Lib.nDigits_pos x;simp[ByteArray.size]at h1;omega)
  obtain⟨s,hs⟩:=gn (a0f x);rw[hs]at r0 q1 |-;clear h e1 hs hx;go_enter Tryz.func289,Tryz.ntmps289;go_wp2_with fail
  go_loopw [8] (fun ii wr=>ii=.int .i64 0/\wr=w) (fun ii wr=>0)
  case atStart=>exact⟨rfl,rfl⟩
  case round=>
   obtain⟨rfl,rfl⟩:=hrel;go_wp2_with fail;go_ret
   exact⟨rfl,rfl⟩
structure GlS (H:Type)(w1 w:World)(B K:Nat)(c:Int->Nat):Prop where
 bel:Below w1.heap.size w1 w
 ex:∃ (nn:Nat) (D:DataW H),nn<=K/\w.ownsMap Tryz.prog 3 (plainElem Tryz.prog 23) B nn D/\ReadsI D c
theorem GlS.mono {H:Type}{w1 w:World}{B K K':Nat}{c c':Int->Nat}(h:GlS H w1 w B K c)(hK:K<=K')(hc:c=c'):GlS H w1 w B K' c':=by
 subst hc;obtain⟨h1,nn,D,h2,h3,h4⟩:=h;exact⟨h1,nn,D,by omega,h3,h4⟩
def k0O {w1 w w':World}{B:Nat}(h:Below w1.heap.size w1 w)(hg:w.grownBy w' (some B))(hB:w1.heap.size<=B):Below w1.heap.size w1 w':=by
 refine⟨hg.os.trans h.os,hg.tape.trans h.tape,hg.output.trans h.output,O0 h.size hg.size,fun i hi=>?_⟩;exact (hg.block i (by have:=h.size;omega) (fun e=>by injection e with e;omega)).trans (h.block i hi)
def m0n {v:Int}(h1 : -100000<=v)(h2:v<=100000):(Lit.int .i64 v).wf=true:=WalkArith.wf_i64 ⟨by omega,by omega⟩
def q0L {x y a b:Nat}(h1:x<=2 ^ a)(h2:y<=2 ^ b)(h:a+b<=3000):nDigits (x*y)<=4000:=a0b (by rw[Cr];exact Bk h1 h2) h
def f0v {x:Nat}(h:nDigits x<=4000):(a0f x).size<=maxLen:=by rw[a0t];unfold maxLen;omega
def Na:=@Go.World.ownsMap_made
def Lg:=@Go.wpList_mapUpdate_own
def a1b {H:Type}(w:World)(a:ByteArray)(n N D:Nat)(ha:a.size<=100000)(he:gPE a=0)(hn:n<=32)(hN:bN (cW a)=N)(hD:bN (qD a)=D)(hND:N<D)(hL:Lay w):
 Calls Tryz.prog 225 #[.string a,.int .i64 n,.bool false] w fun e w'=>(∃ B nn Dm,e=.returned (.map (some B))/\w.heap.size<=B/\nn<=3000000/\w'.ownsMap Tryz.prog 3 (plainElem (H:=H) Tryz.prog 23) B nn Dm/\ReadsI Dm (gV N D false n))/\Below w.heap.size w w':=by
 have HE:=hid (v0w w a n N D ha he hn hN hD hND hL);have HAT:Hid (∀ V gt i k,TabR V gt n (p0h N D n)->i<=n->k<=n->Calls Tryz.prog 288 #[.pointer (some ⟨gt,0,none⟩),.int .i64 (i:Nat),.int .i64 (k:Nat)] V fun e w'=>e=.returned (.string (a0f (edn N D i k)))/\V=w'):=fun V gt i k hT hi hk=>by
  have:=y0Y V gt n i k (p0h N D n) hT hi hk (by omega);unfold p0h at this;rw[g0Z hk]at this;exact this
 have HPW:=fun V k (hk:k<=1000) hV=>hid (i0T V k hk hV)
 have EB:Hid (∀ i k,i<=n->k<=n->edn N D i k<=2 ^ 200):=fun i k hi hk=>O0 (n0s hn i k hk) (H6 (by omega) (by omega))
 have HL:=hid hL;have HN:=hid hn;have HND:=hid hND;have wn:IntKind.i64.wrap ((n:Int)+1)=((n+1:Nat):Int):=by rw[Q0 _ ⟨by omega,by omega⟩];omega
 have hmm:=@run_makeMap Tryz.prog;clear ha he hn hN hD hND hL;go_enter Tryz.func225,Tryz.ntmps225;go_wp2_with fail;refine HE.out.mono ?_;rintro e w1 ⟨⟨gt,rfl,hgt,hT⟩,hb1⟩;have T1:=hid hT;have B1:=hid hb1;clear hT hb1 HE hgt;have TK:Hid (∀ V,Below w1.heap.size w1 V->TabR V gt n (p0h N D n)):=fun V hV=>T1.out.call hV
 have LK:Hid (∀ V,Below w1.heap.size w1 V->Lay V):=fun V hV=>(HL.out.call B1.out).call hV
 have HR0:Hid (∀ V,Below w1.heap.size w1 V->∃ g c,n+1<=c/\c<=9223372036854775807/\V.cell? ⟨gt,0,none⟩=some (.slice (some ⟨g,0,none⟩) (n+1) c)):=fun V hV=>by
  obtain⟨-,g,c,h1,h2,h3,-,-⟩:=TK.out V hV;exact⟨g,c,h1,h2,h3⟩
 have G0:Hid (GlS H w1 (w1.alloc (.map #[] 0)) w1.heap.size 0 (fun _=>0)):=⟨br0.alloc nr0 _,0,.map [],J4 _,Na _ _ _ _,ReadsI.nil⟩;obtain⟨g,c,hc1,hc2,r0⟩:=HR0.out _ G0.out.bel;clear T1;go_wp2_with fail;obtain⟨W1,hW1⟩:=gn (w1.alloc (.map #[] 0));obtain⟨B,hB⟩:=gn (w1.heap.size);have HB:=hid hB;have G1:Hid (GlS H w1 W1 B 0 (fun _=>0)):=by rw[<- hW1,<- hB];exact G0.out
 rw[hW1,hB];clear hW1 hB G0 r0 hc1 hc2
 go_loopw [22] (fun ii wr=>∃ i:Nat,ii=.int .i64 (i:Nat)/\i<=n+1/\Hid (GlS H w1 wr B (i*64000) (c1 N D n i 0))) (fun ii wr=>n+1-(intOf ii).toNat)
 case atStart=>exact⟨0,rfl,S4 _,hid (by rw[y0r];exact G1.out)⟩
 case round=>
  obtain⟨i,rfl,hi,hG⟩:=hrel;by_cases hlt:i<n+1
  .have q0:decide ((i:Int)<((n+1:Nat):Int))=true:=by simp;omega
   have di:decide ((i:Int)<(n:Int)+1)=true:=by simp;omega
   have IL:=hid hlt;have f2:(i:Int)<=100:=by have:=HN.out;omega
   clear hi hlt;go_wp2_with fail
   go_loopw [27] (fun ss wq=>∃ s:Nat,ss=.int .i64 (s:Nat)/\s<=n+1/\Hid (GlS H w1 wq B (i*64000+s*1600) (c1 N D n i s))) (fun ss wq=>n+1-(intOf ss).toNat)
   case atStart=>exact⟨0,rfl,S4 _,hid (hG.out.mono (by omega) rfl)⟩
   case round=>
    clear hG;obtain⟨s,rfl,hs,hG⟩:=hrel;by_cases hlt:s<n+1
    .have q0:decide ((s:Int)<((n+1:Nat):Int))=true:=by simp;omega
     have d30:decide ((s:Int)<(n:Int)+1)=true:=by simp;omega
     have SL:=hid hlt;have f3:(s:Int)<=100:=by have:=HN.out;omega
     have A1:=fun V hV=>hid (HAT.out V gt i s (TK.out V hV) (by have:=IL.out;omega) (by have:=SL.out;omega))
     obtain⟨x,hx⟩:=gn (edn N D i s);rw[hx]at A1;have bx:x<=2 ^ 200:=hx ▸ EB.out i s (by have:=IL.out;omega) (by have:=SL.out;omega);by_cases hx0:x=0
     .have q1:((a0f x).toList == [48])=true:=by rw[hx0,a0p];exact c0l
      have hsk:=hid (y0s (N:=N) (D:=D) (n:=n) (i:=i) (s:=s) (hx.trans hx0));obtain⟨sx,hsx⟩:=gn (a0f x);rw[hsx]at A1 q1;clear hs hlt hx bx hx0 hsx;go_wp2_with fail;refine (A1 _ hG.out.bel).out.mono ?_;rintro e w2 ⟨rfl,rfl⟩;go_wp2_with fail;go_roundw
      case rel=>exact⟨s+1,by go_num,by have:=SL.out;omega,hid (by rw[hsk.out];exact hG.out.mono (by omega) rfl)⟩
      case measure=>simp[intOf]<;>(have:=SL.out;omega)
     .have q1:((a0f x).toList == [48])=false:=a0L (l:=[48]) (by rw[<- a0p];exact b0M hx0);obtain⟨hbl,nn,Dm,hnn,hO,hR⟩:=hG.out;have hcl:=a1R (N:=N) (D:=D) HND.out (n:=n) (i:=i) (s:=s) (by have:=IL.out;omega) (by omega) (i:Int);have hcl2:=a1R (N:=N) (D:=D) HND.out (n:=n) (i:=i) (s:=s+1) (by have:=IL.out;omega) (by have:=SL.out;omega) (i:Int);have hgv:=k0x HND.out false n (i:Int);have hstep:=s0o N D n i s;rw[hstep]at hcl2;rw[hx]at hstep hcl2;unfold j0t at hcl2;rw[J2 rfl]at hcl2;have hp2:2 ^ (n-s)<=2 ^ 32:=H6 (by omega) (by have:=HN.out;omega);have hpn:2 ^ n<=2 ^ 32:=H6 (by omega) HN.out;have hxp:0<x*2 ^ (n-s):=Dr (by omega) (Ff (by omega));have hRP:=ReadsI.put hR (i:Int) hxp;have HRP:=hid hRP;have HO:=hid hO;have HNN:=hid hnn;have HBL:=hid hbl;have HST:=hid hstep;obtain⟨y,hy⟩:=gn (c1 N D n i s (i:Int));have HLK:Hid (∀ V,Below wr.heap.size wr V->(Instr.lookup 211 (.map (some B)) (.int .i64 (i:Nat)) false).run Tryz.prog V=.ok (.string (j0j y)) V):=fun V hV=>by
       have:=v0q (HO.out.kept (row:=none) ⟨hV.os,hV.tape,hV.output,hV.size,fun k hk _=>hV.block k hk⟩ (by simp)) hR (m0n (v:=(i:Int)) (by omega) (by omega));rw[hy]at this;exact this
      rw[hy]at HRP hcl hcl2;have dx:=a0b bx (by omega);have dp:=a0b hp2 (by omega);have dxp:=a0b (i:=32) (show x*2 ^ (n-s)<=2 ^ 32 by omega) (by omega);have dy:=a0b (i:=32) (show y<=2 ^ 32 by omega) (by omega);have ds:=a0b (i:=32) (show y+x*2 ^ (n-s)<=2 ^ 32 by omega) (by omega);have P0:=fun V hV=>HPW V (n-s) (by have:=HN.out;omega) hV
      have P1:=fun V hV=>hid (g0K V x (2 ^ (n-s)) dx dp dxp hV)
      have P2:=fun V hV=>hid (f0t V y (x*2 ^ (n-s)) dy dxp ds hV)
      have POR:=fun V g h=>hid (c1f V g y h)
      have hsz:=hid (f0v ds);have wsub:IntKind.i64.wrap ((n:Int)-(s:Int))=((n-s:Nat):Int):=by have:=HN.out;have:=SL.out;rw[Q0 _ ⟨by omega,by omega⟩];omega
      obtain⟨sx,hsx⟩:=gn (a0f x);obtain⟨sp,hsp⟩:=gn (a0f (2 ^ (n-s)));obtain⟨sxp,hsxp⟩:=gn (a0f (x*2 ^ (n-s)));obtain⟨sy,hsy⟩:=gn (a0f y);obtain⟨sz,hszz⟩:=gn (a0f (y+x*2 ^ (n-s)));obtain⟨cy,hcy⟩:=gn (j0j y);rw[hsx]at A1 q1;rw[hsp]at P0;rw[hsx,hsp,hsxp]at P1;rw[hsy,hsxp,hszz]at P2;rw[hsy,hcy]at POR;rw[hcy]at HLK;rw[hszz]at hsz HRP;clear hs hlt hx bx hx0 hsx hcl hcl2 hgv hstep hp2 hpn hxp hRP hbl hnn hO hR hy dx dp dxp dy ds hsp hsxp hsy hszz hcy;have lk:=HLK.out wr br0;have C2:Blk (wr.alloc (.cells #[.string cy,.string ⟨#[48]⟩] 23)) wr.heap.size #[.string cy,.string ⟨#[48]⟩] 23:=Blk.new wr #[.string cy,.string ⟨#[48]⟩] 23;have A2:=hid (show Below wr.heap.size wr (wr.alloc (.cells #[.string cy,.string ⟨#[48]⟩] 23)) from br0.alloc nr0 _);have F2:=hid (a0a HBL.out A2.out);go_wp2_with fail;refine (A1 _ hG.out.bel).out.mono ?_;rintro e w2 ⟨rfl,rfl⟩;go_wp2_with fail;refine (POR _ _ C2).out.mono ?_;rintro e w2 ⟨rfl,rfl⟩;clear lk C2;go_wp2_with fail;refine (A1 _ F2.out).out.mono ?_;rintro e w2 ⟨rfl,rfl⟩;go_wp2_with fail;refine (P0 _ (LK.out _ F2.out)).out.mono ?_;rintro e w3 ⟨rfl,hb3⟩;have A3:=hid (a0a A2.out hb3);clear hb3;go_wp2_with fail;refine (P1 _ (LK.out _ (a0a HBL.out A3.out))).out.mono ?_;rintro e w4 ⟨rfl,hb4⟩;have A4:=hid (a0a A3.out hb4);clear hb4;go_wp2_with fail;refine (P2 _ (LK.out _ (a0a HBL.out A4.out))).out.mono ?_;rintro e w5 ⟨rfl,hb5⟩;have A5:=hid (a0a A4.out hb5);clear hb5;go_wp2_with (at_mapUpdate;refine Lg _ rfl _ _ _ 211 rfl 3 23 (Mh Z7) Jt _ B nn _ rfl (HO.out.kept (row:=none) ⟨A5.out.os,A5.out.tape,A5.out.output,A5.out.size,fun k hk _=>A5.out.block k hk⟩ (by simp)) (by have:=HNN.out;have:=HN.out;have:=IL.out;have:=SL.out;unfold maxLen;omega) _ _ _ rfl rfl (Kv Z7 (m0n (v:=(i:Int)) (by omega) (by omega))) _ [] (plainElem_string Ft hsz.out) ?_;intro w6 hown hgrow)
      have OW:=hid hown;have B6:=hid (k0O (a0a HBL.out A5.out) hgrow (by rw[HB.out];exact J4 _));clear hown hgrow HLK;go_roundw
      case rel=>
       refine⟨s+1,by go_num,by have:=SL.out;omega,hid ⟨B6.out,nn+1,_,by have:=HNN.out;omega,OW.out,?_⟩⟩;rw[HST.out];exact HRP.out
      case measure=>simp[intOf]<;>(have:=SL.out;omega)
    .have q0:decide ((s:Int)<((n+1:Nat):Int))=false:=by simp;omega
     have d30:decide ((s:Int)<(n:Int)+1)=false:=by simp;omega
     have e1:s=n+1:=by omega
     subst e1;clear hs hlt;have hrow:=hid (v0K N D n i);go_wp2_with fail;go_roundw
     case rel=>exact⟨i+1,by go_num,by have:=IL.out;omega,hid (hG.out.mono (by have:=HN.out;omega) hrow.out)⟩
     case measure=>simp[intOf]<;>(have:=IL.out;omega)
  .have q0:decide ((i:Int)<((n+1:Nat):Int))=false:=by simp;omega
   have di:decide ((i:Int)<(n:Int)+1)=false:=by simp;omega
   have e1:i=n+1:=by omega
   subst e1;clear hi hlt;obtain⟨hbl,nn,Dm,h1,h2,h3⟩:=hG.out;have HBL:=hid hbl;have H1:=hid h1;have H2:=hid h2;have H3:=hid h3;clear hbl h1 h2 h3;go_wp2_with fail;go_ret
   refine⟨⟨B,nn,Dm,rfl,by rw[<- HB.out];exact B1.out.size,by have:=H1.out;have:=HN.out;omega,H2.out,?_⟩,a0a B1.out HBL.out⟩;have e2:c1 N D n (n+1) 0=gV N D false n:=funext fun v=>v0L HND.out n v
   rw[<- e2];exact H3.out
def a1a {H:Type}(w:World)(a:ByteArray)(n N D:Nat)(ha:a.size<=100000)(he:gPE a=0)(hn:n<=32)(hN:bN (cW a)=N)(hD:bN (qD a)=D)(hND:N<D)(hL:Lay w):
 Calls Tryz.prog 225 #[.string a,.int .i64 n,.bool true] w fun e w'=>(∃ B nn Dm,e=.returned (.map (some B))/\w.heap.size<=B/\nn<=3000000/\w'.ownsMap Tryz.prog 3 (plainElem (H:=H) Tryz.prog 23) B nn Dm/\ReadsI Dm (gV N D true n))/\Below w.heap.size w w':=by
 have HE:=hid (v0w w a n N D ha he hn hN hD hND hL);have HAT:Hid (∀ V gt i k,TabR V gt n (p0h N D n)->i<=n->k<=n->Calls Tryz.prog 288 #[.pointer (some ⟨gt,0,none⟩),.int .i64 (i:Nat),.int .i64 (k:Nat)] V fun e w'=>e=.returned (.string (a0f (edn N D i k)))/\V=w'):=fun V gt i k hT hi hk=>by
  have:=y0Y V gt n i k (p0h N D n) hT hi hk (by omega);unfold p0h at this;rw[g0Z hk]at this;exact this
 have HPW:=fun V k (hk:k<=1000) hV=>hid (i0T V k hk hV)
 have EB:Hid (∀ i k,i<=n->k<=n->edn N D i k<=2 ^ 200):=fun i k hi hk=>O0 (n0s hn i k hk) (H6 (by omega) (by omega))
 have HL:=hid hL;have HN:=hid hn;have HND:=hid hND;have wn:IntKind.i64.wrap ((n:Int)+1)=((n+1:Nat):Int):=by rw[Q0 _ ⟨by omega,by omega⟩];omega
 have hmm:=@run_makeMap Tryz.prog;clear ha he hn hN hD hND hL;go_enter Tryz.func225,Tryz.ntmps225;go_wp2_with fail;refine HE.out.mono ?_;rintro e w1 ⟨⟨gt,rfl,hgt,hT⟩,hb1⟩;have T1:=hid hT;have B1:=hid hb1;clear hT hb1 HE hgt;have TK:Hid (∀ V,Below w1.heap.size w1 V->TabR V gt n (p0h N D n)):=fun V hV=>T1.out.call hV
 have LK:Hid (∀ V,Below w1.heap.size w1 V->Lay V):=fun V hV=>(HL.out.call B1.out).call hV
 have HR0:Hid (∀ V,Below w1.heap.size w1 V->∃ g c,n+1<=c/\c<=9223372036854775807/\V.cell? ⟨gt,0,none⟩=some (.slice (some ⟨g,0,none⟩) (n+1) c)):=fun V hV=>by
  obtain⟨-,g,c,h1,h2,h3,-,-⟩:=TK.out V hV;exact⟨g,c,h1,h2,h3⟩
 have G0:Hid (GlS H w1 (w1.alloc (.map #[] 0)) w1.heap.size 0 (fun _=>0)):=⟨br0.alloc nr0 _,0,.map [],J4 _,Na _ _ _ _,ReadsI.nil⟩;obtain⟨g,c,hc1,hc2,r0⟩:=HR0.out _ G0.out.bel;clear T1;go_wp2_with fail;obtain⟨W1,hW1⟩:=gn (w1.alloc (.map #[] 0));obtain⟨B,hB⟩:=gn (w1.heap.size);have HB:=hid hB;have G1:Hid (GlS H w1 W1 B 0 (fun _=>0)):=by rw[<- hW1,<- hB];exact G0.out
 rw[hW1,hB];clear hW1 hB G0 r0 hc1 hc2
 go_loopw [22] (fun ii wr=>∃ i:Nat,ii=.int .i64 (i:Nat)/\i<=n+1/\Hid (GlS H w1 wr B (i*64000) (c2 N D n i 0 0 0))) (fun ii wr=>n+1-(intOf ii).toNat)
 case atStart=>exact⟨0,rfl,S4 _,hid (by rw[y0o];exact G1.out)⟩
 case round=>
  obtain⟨i,rfl,hi,hG⟩:=hrel;by_cases hlt:i<n+1
  .have q0:decide ((i:Int)<((n+1:Nat):Int))=true:=by simp;omega
   have di:decide ((i:Int)<(n:Int)+1)=true:=by simp;omega
   have IL:=hid hlt;have f2:(i:Int)<=100:=by have:=HN.out;omega
   clear hi hlt;go_wp2_with fail
   go_loopw [27] (fun ss wq=>∃ s:Nat,ss=.int .i64 (s:Nat)/\s<=n+1/\Hid (GlS H w1 wq B (i*64000+s*1600) (c2 N D n i s 0 0))) (fun ss wq=>n+1-(intOf ss).toNat)
   case atStart=>exact⟨0,rfl,S4 _,hid (hG.out.mono (by omega) rfl)⟩
   case round=>
    clear hG;obtain⟨s,rfl,hs,hG⟩:=hrel;by_cases hlt:s<n+1
    .have q0:decide ((s:Int)<((n+1:Nat):Int))=true:=by simp;omega
     have d30:decide ((s:Int)<(n:Int)+1)=true:=by simp;omega
     have SL:=hid hlt;have f3:(s:Int)<=100:=by have:=HN.out;omega
     have A1:=fun V hV=>hid (HAT.out V gt i s (TK.out V hV) (by have:=IL.out;omega) (by have:=SL.out;omega))
     obtain⟨x,hx⟩:=gn (edn N D i s);rw[hx]at A1;have bx:x<=2 ^ 200:=hx ▸ EB.out i s (by have:=IL.out;omega) (by have:=SL.out;omega);by_cases hx0:x=0
     .have q1:((a0f x).toList == [48])=true:=by rw[hx0,a0p];exact c0l
      have hsk:=hid (y0q (N:=N) (D:=D) (n:=n) (i:=i) (s:=s) (hx.trans hx0));obtain⟨sx,hsx⟩:=gn (a0f x);rw[hsx]at A1 q1;clear hs hlt hx bx hx0 hsx;go_wp2_with fail;refine (A1 _ hG.out.bel).out.mono ?_;rintro e w2 ⟨rfl,rfl⟩;go_wp2_with fail;go_roundw
      case rel=>exact⟨s+1,by go_num,by have:=SL.out;omega,hid (by rw[hsk.out];exact hG.out.mono (by omega) rfl)⟩
      case measure=>simp[intOf]<;>(have:=SL.out;omega)
     .have q1:((a0f x).toList == [48])=false:=a0L (l:=[48]) (by rw[<- a0p];exact b0M hx0);have HX:=hid hx;have BX:=hid bx;have HX0:=hid hx0;obtain⟨sx,hsx⟩:=gn (a0f x);rw[hsx]at A1 q1;have HSX:=hid hsx;obtain⟨g',c',hc1',hc2',r0'⟩:=HR0.out _ hG.out.bel;clear hs hlt hx bx hx0 hsx;go_wp2_with fail;refine (A1 _ hG.out.bel).out.mono ?_;rintro e w2 ⟨rfl,rfl⟩;go_wp2_with fail;clear q1
      go_loopw [59] (fun kk wq=>∃ k:Nat,kk=.int .i64 (k:Nat)/\k<=n+1/\Hid (GlS H w1 wq B (i*64000+s*1600+k*40) (c2 N D n i s k 0))) (fun kk wq=>n+1-(intOf kk).toNat)
      case atStart=>exact⟨0,rfl,S4 _,hid (hG.out.mono (by omega) rfl)⟩
      case round=>
       clear r0' hG;obtain⟨k,rfl,hk,hG⟩:=hrel;by_cases hlt:k<n+1
       .have q0:decide ((k:Int)<((n+1:Nat):Int))=true:=by simp;omega
        have dk:decide ((k:Int)<(n:Int)+1)=true:=by simp;omega
        have KL:=hid hlt;have f4:(k:Int)<=100:=by have:=HN.out;omega
        clear hk hlt;go_wp2_with fail
        go_loopw [12] (fun uu wq=>∃ u:Nat,uu=.int .i64 (u:Nat)/\s+u<=n+1/\Hid (GlS H w1 wq B (i*64000+s*1600+k*40+u) (c2 N D n i s k u))) (fun uu wq=>n+1-(intOf uu).toNat)
        case atStart=>exact⟨0,rfl,by have:=SL.out;omega,hid (hG.out.mono (by omega) rfl)⟩
        case round=>
         clear hG;obtain⟨u,rfl,hu,hG⟩:=hrel;by_cases hlt:s+u<=n
         .have q2:decide ((s:Int)+(u:Int)<=(n:Int))=true:=by simp;omega
          have UL:=hid hlt;have f5:(u:Int)<=100:=by have:=HN.out;omega
          have A2:=fun V hV=>hid (HAT.out V gt k u (TK.out V hV) (by have:=KL.out;omega) (by have:=UL.out;omega))
          obtain⟨y,hy⟩:=gn (edn N D k u);rw[hy]at A2;have by':y<=2 ^ 200:=hy ▸ EB.out k u (by have:=KL.out;omega) (by omega)
          by_cases hy0:y=0
          .have q1:((a0f y).toList == [48])=true:=by rw[hy0,a0p];exact c0l
           have hsk:=hid (y0p (N:=N) (D:=D) (n:=n) (i:=i) (s:=s) (k:=k) (u:=u) (hy.trans hy0));obtain⟨sy,hsy⟩:=gn (a0f y);rw[hsy]at A2 q1;clear hu hlt hy by' hy0 hsy
           go_wp2_with fail;refine (A2 _ hG.out.bel).out.mono ?_;rintro e w2 ⟨rfl,rfl⟩;go_wp2_with fail;go_roundw
           case rel=>exact⟨u+1,by go_num,by have:=UL.out;omega,hid (by rw[hsk.out];exact hG.out.mono (by omega) rfl)⟩
           case measure=>simp[intOf]<;>(have:=UL.out;omega)
          .have q1:((a0f y).toList == [48])=false:=a0L (l:=[48]) (by rw[<- a0p];exact b0M hy0);obtain⟨hbl,nn,Dm,hnn,hO,hR⟩:=hG.out;obtain⟨v,hv⟩:∃ v:Int,(i:Int)-(k:Int)=v:=⟨_,rfl⟩;have hvb : -1000<=v/\v<=1000:=⟨by omega,by have:=IL.out;have:=HN.out;omega⟩;have hcl:=a1Q (N:=N) (D:=D) HND.out (n:=n) (i:=i) (s:=s) (k:=k) (u:=u) (by have:=IL.out;omega) (by omega) (by have:=KL.out;omega) (by omega) v;have hcl2:=a1Q (N:=N) (D:=D) HND.out (n:=n) (i:=i) (s:=s) (k:=k) (u:=u+1) (by have:=IL.out;omega) (by omega) (by have:=KL.out;omega) (by omega) v;have hgv:=k0x HND.out true n v;have hstep:=c1g N D n i s k u;rw[hstep]at hcl2;rw[HX.out,hy,hv]at hstep hcl2;unfold j0t at hcl2;rw[J2 rfl]at hcl2;obtain⟨m,hm⟩:=gn (n-s-u);obtain⟨ns,hns⟩:=gn (n-s);have hm32:m<=32:=by have:=HN.out;omega
           have wsub:IntKind.i64.wrap ((n:Int)-(s:Int))=(ns:Int):=by rw[Q0 _ ⟨by omega,by omega⟩];omega
           have wsub2:IntKind.i64.wrap ((ns:Int)-(u:Int))=(m:Int):=by rw[Q0 _ ⟨by omega,by omega⟩];omega
           have wik:IntKind.i64.wrap ((i:Int)-(k:Int))=v:=by rw[Q0 _ ⟨by omega,by omega⟩];exact hv
           rw[hm]at hstep hcl2;have hp2:2 ^ m<=2 ^ 32:=H6 (by omega) hm32;have hpn:2 ^ n<=2 ^ 32:=H6 (by omega) HN.out;obtain⟨xy,hxy⟩:=gn (x*y);have hxy0:0<xy:=by rw[<- hxy];exact Dr (by have:=HX0.out;omega) (by omega)
           have hxp:0<xy*2 ^ m:=Dr hxy0 (Ff (by omega));have dxy':=q0L BX.out by' (by omega)
           rw[hxy]at dxy';have dx:=a0b BX.out (by omega);have dyy:=a0b by' (by omega)
           have PXY:=fun V hV=>hid (g0K V x y dx dyy (by rw[hxy];exact dxy') hV)
           rw[hxy]at hstep hcl2 PXY;have hRP:=ReadsI.put hR v hxp;have HRP:=hid hRP;have HO:=hid hO;have HNN:=hid hnn;have HBL:=hid hbl;have HST:=hid hstep;obtain⟨z,hz⟩:=gn (c2 N D n i s k u v);have HLK:Hid (∀ V,Below wr.heap.size wr V->(Instr.lookup 211 (.map (some B)) (.int .i64 v) false).run Tryz.prog V=.ok (.string (j0j z)) V):=fun V hV=>by
            have:=v0q (HO.out.kept (row:=none) ⟨hV.os,hV.tape,hV.output,hV.size,fun k hk _=>hV.block k hk⟩ (by simp)) hR (m0n (v:=v) (by omega) (by omega));rw[hz]at this;exact this
           rw[hz]at HRP hcl hcl2;have dp:=a0b hp2 (by omega);have dxp:=a0b (i:=32) (show xy*2 ^ m<=2 ^ 32 by omega) (by omega);have dz:=a0b (i:=32) (show z<=2 ^ 32 by omega) (by omega);have ds:=a0b (i:=32) (show z+xy*2 ^ m<=2 ^ 32 by omega) (by omega);have P0:=fun V hV=>HPW V m (by omega) hV
           have P1:=fun V hV=>hid (g0K V xy (2 ^ m) dxy' dp dxp hV)
           have P2:=fun V hV=>hid (f0t V z (xy*2 ^ m) dz dxp ds hV)
           have POR:=fun V g h=>hid (c1f V g z h)
           have hsz:=hid (f0v ds);have hwf:=hid (Kv Z7 (m0n (v:=v) (by omega) (by omega)));obtain⟨sy,hsy⟩:=gn (a0f y);obtain⟨sxy,hsxy⟩:=gn (a0f xy);obtain⟨sp,hsp⟩:=gn (a0f (2 ^ m));obtain⟨sxp,hsxp⟩:=gn (a0f (xy*2 ^ m));obtain⟨sz,hsz1⟩:=gn (a0f z);obtain⟨st,hst⟩:=gn (a0f (z+xy*2 ^ m));obtain⟨cz,hcz⟩:=gn (j0j z);rw[hsy]at A2 q1;rw[HSX.out,hsy,hsxy]at PXY;rw[hsp]at P0;rw[hsxy,hsp,hsxp]at P1;rw[hsz1,hsxp,hst]at P2;rw[hsz1,hcz]at POR;rw[hcz]at HLK;rw[hst]at hsz HRP;clear hu hlt hy by' hy0 hbl hnn hO hR hv hvb hcl hcl2 hgv hstep hm hns hm32 hp2 hpn hxy hxy0 hxp dxy' dx dyy hRP hz dp dxp dz ds hsy hsxy hsp hsxp hsz1 hst hcz
           have lk:=HLK.out wr br0;have C2:Blk (wr.alloc (.cells #[.string cz,.string ⟨#[48]⟩] 23)) wr.heap.size #[.string cz,.string ⟨#[48]⟩] 23:=Blk.new wr #[.string cz,.string ⟨#[48]⟩] 23;have F2:=hid (show Below wr.heap.size wr (wr.alloc (.cells #[.string cz,.string ⟨#[48]⟩] 23)) from br0.alloc nr0 _);have E2:=hid (a0a HBL.out F2.out);go_wp2_with fail;refine (A2 _ hG.out.bel).out.mono ?_;rintro e w2 ⟨rfl,rfl⟩;go_wp2_with fail;refine (POR _ _ C2).out.mono ?_;rintro e w2 ⟨rfl,rfl⟩;clear lk C2;go_wp2_with fail;refine (A1 _ E2.out).out.mono ?_;rintro e w2 ⟨rfl,rfl⟩;go_wp2_with fail;refine (A2 _ E2.out).out.mono ?_;rintro e w2 ⟨rfl,rfl⟩;go_wp2_with fail;refine (PXY _ (LK.out _ E2.out)).out.mono ?_;rintro e w3 ⟨rfl,hb3⟩;have F3:=hid (a0a F2.out hb3);clear hb3;go_wp2_with fail;refine (P0 _ (LK.out _ (a0a HBL.out F3.out))).out.mono ?_;rintro e w4 ⟨rfl,hb4⟩;have F4:=hid (a0a F3.out hb4);clear hb4;go_wp2_with fail;refine (P1 _ (LK.out _ (a0a HBL.out F4.out))).out.mono ?_;rintro e w5 ⟨rfl,hb5⟩;have F5:=hid (a0a F4.out hb5);clear hb5;go_wp2_with fail;refine (P2 _ (LK.out _ (a0a HBL.out F5.out))).out.mono ?_;rintro e w6 ⟨rfl,hb6⟩;have F6:=hid (a0a F5.out hb6);clear hb6;go_wp2_with (at_mapUpdate;refine Lg _ rfl _ _ _ 211 rfl 3 23 (Mh Z7) Jt _ B nn _ rfl (HO.out.kept (row:=none) ⟨F6.out.os,F6.out.tape,F6.out.output,F6.out.size,fun k hk _=>F6.out.block k hk⟩ (by simp)) (by have:=HNN.out;have:=HN.out;have:=IL.out;have:=SL.out;have:=KL.out;have:=UL.out;unfold maxLen;omega) _ _ _ rfl rfl hwf.out _ [] (plainElem_string Ft hsz.out) ?_;intro w7 hown hgrow)
           have OW:=hid hown;have B7:=hid (k0O (a0a HBL.out F6.out) hgrow (by rw[HB.out];exact J4 _));clear hown hgrow HLK;go_roundw
           case rel=>
            refine⟨u+1,by go_num,by have:=UL.out;omega,hid ⟨B7.out,nn+1,_,by have:=HNN.out;omega,OW.out,?_⟩⟩;rw[HST.out];exact HRP.out
           case measure=>simp[intOf]<;>(have:=UL.out;omega)
         .have q2:decide ((s:Int)+(u:Int)<=(n:Int))=false:=by simp;omega
          have e1:u=n-s+1:=by have:=SL.out;omega
          have f5:(u:Int)<=100:=by have:=HN.out;omega
          subst e1;clear hu hlt;have hck:=hid (c1o N D n i s k);go_wp2_with fail;go_roundw
          case rel=>exact⟨k+1,by go_num,by have:=KL.out;omega,hid (hG.out.mono (by have:=HN.out;omega) hck.out)⟩
          case measure=>simp[intOf]<;>(have:=KL.out;omega)
       .have q0:decide ((k:Int)<((n+1:Nat):Int))=false:=by simp;omega
        have dk:decide ((k:Int)<(n:Int)+1)=false:=by simp;omega
        have e1:k=n+1:=by omega
        subst e1;clear hk hlt;have hcs:=hid (c1h N D n i s);go_wp2_with fail;go_roundw
        case rel=>exact⟨s+1,by go_num,by have:=SL.out;omega,hid (hG.out.mono (by have:=HN.out;omega) hcs.out)⟩
        case measure=>simp[intOf]<;>(have:=SL.out;omega)
    .have q0:decide ((s:Int)<((n+1:Nat):Int))=false:=by simp;omega
     have d30:decide ((s:Int)<(n:Int)+1)=false:=by simp;omega
     have e1:s=n+1:=by omega
     subst e1;clear hs hlt;have hrow:=hid (c1p N D n i);go_wp2_with fail;go_roundw
     case rel=>exact⟨i+1,by go_num,by have:=IL.out;omega,hid (hG.out.mono (by have:=HN.out;omega) hrow.out)⟩
     case measure=>simp[intOf]<;>(have:=IL.out;omega)
  .have q0:decide ((i:Int)<((n+1:Nat):Int))=false:=by simp;omega
   have di:decide ((i:Int)<(n:Int)+1)=false:=by simp;omega
   have e1:i=n+1:=by omega
   subst e1;clear hi hlt;obtain⟨hbl,nn,Dm,h1,h2,h3⟩:=hG.out;have HBL:=hid hbl;have H1:=hid h1;have H2:=hid h2;have H3:=hid h3;clear hbl h1 h2 h3;go_wp2_with fail;go_ret
   refine⟨⟨B,nn,Dm,rfl,by rw[<- HB.out];exact B1.out.size,by have:=H1.out;have:=HN.out;omega,H2.out,?_⟩,a0a B1.out HBL.out⟩;have e2:c2 N D n (n+1) 0 0 0=gV N D true n:=funext fun v=>v0J HND.out n v
   rw[<- e2];exact H3.out
open Go.Sort Go.Shelf
def prL (N D:Nat)(two:Bool)(n:Nat)(vs:List Int):List (ByteArray×ByteArray):=vs.map fun v=>(zB v,shB (gV N D two n v) (2 ^ n))
def t0B (N D:Nat)(two:Bool)(n:Nat)(vs:List Int)(v:Int):prL N D two n (vs ++ [v])=prL N D two n vs ++ [(zB v,shB (gV N D two n v) (2 ^ n))]:=by simp[prL]
def t0e {n:Nat}{vs:List Int}(hn:vs.Nodup)(hb:∀ v∈vs,-(n:Int)<=v/\v<=n):vs.length<=2*n+1:=by
 have h:=f0U (fun _=>1) n vs hn hb;have h2:a0k (fun j=>if ((j:Int)-n)∈vs then 1 else 0) (2*n+1)<=a0k (fun _=>1) (2*n+1):=g0u fun j _=>by split<;>omega
 have h3:∀ m,a0k (fun _=>1) m=m:=fun m=>by
  induction m with
  | zero=>rfl
  | succ m ih=>rw[a0k,ih]
 have h4:∀ l:List Int,(l.map fun _=>1).sum=l.length:=fun l=>by
  induction l with
  | nil=>rfl
  | cons a r ih=>rw[Lr,List.sum_cons,ih,U7];omega
 rw[h3]at h2;rw[h4]at h;omega
def l0J {H:Type}(w:World)(a:ByteArray)(n N D:Nat)(two:Bool)(ha:a.size<=100000)(he:gPE a=0)(hn:n<=32)(hN:bN (cW a)=N)(hD:bN (qD a)=D)(hND:N<D)(hL:Lay w):
 Calls Tryz.prog 162 #[.string a,.int .i64 n,.bool two] w fun e w'=>(∃ v,e=.returned (.tuple #[v,.int .i64 0])/\MRow w' v (a0y (glP (gV N D two n) (2 ^ n) n (gL N D two n))))/\Below w.heap.size w w':=by
 have HA:=hid (d0u w a ha hL);rw[J2 he,J2 he,he]at HA;have HLAW:∀ V,Lay V->Hid (Calls Tryz.prog 225 #[.string a,.int .i64 n,.bool two] V fun e w'=>(∃ B nn Dm,e=.returned (.map (some B))/\V.heap.size<=B/\nn<=3000000/\w'.ownsMap Tryz.prog 3 (plainElem (H:=H) Tryz.prog 23) B nn Dm/\ReadsI Dm (gV N D two n))/\Below V.heap.size V w'):=fun V hV=>by
  cases two
  .exact a1b V a n N D ha he hn hN hD hND hV
  .exact a1a V a n N D ha he hn hN hD hND hV
 have HPW:=fun V hV=>hid (i0T V n (by omega) hV)
 have HSL:Hid (∀ vs left,Seen (gV N D two n) n left vs->(vs.map (gV N D two n)).sum<=2 ^ n):=fun vs left h=>h.sum_le hND
 have HSA:Hid (∀ vs left,Seen (gV N D two n) n left vs->(∀ v,left v=false)->2 ^ n-(vs.map (gV N D two n)).sum=gL N D two n):=fun vs left h hl=>h.sum_all hND hl
 have HSP:Hid (∀ vs left,Seen (gV N D two n) n left vs->(∀ v,left v=false)->∀ r,((prL N D two n vs++if r=0 then [] else [(b0o,shB r (2 ^ n))]).map b0B).Nodup/\a0y (prL N D two n vs++if r=0 then [] else [(b0o,shB r (2 ^ n))])=a0y (glP (gV N D two n) (2 ^ n) n r)):=fun vs left h hl r=>h.pairs hND hl
 have HVS:Hid (∀ vs left,Seen (gV N D two n) n left vs->vs.length<=100):=fun vs left h=>by
  have h1:=t0e h.nd fun v hv=>by
   have h1:=((h.mem v).1 hv).1;rcases Fa v (-(n:Int)) with h2 | h2
   .exact absurd (d0v hND (.inl h2)) h1
   .rcases Fa (n:Int) v with h3 | h3
    .exact absurd (d0v hND (.inr h3)) h1
    .exact⟨h2,h3⟩
  omega
 have HOUT:Hid (∀ v,gV N D two n v≠0 -> -100<=v/\v<=100):=fun v h1=>by
  rcases Fa v (-(n:Int)) with h2 | h2
  .exact absurd (d0v hND (.inl h2)) h1
  .rcases Fa (n:Int) v with h3 | h3
   .exact absurd (d0v hND (.inr h3)) h1
   .omega
 have HGV:Hid (∀ v,gV N D two n v<=2 ^ n):=fun v=>k0x hND two n v
 have hpn:2 ^ n<=2 ^ 32:=H6 (by omega) hn;have dT:=a0b hpn (by omega);have hT0:2 ^ n≠0:=Mv (Ff (by omega));have HMK:∀ x,x<=2 ^ n->∀ V,Lay V->Hid (Calls Tryz.prog 215 #[.string (a0f x),.string (a0f (2 ^ n))] V fun e w'=>e=.returned (.tuple #[.string (shB x (2 ^ n)),.int .i64 (c0G (qmk false x (2 ^ n)))])/\Below V.heap.size V w'):=fun x hx V hV=>w0H V x (2 ^ n) (a0b (i:=32) (by omega) (by omega)) dT hT0 hV
 have HSB:∀ x y,y<=x->x<=2 ^ n->∀ V,Lay V->Hid (Calls Tryz.prog 214 #[.string (a0f x),.string (a0f y)] V fun e w'=>e=.returned (.tuple #[.string (a0f (x-y)),.int .i64 0])/\Below V.heap.size V w'):=fun x y hy hx V hV=>w0I V x y (a0b (i:=32) (by omega) (by omega)) (a0b (i:=32) (by omega) (by omega)) hy hV
 have HMK':=hid HMK;have HSB':=hid HSB;obtain⟨cg,hcg⟩:=gn (gV N D two n);obtain⟨gl,hgl⟩:=gn (gL N D two n);obtain⟨pr,hpr⟩:=gn (prL N D two n);have HPR:Hid (∀ vs v,pr (vs ++ [v])=pr vs ++ [(zB v,shB (cg v) (2 ^ n))]):=fun vs v=>by rw[<- hpr,<- hcg];exact t0B N D two n vs v
 have HPL:Hid (∀ vs,(pr vs).length=vs.length):=fun vs=>by rw[<- hpr];unfold prL;rw[Dl]
 have HP0:Hid (pr [] = []):=by show pr [] = [];rw[<- hpr];rfl
 rw[hcg]at HSL HSA HSP HVS HOUT HGV;rw[hpr]at HSP;rw[hgl]at HSA;simp only[hcg]at HLAW;rw[hcg,hgl];obtain⟨T,hT⟩:=gn (2 ^ n);obtain⟨sT,hsT⟩:=gn (a0f T);rw[hT]at HPW HSL HSA HSP HGV HMK' HSB' HPR hT0 |-;rw[hsT]at HPW;simp only[hsT]at HMK';have HST:=hid hsT;have HT0:=hid hT0;have HLy:=hid hL;have q0:decide ((n:Int)<0)=false:=by simp
 have q1:decide ((32:Int)<(n:Int))=false:=by simp;omega
 obtain⟨i0,hi,hz0,hz1,hz2⟩:=Dj g0V;clear ha he hn hN hD hND hL hcg hgl hpr hT hsT hpn dT hT0 HMK HSB;go_enter Tryz.func162,Tryz.ntmps162;go_wp2_with fail;refine HA.out.mono ?_;rintro e w1 ⟨rfl,hb1⟩;have B1:=hid hb1;clear hb1 HA;go_wp2_with fail;refine (HPW _ (HLy.out.call B1.out)).out.mono ?_;rintro e w2 ⟨rfl,hb2⟩;have B2:=hid (a0a B1.out hb2);clear hb2;go_wp2_with fail;refine (HLAW _ (HLy.out.call B2.out)).out.mono ?_;rintro e w3 ⟨⟨B,nn,Dm,rfl,hBs,hnn,hown,hR⟩,hb3⟩;have B3:=hid (a0a B2.out hb3);have HR:=hid hR;clear hb3 hBs hnn hR HLAW;go_wp2_with (first | (at_range;refine wpList_range_own _ rfl _ 211 rfl 3 23 (Mh Z7) Jt _ B nn Dm rfl hown ?_;intro w4 hrg0 hg0 hs0) | go_in)
 go_frame
 have B4:Hid (Below w.heap.size w w4):=B3.out.trans ⟨hg0.os,hg0.tape,hg0.output,hg0.size,fun k hk=>hg0.block k (by have:=B3.out.size;omega) (by simp)⟩;obtain⟨r,hr⟩:=gn (w3.heap.size);rw[hr]at hrg0 |-;have Hr:Hid (w.heap.size<=r/\r<w4.heap.size/\B<w4.heap.size):=⟨by rw[<- hr];exact B3.out.size,hrg0.lt,hrg0.owns.lt⟩;have S0:Hid (Seen cg n (fun v=>Maps.has Dm (.int .i64 v)) []):=Seen.start fun v hv=>by rw[HR.out.has];simpa using hv
 have RG:=hid hrg0;clear hrg0 hg0 hs0 hown hr
 go_loopw [11,12] (fun s11 s12 wr=>∃ (left:Lit->Bool) (cnt:Nat) (vs:List Int),Hid (wr.ranges Tryz.prog 3 (plainElem Tryz.prog 23) B r nn Dm left cnt)/\Hid (Seen cg n (fun v=>left (.int .i64 v)) vs)/\s12=.string (a0f (T-(vs.map cg).sum))/\Hid (wr.ownsRow w4.heap.size 42 2 s11 vs.length (a0O (pr vs)))/\Hid (w4.heap.size<=wr.heap.size)/\Hid (Below w.heap.size w wr)) (fun s11 s12 wr=>wr.rangeLeft B r)
 case atStart=>exact⟨_,_,[],RG,S0,by simp[HST.out],hid (by rw[HP0.out];exact⟨rfl,.inl ⟨rfl,rfl⟩⟩),hid nr0,B4⟩
 case round=>
  clear RG S0 B4;obtain⟨left,cnt,vs,hrg,hS,rfl,hO,hW,hBl⟩:=hrel;obtain⟨ar,cr,rfl⟩:=b0i hO.out
  go_wp2_with (first
   | (at_next;refine wpList_next_ranges_is _ rfl _ rfl 3 23 .i64 (Mh Z7) Z7 Ft B r nn _ _ _ rfl hrg.out ?_ ?_)
   | go_in)
  .intro _ hl0;have hl1:∀ v,(fun v=>left (.int .i64 v)) v=false:=fun v=>hl0 _
   have hrest:=HSA.out vs _ hS.out hl1;obtain⟨hnd,hsort⟩:=HSP.out vs _ hS.out hl1 gl;have hvl:=HVS.out vs _ hS.out;have hgT:gl<=T:=by omega
   rw[hrest];have HND:=hid hnd;have HSO:=hid hsort;have HVL:=hid hvl;have P1:=fun V hV=>HMK'.out gl hgT V hV
   obtain⟨L,hL⟩:=gn (pr vs);have hLl:=HPL.out vs;rw[hL]at hO HND HSO hLl;rw[<- hLl]at hO hvl |-;have hpos:0<(L++if gl=0 then [] else [(b0o,shB gl T)]).length:=by
    rw[Z4]
    split
    .rename_i h0
     have:vs ≠ []:=fun e=>by subst e;simp at hrest;have:=HT0.out;omega
     have:=Fv.2 this;simp;omega
    .simp
   have HPOS:=hid hpos;clear hl0 hl1 hrest hnd hsort hS hrg hgT hL hLl hpos HVL;obtain⟨sg,hsg⟩:=gn (a0f gl);rw[hsg]at P1 |-;have HSG:=hid hsg;clear hsg;obtain⟨tb0,htb⟩:=gn ((sg.toList == [48]))
   go_upto_if 67 with fail
   have HTB:=hid htb;clear htb
   go_cut [11] (fun s11 wx=>∃ k,k=(L++if gl=0 then [] else [(b0o,shB gl T)]).length/\wx.ownsRow w4.heap.size 42 2 s11 k (a0O (L++if gl=0 then [] else [(b0o,shB gl T)]))/\w4.heap.size<=wx.heap.size/\Below w.heap.size w wx)
   case first=>
    by_cases h0:gl=0
    .have e1:L++(if gl=0 then [] else [(b0o,shB gl T)])=L:=by rw[J2 h0,Dn]
     have q3:(sg.toList == [48])=true:=by rw[<- HSG.out,h0,a0p];exact c0l
     obtain rfl:true=tb0:=by rw[<- HTB.out];exact q3.symm
     have HE1:=hid e1;clear h0 e1 q3;go_wp2_with fail
     go_meet
     exact⟨_,rfl,by rw[HE1.out];exact hO.out,hW.out,hBl.out⟩
    .have e1:L++(if gl=0 then [] else [(b0o,shB gl T)])=L ++ [(b0o,shB gl T)]:=by rw[U0 h0]
     have q3:(sg.toList == [48])=false:=by rw[<- HSG.out];exact a0L (l:=[48]) (by rw[<- a0p];exact b0M h0)
     obtain rfl:false=tb0:=by rw[<- HTB.out];exact q3.symm
     have HE1:=hid e1;obtain⟨sh,hsh⟩:=gn (shB gl T);rw[hsh]at P1;have HSH:=hid hsh;clear hsh h0 e1 q3;go_wp2_with fail;refine (HPW _ (HLy.out.call hBl.out)).out.mono ?_;rintro e w5 ⟨rfl,hb5⟩;have B5:=hid (a0a hBl.out hb5);have O5:=hid (a0Q hO.out hb5);have W5:=hid (O0 hW.out hb5.size);clear hb5;go_wp2_with fail;refine (P1 _ (HLy.out.call B5.out)).out.mono ?_;rintro e w6 ⟨rfl,hb6⟩;have B6:=hid (a0a B5.out hb6);have O6:=hid (a0Q O5.out hb6);have W6:=hid (O0 W5.out hb6.size);clear hb6;have hw6:=W6.out;obtain⟨hr0,hr1,hr2⟩:=Hr.out;go_wp2_with (at_builtin;refine Bw _ rfl _ _ 37 rfl w4.heap.size 42 i0 (.agg #[.string ⟨#[]⟩,.string ⟨#[]⟩]) 2 32 Av hi hz0 hz1 hz2 rfl (by decide) _ L.length _ rfl (O6.out.alloc _) ⟨w6.heap.size,0,none⟩ 1 1 [.string ⟨#[108,97,116,101]⟩,.string sh] rfl rfl (cell_two_new w6 (.string ⟨#[108,97,116,101]⟩) (.string sh) 42) (by simp[Value.oneCell']) (by unfold maxLen;omega) (by omega) (by simp;omega) ?_;intro v' w7 hown7 hgrow7 _)
     have O7:=hid hown7;have B7:Hid (Below w.heap.size w w7):=B6.out.trans (br0.alloc nr0 _ |>.mono (by have:=B6.out.size;omega) |>.trans ⟨hgrow7.os,hgrow7.tape,hgrow7.output,hgrow7.size,fun k hk=>hgrow7.block k (by have:=B6.out.size;simp;omega) (fun e=>by have:=(O6.out.lt k e.symm).1;omega)⟩);have W7:=hid (show w4.heap.size<=w7.heap.size by have:=hgrow7.size;simp at this;omega);clear hown7 hgrow7 hw6 hr0 hr1 hr2;go_wp2_with fail
     go_meet
     refine⟨_,rfl,?_,W7.out,B7.out⟩;rw[HE1.out,Z4,b0l,HSH.out];exact O7.out
   case rest=>
    obtain⟨k,rfl,hOx,hWx,hBx⟩:=hcut;have HB:=hid hBx;obtain⟨d,hd⟩:=gn ((L++if gl=0 then [] else [(b0o,shB gl T)]));rw[hd]at hOx HND HSO HPOS;have hdl:d.length<=1000:=by rw[<- hd,Z4];split<;>simp<;>omega
    rcases hOx.2 with ⟨_,h0⟩ | ⟨g,cap,cur,rfl,hgb,hg,h1,h2,h3,h4⟩
    .have:=HPOS.out;omega
    .have hSM:=p0T 226 g cap w4.heap.size d.toArray wc cur hgb hg (by simpa using h1) h2 h3 (by simpa[a0Y]using h4) (by simpa using hdl) (by simpa using HND.out) (Ch Tryz.func226 (by kernel_rfl) rfl) (fun x y W=>x0u x y W);simp only[Ae]at hSM;have HSM:=hid hSM;clear hd hdl hSM hOx hWx hBx h1 h2 h3 h4 hg;go_wp2_with fail;refine HSM.out.mono ?_;rintro e w8 ⟨rfl,ho8,hb8⟩;have B8:Hid (Below w.heap.size w w8):=HB.out.trans (hb8.mono (by have:=Hr.out.1;have:=Hr.out.2.1;omega));have M8:=hid (MRow.of_owns ho8);clear ho8 hb8;go_wp2_with fail;go_ret2
     refine⟨⟨_,rfl,?_⟩,B8.out⟩;rw[<- HSO.out];exact M8.out
  .intro x c w5 cnt1 hwx hwc hlx hat hrg1 hlt hg1 hs1 hen;have hxc:cg x≠0:=by
    have h1:=has_true_of_atKey hat;rw[HR.out.has]at h1;simpa using h1
   have hcx:c=a0f (cg x):=by
    have h1:=(HR.out.look x hxc (.lit (.string []))).symm.trans (hat (.lit (.string [])));simp only[Mi,Lit.string.injEq]at h1;exact (b0c h1).symm
   subst hcx;have hS1:=Seen.step (left':=fun v=>(fun z=>left z && !z.sameKey (.int .i64 x)) (.int .i64 v)) hS.out (x:=x) hlx hxc (fun v=>by simp only[l0f]);have hsum:=HSL.out _ _ hS1;have hsum1:((vs ++ [x]).map cg).sum=(vs.map cg).sum+cg x:=by simp
   rw[hsum1]at hsum;have hvl:=HVS.out _ _ hS1;rw[Z4,H7]at hvl;have hxb:=HOUT.out x hxc;have P1:=fun V hV=>HMK'.out (cg x) (HGV.out x) V hV
   have P2:=fun V hV=>HSB'.out (T-(vs.map cg).sum) (cg x) (by omega) (by omega) V hV
   have PI:=fun V hV=>hid (w0k V x (by omega) (by omega) hV)
   have HNX:Hid (T-(vs.map cg).sum-cg x=T-((vs ++ [x]).map cg).sum):=by show _=_;rw[hsum1];omega
   have hb5:Below w.heap.size w w5:=hBl.out.trans ⟨hg1.os,hg1.tape,hg1.output,hg1.size,fun k hk=>hg1.block k (by have:=hBl.out.size;omega) (fun e=>by have:=Hr.out.1;injection e with e;omega)⟩;have hO5:w5.ownsRow w4.heap.size 42 2 (.slice ar vs.length cr) vs.length (a0O (pr vs)):=hO.out.kept hg1 (.inr fun e=>by have:=(hO.out.lt r e).1;have:=Hr.out.2.1;omega);have B5:=hid hb5;have O5:=hid hO5;have RG1:=hid hrg1;have HS1:=hid hS1;have HLT:=hid hlt;have W5:=hid (show w4.heap.size<=w5.heap.size by have:=hW.out;omega);have HRG:=hid hrg.out;rw[HNX.out]at P2;obtain⟨s1,hs1'⟩:=gn (a0f (T-(vs.map cg).sum));obtain⟨s2,hs2⟩:=gn (a0f (cg x));obtain⟨s3,hs3⟩:=gn (a0f (T-((vs ++ [x]).map cg).sum));obtain⟨s4,hs4⟩:=gn (shB (cg x) T);obtain⟨s5,hs5⟩:=gn (zB x);rw[hs1',hs2,hs3]at P2;rw[hs2,hs4]at P1;rw[hs5]at PI;rw[hs2]at hen hwc;rw[hs1',hs2];have HS3:=hid hs3;have HS4:=hid hs4;have HS5:=hid hs5;have HVL:=hid hvl;clear hlx hat hrg1 hlt hg1 hs1 hxc hS1 hsum hsum1 hvl hxb hb5 hO5 hs1' hs2 hs3 hs4 hs5 hrg hS hO hW hBl;go_wp2_with fail;refine (HPW _ (HLy.out.call B5.out)).out.mono ?_;rintro e w6 ⟨rfl,hb6⟩;have B6:=hid (a0a B5.out hb6);have O6:=hid (a0Q O5.out hb6);have R6:=hid (RG1.out.kept (row:=none) ⟨hb6.os,hb6.tape,hb6.output,hb6.size,fun k hk _=>hb6.block k hk⟩ (by simp) (by simp));have W6:=hid (O0 W5.out hb6.size);clear hb6 hen;go_wp2_with fail;refine (P1 _ (HLy.out.call B6.out)).out.mono ?_;rintro e w7 ⟨rfl,hb7⟩;have B7:=hid (a0a B6.out hb7);have O7:=hid (a0Q O6.out hb7);have R7:=hid (R6.out.kept (row:=none) ⟨hb7.os,hb7.tape,hb7.output,hb7.size,fun k hk _=>hb7.block k hk⟩ (by simp) (by simp));have W7:=hid (O0 W6.out hb7.size);clear hb7;go_wp2_with fail;refine (PI _ (HLy.out.call B7.out)).out.mono ?_;rintro e w8 ⟨rfl,hb8⟩;have B8:=hid (a0a B7.out hb8);have O8:=hid (a0Q O7.out hb8);have R8:=hid (R7.out.kept (row:=none) ⟨hb8.os,hb8.tape,hb8.output,hb8.size,fun k hk _=>hb8.block k hk⟩ (by simp) (by simp));have W8:=hid (O0 W7.out hb8.size);clear hb8;have hw8:=W8.out;obtain⟨hr0,hr1,hr2⟩:=Hr.out;have hvl:=HVL.out;go_wp2_with (at_builtin;refine Bw _ rfl _ _ 37 rfl w4.heap.size 42 i0 (.agg #[.string ⟨#[]⟩,.string ⟨#[]⟩]) 2 32 Av hi hz0 hz1 hz2 rfl (by decide) _ vs.length _ rfl (O8.out.alloc _) ⟨w8.heap.size,0,none⟩ 1 1 [.string s5,.string s4] rfl rfl (cell_two_new w8 (.string s5) (.string s4) 42) (by simp[Value.oneCell']) (by unfold maxLen;omega) (by omega) (by simp;omega) ?_;intro v' w9 hown9 hgrow9 _)
   have O9:=hid hown9;have B9:Hid (Below w.heap.size w w9):=B8.out.trans (br0.alloc nr0 _ |>.mono (by have:=B8.out.size;omega) |>.trans ⟨hgrow9.os,hgrow9.tape,hgrow9.output,hgrow9.size,fun k hk=>hgrow9.block k (by have:=B8.out.size;simp;omega) (fun e=>by have:=(O8.out.lt k e.symm).1;omega)⟩);have R9:=hid ((R8.out.alloc (.cells #[.string s5,.string s4] 42)).kept hgrow9 (fun e=>by have:=(O8.out.lt B e.symm).1;omega) (fun e=>by have:=(O8.out.lt r e.symm).1;omega));have W9:=hid (show w4.heap.size<=w9.heap.size by have:=hgrow9.size;simp at this;omega);clear hown9 hgrow9 hw8 hr0 hr1 hr2 hvl;go_wp2_with fail;refine (P2 _ (HLy.out.call B9.out)).out.mono ?_;rintro e w10 ⟨rfl,hb10⟩;have B10:=hid (a0a B9.out hb10);have O10:=hid (a0Q O9.out hb10);have R10:=hid (R9.out.kept (row:=none) ⟨hb10.os,hb10.tape,hb10.output,hb10.size,fun k hk _=>hb10.block k hk⟩ (by simp) (by simp));have W10:=hid (O0 W9.out hb10.size);clear hb10;go_wp2_with fail;go_roundw
   case rel=>
    refine⟨_,cnt1,vs ++ [x],R10,HS1,by rw[HS3.out],hid ?_,W10,B10⟩;rw[Z4,H7,HPR.out,b0l,HS4.out,HS5.out];exact O10.out
   case measure=>rw[R10.out.left_eq,HRG.out.left_eq];exact HLT.out
end
section
open Go.RowKit
open Go.Lib (decDigits nDigits)
def glR (a:ByteArray)(n:Int)(two:Bool):List (ByteArray×ByteArray):=if glE a n 32=0 then a0y (glP (gV (bN (cW a)) (bN (qD a)) two n.toNat) (2 ^ n.toNat) n.toNat (gL (bN (cW a)) (bN (qD a)) two n.toNat)) else []
def u0n (w:World)(a:ByteArray)(n:Int)(two:Bool)(ha:a.size<=100000)(hL:Lay w):
 Calls Tryz.prog 162 #[.string a,.int .i64 n,.bool two] w fun e w'=>(∃ v,e=.returned (.tuple #[v,.int .i64 (glE a n 32)])/\MRow w' v (glR a n two))/\Below w.heap.size w w':=by
 by_cases he:gPE a=0
 focus
  by_cases hn:n<0\/32<n
  focus
   have e1:glE a n 32=2:=by unfold glE;rw[U0 (by rw[he];simp),J2 hn]
   have e2:glR a n two = []:=by unfold glR;rw[U0 (by rw[e1];decide)]
   rw[e1,e2];have HA:=hid (d0u w a ha hL);rw[J2 he,J2 he,he]at HA;obtain⟨b1,k1⟩:=gn (decide (n<0));obtain⟨b2,k2⟩:=gn (decide (32<n));have k3:(b1 || b2)=true:=by rw[<- k1,<- k2];simpa using hn
   clear ha hL he hn e1 e2;cases b1
   focus
    obtain rfl:b2=true:=by simpa using k3
    clear k3
   rotate_left
   focus
    clear k2 k3
  rotate_left 2
  .obtain⟨m,rfl⟩:∃ m:Nat,n=(m:Nat):=⟨n.toNat,by omega⟩;have e1:glE a (m:Nat) 32=0:=by unfold glE;rw[U0 (by rw[he];simp),U0 hn]
   have hND:=(c0h he).2;have:=l0J (H:=Unit) w a m _ _ two ha he (by omega) rfl rfl hND hL;unfold glR;rw[J2 e1,e1,Be];exact this
 rotate_left 2
 focus
  have e1:glE a n 32=gPE a:=by unfold glE;rw[J2 he]
  have e2:glR a n two = []:=by unfold glR;rw[U0 (by rw[e1];exact he)]
  rw[e1,e2];have HA:=hid (d0u w a ha hL);rw[U0 he,U0 he]at HA;obtain⟨x,hx⟩:=gn (gPE a);rw[hx]at HA he |-;have x0:(x != 0)=true:=by simpa using he
  clear ha hL he hx e1 e2
 all_goals
  go_enter Tryz.func162,Tryz.ntmps162;go_wp2_with fail;refine HA.out.mono ?_;rintro e w1 ⟨rfl,hb1⟩;have B1:=hid hb1;clear hb1 HA;go_wp2_with fail;go_ret2
  exact⟨⟨_,rfl,MRow.nil _⟩,B1.out⟩
def u0o (w:World)(a:ByteArray)(n:Int)(ha:a.size<=100000)(hL:Lay w):
 Calls Tryz.prog 182 #[.string a,.int .i64 n] w fun e w'=>(∃ v,e=.returned (.tuple #[v,.int .i64 (glE a n 32)])/\MRow w' v (glR a n false))/\Below w.heap.size w w':=by
 have H:=hid (u0n w a n false ha hL);obtain⟨o,ho⟩:=gn (glR a n false);obtain⟨x,hx⟩:=gn (glE a n 32);rw[ho,hx]at H |-;clear ha hL ho hx;go_enter Tryz.func182,Tryz.ntmps182;go_wp2_with fail;refine H.out.mono ?_;rintro e w1 ⟨⟨v,rfl,hv⟩,hb1⟩;have B1:=hid hb1;have V1:=hid hv;clear hb1 hv;go_wp2_with fail;go_ret2
 exact⟨⟨_,rfl,V1.out⟩,B1.out⟩
open Go.Shelf Go.Maps
def u0Z {H:Type}(g o n c:Nat):DataW H:=.agg [.lit (.int .i64 g),.lit (.int .i64 o),.lit (.int .i64 n),.lit (.int .i64 c)]
def p0f {H:Type}(v:Value):Option (DataW H×List MemPlace):=match v with
 | .slice none 0 0=>some (.lit (.bool false),[])
 | .slice (some ⟨g,o,none⟩) n c=>some (u0Z g o n c,[])
 | _=>none
def s0V {H:Type}{v:Value}{ps:List MemPlace}(h:p0f (H:=H) v=some (.lit (.bool false),ps)):v=.slice none 0 0:=by
 unfold p0f at h
 split at h
 .rfl
 .simp[u0Z]at h
 .cases h
def s0U {H:Type}{v:Value}{g o n c:Nat}{ps:List MemPlace}(h:p0f (H:=H) v=some (u0Z g o n c,ps)):v=.slice (some ⟨g,o,none⟩) n c:=by
 unfold p0f at h
 split at h
 .simp[u0Z]at h
 .simp only[u0Z,Ad,Ha,DataW.agg.injEq,List.cons.injEq,Mi,Lit.int.injEq,true_and,and_true,Int.ofNat_inj,Int.natCast_inj]at h;obtain⟨⟨rfl,rfl,rfl,rfl⟩,-⟩:=h
  rfl
 .cases h
structure NoiS (H:Type)(w:World)(bx bm bp:Nat)(g:Int->Nat)(n:Nat):Prop where
 x:Blk w bx #[.slice (some ⟨bp,0,none⟩) (n+1) (n+1),.map (some bm)] 109
 p:Blk w bp (d0k (prT g n)).toArray 23
 m:w.ownsMap Tryz.prog 3 (p0f (H:=H)) bm 0 (.map [])\/∃ gs cs,w.ownsMap Tryz.prog 3 (p0f (H:=H)) bm 1 ((DataW.map []).put (.int .i64 ((n+1:Nat):Int)) (u0Z gs 0 (n+2) cs))/\w.ownsRow 0 23 1 (.slice (some ⟨gs,0,none⟩) (n+2) cs) (n+2) (d0k (cmL g n (n+1)))/\gs≠bm
theorem NoiS.call {H:Type}{w w':World}{bx bm bp:Nat}{g:Int->Nat}{n:Nat}(h:NoiS H w bx bm bp g n)(hb:Below w.heap.size w w'):NoiS H w' bx bm bp g n:=by
 refine⟨h.x.call hb,h.p.call hb,?_⟩;rcases h.m with h1 | ⟨gs,cs,h1,h2,h3⟩
 .exact .inl (h1.kept (a0T hb none) (by simp))
 .exact .inr ⟨gs,cs,h1.kept (a0T hb none) (by simp),a0Q h2 hb,h3⟩
theorem NoiS.grown {H:Type}{w w':World}{bx bm bp:Nat}{g:Int->Nat}{n:Nat}{row:Option Nat}(h:NoiS H w bx bm bp g n)(hg:w.grownBy w' row)(hrow:∀ r,row=some r->∃ cur,w.heap[r]?=some (.cells cur 42 (0,0))):NoiS H w' bx bm bp g n:=by
 have key:∀ (b:Nat) (cs:Array Value) (t:TypeId),Blk w b cs t->t≠42->row≠some b:=fun b cs t hb ht e=>by
  obtain⟨cur,h1⟩:=hrow b e;have h2:=(show w.heap[b]? = _ from hb).symm.trans h1;simp only[Ad,Obj.cells.injEq]at h2;exact ht h2.2.1
 have kmap:∀ {m:Nat} {D:DataW H},w.ownsMap Tryz.prog 3 (p0f (H:=H)) bm m D->some bm≠row:=fun hm e=>by
  obtain⟨cur,h1⟩:=hrow bm e.symm;obtain⟨es,ck,h2,-⟩:=hm;rw[h2]at h1;cases h1
 refine⟨h.x.grown hg (key _ _ _ h.x (by decide)),h.p.grown hg (key _ _ _ h.p (by decide)),?_⟩;rcases h.m with h1 | ⟨gs,cs,h1,h2,h3⟩
 .exact .inl (h1.kept hg (kmap h1))
 .refine .inr ⟨gs,cs,h1.kept hg (kmap h1),h2.kept hg (.inr fun e=>?_),h3⟩;simp only[Value.ownBlock]at e;obtain⟨cur,h4⟩:=hrow gs e.symm;rcases h2.2 with ⟨e1,_⟩ | ⟨g',cap',cur',e1,-,hgb,-⟩
  .simp at e1
  .simp at e1;obtain⟨rfl,rfl⟩:=e1;rw[hgb]at h4;simp at h4
def z0X {a:ByteArray}{n:Nat}(he:gPE a=0)(hn:n<=32)(two:Bool):glE a (n:Nat) 32=0/\glR a (n:Nat) two=a0y (glP (gV (bN (cW a)) (bN (qD a)) two n) (2 ^ n) n (gL (bN (cW a)) (bN (qD a)) two n)):=by
 have e1:glE a (n:Nat) 32=0:=by unfold glE;rw[U0 (by rw[he];simp),U0 (by omega)]
 exact⟨e1,by unfold glR;rw[J2 e1,Be]⟩
def a1f {N D:Nat}(h:N<D)(two:Bool)(n:Nat):gL N D two n<=2 ^ n:=by
 have:=n0i h two n;omega
def z0Y {g:Int->Nat}{n r:Nat}(hn:n<=1000)(hg:∀ v,g v<=2 ^ n)(hr:r<=2 ^ n)(p:ByteArray×ByteArray)(hp:p∈a0y (glP g (2 ^ n) n r)):p.2≠⟨#[48]⟩:=by
 rw[b0D,d0t]at hp;rcases hp with ⟨v,-,-,h3,rfl⟩ | ⟨h3,rfl⟩
 .exact fun e=>h3 ((h0S (hg v) hn).1 e)
 .exact fun e=>h3 ((h0S hr hn).1 e)
def f0D {w w':World}{b i:Nat}(h:w'.heap[b]?=w.heap[b]?):w'.cell? ⟨b,i,none⟩=w.cell? ⟨b,i,none⟩:=by
 unfold World.cell?;rw[h]
def l0O {H:Type}(w:World)(a:ByteArray)(n:Nat)(ha:a.size<=100000)(he:gPE a=0)(hn:n<=32)(hL:LayB w):
 Calls Tryz.prog 92 #[.string a,.int .i64 (n:Nat)] w fun e w'=>(∃ bx bm bp,e=.returned (.pointer (some ⟨bx,0,none⟩))/\w.heap.size<=bm/\NoiS H w' bx bm bp (gV (bN (cW a)) (bN (qD a)) false n) n)/\Below w.heap.size w w':=by
 obtain⟨e1,e2⟩:=z0X (n:=n) he hn false;have hg:∀ v:Int,v<0->gV (bN (cW a)) (bN (qD a)) false n v=0:=fun v hv=>f0i n hv
 have PO:=fun V hV=>hid (u0o V a (n:Nat) ha hV)
 rw[e1,e2]at PO;have hrle:=a1f (c0h he).2 false n;have hgle:=fun v=>k0x (c0h he).2 false n v
 obtain⟨r,hr⟩:=gn (gL (bN (cW a)) (bN (qD a)) false n);rw[hr]at PO hrle;obtain⟨g,hgg⟩:=gn (gV (bN (cW a)) (bN (qD a)) false n);rw[hgg]at PO hg hgle |-;have HNZ:Hid (∀ p∈a0y (glP g (2 ^ n) n r),p.2≠⟨#[48]⟩):=fun p hp=>z0Y (by omega) hgle hrle p hp
 have HMS:=hid (fun p hp=>w0U (g:=g) (n:=n) (r:=r) hg (p:=p) hp);have HALL:=hid (w0X (g:=g) (n:=n) (r:=r) hg);obtain⟨L,hLL⟩:=gn (a0y (glP g (2 ^ n) n r));rw[hLL]at PO HMS HALL HNZ;have HT1:=hid (fun v (hv:v<=n) ks=>w0V g (n:=n) (v:=v) hv ks);have HT2:=hid (fun ks=>t0K g n ks);have HT0:=hid (w0W g n);have HLY:=hid hL;have HN:=hid hn;have PR:=fun V g0 hc=>hid (e0z V g0 (n+1) ⟨#[48]⟩ (by omega) (by omega) hc)
 have PA:=fun V i (h:i<=1000000)=>hid (y0v V i h)
 have PL:=fun V h=>hid (y0w V h)
 have wn:IntKind.i64.wrap ((n:Int)+1)=(n:Int)+1:=by rw[Q0 _ ⟨by omega,by omega⟩]
 have hmm:=@run_makeMap Tryz.prog;have c0:(w.alloc (.cells #[.string ⟨#[48]⟩] 23)).cell? ⟨w.heap.size,0,none⟩=some (.string ⟨#[48]⟩):=(Blk.new w #[.string ⟨#[48]⟩] 23).cell 0;clear e1 e2 hg hr hgg hLL hL ha he hn hrle hgle;go_enter Tryz.func92,Tryz.ntmps92;go_wp2_with fail;refine (PR _ _ c0).out.mono ?_;rintro e w1 ⟨rfl,hbk,hb1⟩;have y1:=hid (((Z3 w.heap.size w).alloc nr0 (.cells #[.string ⟨#[48]⟩] 23)).trans (hb1.mono (by simp)));have esz:(w.alloc (.cells #[.string ⟨#[48]⟩] 23)).heap.size=w.heap.size+1:=by simp
 rw[esz]at hbk |-;obtain⟨bp,hbp⟩:=gn (w.heap.size+1);rw[hbp]at hbk |-;have HBP:Hid (w.heap.size<=bp/\bp<w1.heap.size):=⟨by omega,hbk.lt⟩;have P1:Hid (Blk w1 bp (d0k (nzT g n (ksL L 0))).toArray 23):=by
  show Blk _ _ _ _
  rw[n0a,HT0.out];exact hbk
 clear hb1 hbk hbp c0 PR;go_wp2_with fail;have X2:=hid (Blk.made (w1.alloc (.map #[] 0)) #[.slice (some ⟨bp,0,none⟩) (n+1) (n+1),.map (some w1.heap.size)] 109 (n:=w1.heap.size+1) (by simp));have M2:Hid (((w1.alloc (.map #[] 0)).alloc (.cells #[.slice (some ⟨bp,0,none⟩) (n+1) (n+1),.map (some w1.heap.size)] 109)).ownsMap Tryz.prog 3 (p0f (H:=H)) w1.heap.size 0 (.map [])):=(Na w1 Tryz.prog 3 p0f).alloc _;have P2:=hid ((P1.out.alloc (.map #[] 0)).alloc (.cells #[.slice (some ⟨bp,0,none⟩) (n+1) (n+1),.map (some w1.heap.size)] 109));have y2:=hid ((y1.out.alloc y1.out.size (.map #[] 0)).alloc (y1.out.alloc y1.out.size _).size (.cells #[.slice (some ⟨bp,0,none⟩) (n+1) (n+1),.map (some w1.heap.size)] 109));obtain⟨w2,hw2⟩:=gn ((w1.alloc (.map #[] 0)).alloc (.cells #[.slice (some ⟨bp,0,none⟩) (n+1) (n+1),.map (some w1.heap.size)] 109));have HBM:Hid (w.heap.size<=w1.heap.size):=y1.out.size;have hne:Hid (bp≠w1.heap.size/\bp≠w1.heap.size+1):=by have:=HBP.out;exact⟨by omega,by omega⟩
 obtain⟨bm,hbm⟩:=gn (w1.heap.size);rw[hw2]at X2 M2 P2 y2 |-;rw[hbm]at X2 M2 HBM hne |-;clear hw2 hbm P1 y1;refine (PO _ (HLY.out.call y2.out).l).out.mono ?_;rintro e w3 ⟨⟨v,rfl,hv⟩,hb3⟩;have X3:=hid (X2.out.call hb3);have M3:=hid (M2.out.kept (a0T hb3 none) (by simp));have P3:=hid (P2.out.call hb3);have y3:=hid (a0a y2.out hb3);have HV:=hid hv;obtain⟨a1,c1,rfl,k1,k2,k3⟩:=hv.ex;have K3:=hid k3;clear hb3 hv k3 X2 M2 P2 y2 PO;obtain⟨N,hN⟩:=gn (L.length);rw[hN]at k1 HV |-;have HNL:=hid hN;clear hN;go_wp2_with fail
 go_loopw [9,10,11,27] (fun s9 s10 s11 s27 wr=>∃ j:Nat,s27=.int .i64 (j:Nat)/\j<=N/\Hid (Blk wr bp (d0k (nzT g n (ksL L j))).toArray 23)/\Hid (Blk wr (bm+1) #[.slice (some ⟨bp,0,none⟩) (n+1) (n+1),.map (some bm)] 109)/\Hid (wr.ownsMap Tryz.prog 3 (p0f (H:=H)) bm 0 (.map []))/\Hid (w3.heap.size<=wr.heap.size)/\Hid (Below w.heap.size w wr)/\Hid (∀ k<w3.heap.size,k≠bp->wr.heap[k]?=w3.heap[k]?)) (fun s9 s10 s11 s27 wr=>N-(intOf s27).toNat)
 case atStart=>exact⟨0,rfl,S4 _,P3,X3,M3,hid nr0,y3,fun k hk _=>rfl⟩
 case round=>
  obtain⟨j,rfl,hj,hP,hX,hM,hsz3,hB,hK⟩:=hrel;by_cases hlt:j<N
  .obtain⟨p,hp⟩:∃ p,L[j]?=some p:=⟨_,List.getElem?_eq_getElem (by rw[HNL.out];exact hlt)⟩;obtain⟨g9,o9,rfl,hg9,m1,m2⟩:=K3.out j p hp;have hcase:=HMS.out p (List.mem_of_getElem? hp);have hks:=hid (u0f hp);obtain⟨pk,pv⟩:=p;dsimp only at m1 m2 hks hcase;rw[Nat.mul_comm 2]at m1 m2;have hne9:g9≠bp:=fun e=>by
    subst e;have h1:=P3.out.cell (o9+j*2+1);rw[m2]at h1;have h2:=h1.symm;rw[n0a,HT0.out,J5]at h2;have h3:=C7 h2;simp only[d0k,Jp]at h3;have h4:=Iu h3;injection h4 with h4
    exact HNZ.out _ (C7 hp) h4
   have r1:=(f0D (hK.out g9 hg9 hne9)).trans m1;have r2:=(f0D (hK.out g9 hg9 hne9)).trans m2;have b1:(0:Int)<=(j:Int):=by omega
   have b2:(j:Int)<(N:Int):=by omega
   have wj:IntKind.i64.wrap ((j:Int)+1)=((j+1:Nat):Int):=by have:=k1;rw[Q0 _ ⟨by omega,by omega⟩];omega
   have HP:=hid hp;clear m1 m2 hg9 hne9 hp;go_wp2_with fail;have X1:=hid (Blk.new wr #[.string pk,.string pv] 42);have A1:=hid ((Z3 wr.heap.size wr).alloc nr0 (.cells #[.string pk,.string pv] 42));rcases hcase with ⟨v,hv,e⟩ | e
   .simp only[Ha]at e;obtain⟨e1,e2⟩:=e;have PAv:=fun V=>PA V v (by have:=HN.out;omega)
    have hst:=hid (HT1.out v hv (ksL L j));rw[<- e1]at PAv;rw[<- e1,<- e2]at hst;clear r1 r2 e1 e2;refine (PAv _).out.mono ?_;rintro e w4 ⟨rfl,hb4⟩;have hb5:=hid (a0a A1.out hb4);have X4:=hid (X1.out.call hb4);have P4:=hid (hP.out.call hb5.out);have Q4:=hid (hX.out.call hb5.out);have M4:=hid (hM.out.kept (a0T hb5.out none) (by simp));clear hb4;have z1:=X4.out.cell 1;have z2:=Q4.out.cell 0;have z3:w4.cell? ⟨bp,v,none⟩=some (.string ((nzT g n (ksL L j)).getD v ⟨#[]⟩)):=by
     rw[P4.out.cell,J5];refine d0D ?_;rw[J3,J0 (by rw[nzT_length];omega)];rfl
    have z4:=P4.out.free v;have b3:(0:Int)<=(v:Int):=by omega
    have b4:(v:Int)<(n:Int)+1:=by omega
    simp at z1 z2;have HB5:=hid (hB.out.trans (hb5.out.mono hB.out.size));go_wp2_with fail
    go_region
    go_wp2_with fail;go_roundw
    case rel=>
     refine⟨j+1,by go_num,by omega,?_,hid ((Q4.out.other (fun e=>hne.out.2 (by simpa using e)) _).call br0.drew),hid (((M4.out.setCell (a:=⟨bp,v,none⟩) (fun e=>hne.out.1 e.symm) _)).drew),hid (by have:=hb5.out.size;have:=hsz3.out;simp;omega),hid ((HB5.out.setCell (p:=⟨bp,v,none⟩) HBP.out.1 _).drew),fun k hk hne2=>?_⟩
     .have h:=((P4.out.set v (.string pv)).call br0.drew);rw[Ao]at h;have e:d0k (nzT g n (ksL L (j+1)))=(d0k (nzT g n (ksL L j))).set v (.string pv):=by
       rw[hks.out,hst.out];unfold d0k;rw[Nx]
      show Blk _ _ _ _
      rw[e];exact h
     .have h1:((w4.setCell ⟨bp,v,none⟩ (.string pv)).drew).heap[k]?=w4.heap[k]? := Am _ _ _ _ (by simpa using hne2);exact h1.trans ((hb5.out.block k (U6 hk hsz3.out)).trans (hK.out k hk hne2))
    case measure=>simp[intOf]<;>omega
   .obtain rfl:pk=b0o:=e;have hst:=hid (HT2.out (ksL L j));have LS:=hid ((HLY.out.call (hB.out.trans (A1.out.mono hB.out.size))).s);unfold b0o at X1;clear r1 r2;refine (PL _ LS.out).out.mono ?_;rintro e w4 ⟨⟨te,pe,rfl⟩,hb4⟩;have hb5:=hid (a0a A1.out hb4);clear hb4;go_wp2_with fail;go_roundw
    case rel=>exact⟨j+1,by go_num,by omega,hid (by rw[hks.out,hst.out];exact hP.out.call hb5.out),hid (hX.out.call hb5.out),hid (hM.out.kept (a0T hb5.out none) (by simp)),hid (O0 hsz3.out hb5.out.size),hid (hB.out.trans (hb5.out.mono hB.out.size)),fun k hk hne=>((hb5.out.block k (U6 hk hsz3.out)).trans (hK.out k hk hne))⟩
    case measure=>simp[intOf]<;>omega
  .obtain rfl:j=N:=by omega
   have HP2:Hid (Blk wr bp (d0k (prT g n)).toArray 23):=by
    show Blk _ _ _ _
    have:=hP.out;rw[<- HNL.out,x0j,HALL.out]at this;exact this
   clear hlt;go_wp2_with fail;go_ret
   exact⟨⟨bm+1,bm,bp,rfl,HBM.out,⟨hX.out,HP2.out,.inl hM.out⟩⟩,hB.out⟩
end
section
open Go.RowKit Go.Shelf
open Go.Lib (decDigits nDigits)
def r0z (w:World)(s t:ByteArray)(hs:s.size<=1000000)(ht:t.size<=1000000)(hL:Lay w):
 Calls Tryz.prog 94 #[.string s,.string t] w fun e w'=>e=.returned (.string (d0j (· + ·) s t))/\Below w.heap.size w w':=by
 have H:=hid (b1w w s t hs ht hL);obtain⟨B,hB⟩:=gn (d0j (· + ·) s t);obtain⟨E,hE⟩:=gn (h0o (· + ·) s t);rw[hB,hE]at H;rw[hB];clear hs ht hL hB hE;go_enter Tryz.func94,Tryz.ntmps94;go_wp2_with fail;refine H.out.mono ?_;rintro e w1 ⟨rfl,hb1⟩;go_wp2_with fail;go_ret
 exact⟨rfl,hb1⟩
def x0I (w:World)(s t:ByteArray)(hs:s.size<=1000000)(ht:t.size<=1000000)(hL:Lay w):
 Calls Tryz.prog 95 #[.string s,.string t] w fun e w'=>e=.returned (.string (d0j (· - ·) s t))/\Below w.heap.size w w':=by
 have H:=hid (b1q w s t hs ht hL);obtain⟨B,hB⟩:=gn (d0j (· - ·) s t);obtain⟨E,hE⟩:=gn (h0o (· - ·) s t);rw[hB,hE]at H;rw[hB];clear hs ht hL hB hE;go_enter Tryz.func95,Tryz.ntmps95;go_wp2_with fail;refine H.out.mono ?_;rintro e w1 ⟨rfl,hb1⟩;go_wp2_with fail;go_ret
 exact⟨rfl,hb1⟩
def n0n (w:World)(s t:ByteArray)(hs:s.size<=1000000)(ht:t.size<=1000000)(hL:Lay w):
 Calls Tryz.prog 89 #[.string s,.string t] w fun e w'=>e=.returned (.string (d0j (· * ·) s t))/\Below w.heap.size w w':=by
 have H:=hid (b1s w s t hs ht hL);obtain⟨B,hB⟩:=gn (d0j (· * ·) s t);obtain⟨E,hE⟩:=gn (h0o (· * ·) s t);rw[hB,hE]at H;rw[hB];clear hs ht hL hB hE;go_enter Tryz.func89,Tryz.ntmps89;go_wp2_with fail;refine H.out.mono ?_;rintro e w1 ⟨rfl,hb1⟩;go_wp2_with fail;go_ret
 exact⟨rfl,hb1⟩
open Go.Maps
def t0H {W:World}{base base':Nat}{e:TypeId}{k:Nat}{v:Value}{n:Nat}{xs:List Value}(h:W.ownsRow base e k v n xs)(hb:base'<=base):W.ownsRow base' e k v n xs:=by
 obtain⟨h1,h2⟩:=h;rcases h2 with h2 | ⟨g,cap,cur,a1,a2,a3⟩
 .exact⟨h1,.inl h2⟩
 .exact⟨h1,.inr ⟨g,cap,cur,a1,O0 hb a2,a3⟩⟩
def j0u (w:World):(zeroValue 106).run Tryz.prog w=.ok (.slice none 0 0) w:=by kernel_rfl
def p0E {H:Type}{w:World}{B:Nat}(h:w.ownsMap Tryz.prog 3 (p0f (H:=H)) B 0 (.map [])){k:Int}(hk:(Lit.int .i64 k).wf=true):
 (Instr.lookup 107 (.map (some B)) (.int .i64 k) true).run Tryz.prog w=.ok (.tuple #[.slice none 0 0,.bool false]) w:=by
 obtain⟨v,ps,h1,h2⟩:=h.look_ok (Mh Z7) Tryz.underlying107 (j0u w) (zd:=.lit (.bool false)) (zp:=[]) rfl (Kv Z7 hk);have e1:Maps.has (DataW.map []:DataW H) (.int .i64 k)=false:=by simp[Maps.has_eq]
 have e2:(DataW.map []:DataW H).atKey (.int .i64 k) (.lit (.bool false))=.lit (.bool false):=by simp[DataW.atKey]
 rw[e1]at h1;rw[e2]at h2;rw[s0V h2]at h1;exact h1
def p0D {H:Type}{w:World}{B m gs n cs:Nat}{k:Int}(h:w.ownsMap Tryz.prog 3 (p0f (H:=H)) B m ((DataW.map []).put (.int .i64 k) (u0Z gs 0 n cs)))(hk:(Lit.int .i64 k).wf=true):
 (Instr.lookup 107 (.map (some B)) (.int .i64 k) true).run Tryz.prog w=.ok (.tuple #[.slice (some ⟨gs,0,none⟩) n cs,.bool true]) w:=by
 obtain⟨v,ps,h1,h2⟩:=h.look_ok (Mh Z7) Tryz.underlying107 (j0u w) (zd:=.lit (.bool false)) (zp:=[]) rfl (Kv Z7 hk);rw[has_put_same isMap_empty (show WideAt.IsKeyLit (.int .i64 k) from trivial)]at h1;rw[atKey_put_same isMap_empty (show WideAt.IsKeyLit (.int .i64 k) from trivial)]at h2;rw[s0U h2]at h1;exact h1
def u0z {H:Type}(w:World)(bx bm bp n:Nat)(g:Int->Nat)(most:Int)(hn:n<=32)(hg:∀ v:Int,v<0->g v=0)(hz:zS n g<=2 ^ n)(hN:NoiS H w bx bm bp g n)(hL:Lay w):
 Calls Tryz.prog 93 #[.pointer (some ⟨bx,0,none⟩),.int .i64 most] w fun e w'=>e=.returned (.string (dyB (cmC g n most) n))/\NoiS H w' bx bm bp g n/\w.grownBy w' (some bm):=by
 have PP:∀ (V:World) (i:Nat),i<=n->Lay V->Hid (Calls Tryz.prog 94 #[.string (dyB (cmS g i) n),.string (dyB (g (i:Int)) n)] V fun e w'=>e=.returned (.string (dyB (cmS g (i+1)) n))/\Below V.heap.size V w'):=fun V i hi hV=>by
  have h1:=n0u (m:=n) (v0G hg hz (show i<=n+1 by omega)) (by omega);have h2:=n0u (m:=n) (b1H hg hz (show ((i:Nat):Int)<=n by omega)) (by omega);have:=r0z V (dyB (cmS g i) n) (dyB (g (i:Int)) n) (by omega) (by omega) hV;rw[y0f hg hz hi (by omega)]at this;exact this
 obtain⟨J,hJ⟩:∃ J:Nat,(max 0 (min most ((n:Int)+1))).toNat=J:=⟨_,rfl⟩;have hJ1:J<=n+1:=by omega
 have eJ:max 0 (min most ((n:Int)+1))=(J:Int):=by omega
 rw[a1I,hJ];have HJ1:=hid hJ1;have EJ:=hid eJ;have HL:=hid hL;have HX:=hid hN.x;have HP:=hid hN.p;have b1:(0:Int)<=(J:Int):=by omega
 have b2:(J:Int)<((n+2:Nat):Int):=by omega
 have wfk:(Lit.int .i64 ((n+1:Nat):Int)).wf=true:=WalkArith.wf_i64 ⟨by omega,by omega⟩;have WFK:=hid wfk;have r0:=HX.out.cell 0;have r1:=HX.out.cell 1;simp at r0 r1;rcases hN.m with hm | ⟨gs,cs,hm,hrow,hne⟩
 .have hlk:(Instr.lookup 107 (.map (some bm)) (.int .i64 ((n:Int)+1)) true).run Tryz.prog w=.ok (.tuple #[.slice none 0 0,.bool false]) w:=p0E hm wfk;have HM:=hid hm;obtain⟨i0,hi,hz0,hz1,hz2⟩:=Dj u0i;clear hJ hJ1 eJ hL hN hm wfk hg hz b1 b2;have wn32:(n:Int)<=32:=by omega
  clear hn;have B1:Hid (Below w.heap.size w (w.alloc (.cells #[.string ⟨#[48]⟩] 23))):=br0.alloc nr0 _;have r2:=(HX.out.call B1.out).cell 0;have r3:=(HX.out.call B1.out).cell 1;simp only[J5,Ar,List.getElem?_cons_succ]at r2 r3;go_enter Tryz.func93,Tryz.ntmps93;go_wp2_with fail;have O1:Hid ((w.alloc (.cells #[.string ⟨#[48]⟩] 23)).ownsRow w.heap.size 23 1 (.slice (some ⟨w.heap.size,0,none⟩) 1 1) 1 (d0k (cmL g n 0))):=by
   show World.ownsRow _ _ _ _ _ _ _
   rw[u0L];exact m0P (Blk.new w #[.string ⟨#[48]⟩] 23)
  clear r0 r1 r2 r3 hlk
  go_loopw [6,8,9,32] (fun s6 s8 s9 s32 wr=>∃ i:Nat,s32=.int .i64 (i:Nat)/\i<=n+1/\Hid (wr.ownsRow w.heap.size 23 1 s6 (i+1) (d0k (cmL g n i)))/\Hid (Below w.heap.size w wr)) (fun s6 s8 s9 s32 wr=>n+1-(intOf s32).toNat)
  case atStart=>exact⟨0,rfl,S4 _,O1,B1⟩
  case round=>
   obtain⟨i,rfl,hi,hO,hB⟩:=hrel;obtain⟨gl,cl,rfl⟩:=Mw hO.out;by_cases hlt:i<n+1
   .have d1:wr.cell? ⟨bp,i,none⟩=some (.string (dyB (g (i:Int)) n)):=by
     rw[(HP.out.call hB.out).cell,J5];exact d0D (q0q (by omega))
    obtain⟨o1,o2,o3,o4,-,-,-⟩:=d0I hO.out;have d2:=o4 i _ (d0D (m0b (g:=g) (n:=n) (J4 i)));have PPi:=fun V hV=>PP V i (by omega) hV
    have HSU:=hid (u0M g n i);obtain⟨S,hS⟩:=gn (dyB (cmS g i) n);obtain⟨T,hT⟩:=gn (dyB (g (i:Int)) n);obtain⟨U,hU⟩:=gn (dyB (cmS g (i+1)) n);rw[hT]at d1;rw[hS]at d2;rw[hS,hT,hU]at PPi;rw[hU]at HSU;have b3:(0:Int)<=(i:Int):=by omega
    have b4:(i:Int)<(n:Int)+1:=by omega
    have b5:(i:Int)<(i:Int)+1:=by omega
    have wi:IntKind.i64.wrap ((i:Int)+1)=((i+1:Nat):Int):=by rw[Q0 _ ⟨by omega,by omega⟩];omega
    have O1b:=hid o1;clear hS hT hU o1 o2 o3 o4 hi hlt;go_wp2_with fail;refine (PPi _ (HL.out.call hB.out)).out.mono ?_;rintro e w2 ⟨rfl,hb2⟩;have y2:=hid (a0a hB.out hb2);have O2:=hid (a0Q hO.out hb2);clear hb2 d1 d2;go_wp2_with (at_builtin;refine Bw _ rfl _ _ 106 rfl w.heap.size 23 i0 (.string ⟨#[]⟩) 1 16 Jo hi hz0 hz1 hz2 rfl (by decide) _ (i+1) _ rfl (O2.out.alloc _) ⟨w2.heap.size,0,none⟩ 1 1 [.string U] rfl rfl (Dh w2 (.string U) 23) (by simp[Value.oneCell']) (by unfold maxLen;omega) (by omega) (by have:=y2.out.size;simp;omega) ?_;intro v' w3 hown3 hgrow3 _)
    have hO3:=hid (show w3.ownsRow w.heap.size 23 1 v' (i+1+1) (d0k (cmL g n (i+1))) by rw[HSU.out,l0c];exact hown3);have hB3:Hid (Below w.heap.size w w3):=by
     refine (y2.out.alloc y2.out.size _).trans ⟨hgrow3.os,hgrow3.tape,hgrow3.output,hgrow3.size,fun k' hk'=>hgrow3.block k' (by have:=y2.out.size;simp;omega) (fun e=>?_)⟩;have:k'=gl:=by injection e
     have:=O1b.out;omega
    clear hown3 hgrow3;go_wp2_with fail;go_roundw
    case rel=>exact⟨i+1,by go_num,by omega,hO3,hB3⟩
    case measure=>simp[intOf]<;>omega
   .obtain rfl:i=n+1:=by omega
    obtain⟨o1,o2,o3,o4,-,o6,-⟩:=d0I hO.out;have d2:=o4 J _ (d0D (m0b (g:=g) (n:=n) (i:=n+1) HJ1.out));have M1:=hid (HM.out.kept (a0T hB.out none) (by simp));have hbm:=HM.out.lt;have hne:gl≠bm:=by omega
    have r2:=(HX.out.call hB.out).cell 0;have r3:=(HX.out.call hB.out).cell 1;simp at r2 r3;have HNE:=hid hne;have D2:=hid d2;clear hlt hi o1 o2 o3 o4 o6 hbm hne d2
    go_wp2_with (at_mapUpdate;refine Lg _ rfl _ _ _ 107 rfl 3 106 (Mh Z7) Tryz.underlying107 _ bm 0 _ rfl M1.out (by unfold maxLen;omega) _ _ (.int .i64 ((n+1:Nat):Int)) rfl rfl (Kv Z7 WFK.out) (u0Z gl 0 (n+2) cl) [] rfl ?_;intro w4 hown4 hgrow4
                 have d4:=hgrow4.cell D2.out (by intro e;injection e with e;exact HNE.out (by first | exact e | exact e.symm | omega));have eJ:=EJ.out;have b1:(0:Int)<=(J:Int):=by omega
                 have b2:(J:Int)<(n:Int)+1+1:=by have:=HJ1.out;omega
                 have b3:(J:Int)<((n+1+1:Nat):Int):=by have:=HJ1.out;omega
                 have HG4:=hid hgrow4;have HO4:=hid hown4;clear hgrow4 hown4)
    go_ret
    have hrow:∀ r,some bm=some r->∃ o:Obj,wr.heap[r]?=some o/\o.isCells=false:=fun r e=>by
     injection e with e
     subst e;obtain⟨es,ck,h,-⟩:=M1.out;exact⟨_,h,rfl⟩
    refine⟨rfl,⟨(HX.out.call hB.out).kept HG4.out hrow,(HP.out.call hB.out).kept HG4.out hrow,.inr ⟨gl,cl,HO4.out,t0H (hO.out.kept HG4.out (.inr fun e=>HNE.out (by injection e))) (S4 _),HNE.out⟩⟩,?_⟩;exact⟨HG4.out.os.trans hB.out.os,HG4.out.tape.trans hB.out.tape,HG4.out.output.trans hB.out.output,O0 hB.out.size HG4.out.size,fun k hk hne=>(HG4.out.block k (U6 hk hB.out.size) hne).trans (hB.out.block k hk)⟩
 .have hlk:(Instr.lookup 107 (.map (some bm)) (.int .i64 ((n:Int)+1)) true).run Tryz.prog w=.ok (.tuple #[.slice (some ⟨gs,0,none⟩) (n+2) cs,.bool true]) w:=p0D hm wfk;obtain⟨a',c',e,k1,k2,k3⟩:=(Row.of_owns hrow).openS;have HM:=hid hm;have HROW:=hid hrow;have HNE:=hid hne;obtain⟨gr,orr,er,hgr,hcr⟩:=k3 J _ (m0b hJ1);simp only[Hv]at e;obtain⟨rfl,-,rfl⟩:=e;simp only[Ad,Hc]at er;obtain⟨rfl,rfl,-⟩:=er;rw[J8]at hcr;obtain⟨sJ,hsJ⟩:=gn (dyB (cmS g J) n);rw[hsJ]at hcr |-;rw[cmL_length]at k1;clear hJ hJ1 hL hm wfk hg hz hn PP k3 hsJ hrow hne;go_enter Tryz.func93,Tryz.ntmps93;go_wp2_with fail;go_ret
  exact⟨rfl,⟨HX.out,HP.out,.inr ⟨_,_,HM.out,HROW.out,HNE.out⟩⟩,⟨rfl,rfl,rfl,J4 _,fun _ _ _=>rfl⟩⟩
end
section
open Go.RowKit Go.Shelf
def i0B {W:World}{base:Nat}{e:TypeId}{k g n cap:Nat}{xs:List Value}(h:W.ownsRow base e k (.slice (some ⟨g,0,none⟩) n cap) n xs)(i:Nat)(x:Value):(W.setCell ⟨g,i,none⟩ x).ownsRow base e k (.slice (some ⟨g,0,none⟩) n cap) n (xs.set i x):=by
 rcases h.2 with ⟨e1,_⟩ | ⟨g',cap',cur,e1,hb,hg,h1,h2,h3,h4⟩
 .simp at e1
 .simp at e1;obtain⟨rfl,rfl⟩:=e1;refine⟨by rw[Aq];exact h.1,.inr ⟨g,cap,cur.setIfInBounds i x,rfl,hb,Blk.set hg i x,h1,h2,by simpa using h3,?_⟩⟩;rw[Hx,Lp,h4]
theorem e0F {W:World}{base:Nat}{e:TypeId}{k g n cap:Nat}{xs:List Value}(h:W.ownsRow base e k (.slice (some ⟨g,0,none⟩) n cap) n xs):base<=g/\g<W.heap.size/\(∀ i,W.frozen? ⟨g,i,none⟩=false)/\(∀ (i:Nat) (x:Value),xs[i]?=some x->W.cell? ⟨g,i,none⟩=some x)/\cap<=9223372036854775807/\n<=cap:=by
 have hh:=h;rcases h.2 with ⟨e1,_⟩ | ⟨g',cap',cur,e1,hb,hg,h1,h2,h3,h4⟩
 .simp at e1
 .simp at e1;obtain⟨rfl,rfl⟩:=e1;refine⟨hb,(J6.1 hg).1,fun i=>Blk.free hg i,fun i x hx=>?_,by unfold maxLen at h2;omega,h1⟩;have:=hh.cells rfl i x hx;rw[Addr.add_lit,J8]at this;exact this
def t0G {W:World}{base:Nat}{e:TypeId}{k g n m cap:Nat}{xs:List Value}(h:W.ownsRow base e k (.slice (some ⟨g,0,none⟩) n cap) n xs)(hm:m<=n):W.ownsRow base e k (.slice (some ⟨g,0,none⟩) m cap) m (xs.take (m*k)):=by
 have hl:=h.1;rcases h.2 with ⟨e1,_⟩ | ⟨g',cap',cur,e1,hb,hg,h1,h2,h3,h4⟩
 .simp at e1
 .simp at e1;obtain⟨rfl,rfl⟩:=e1;have hk:m*k<=n*k:=C9 k hm;refine⟨by rw[Bq,hl];omega,.inr ⟨g,cap,cur,rfl,hb,hg,by omega,h2,h3,?_⟩⟩;rw[<- h4,List.take_take,Mf hk]
theorem f0u {base:Nat}{e:TypeId}{k g n cap:Nat}:∀ (vs:List Value) (o:Nat) {W:World} {xs:List Value},W.ownsRow base e k (.slice (some ⟨g,0,none⟩) n cap) n xs->∃ ys,(W.setCells g o vs).ownsRow base e k (.slice (some ⟨g,0,none⟩) n cap) n ys/\ys.take o=xs.take o
 | [],o,W,xs,h=>⟨xs,h,rfl⟩
 | v::r,o,W,xs,h=>by
  obtain⟨ys,h1,h2⟩:=f0u r (o+1) (i0B h o v);refine⟨ys,h1,?_⟩;have h3:=congrArg (List.take o) h2;rw[List.take_take,List.take_take,Mf (by omega)]at h3;rw[h3,Lp,List.set_eq_of_length_le (by rw[Bq];omega)]
theorem d0Z {base g:Nat}(hb:base<=g):∀ (vs:List Value) (o:Nat) {w W:World},Below base w W->Below base w (W.setCells g o vs)
 | [],_,_,_,h=>h
 | v::r,o,w,W,h=>d0Z hb r (o+1) (h.setCell hb v)
def o0c (w:World)(t e ty:TypeId)(z:Value)(x y:Value)(ht:Tryz.prog.underlying t=some (.slice e))(hv:∀ w,(zeroValue e).run Tryz.prog w=.ok z w)(hz:z.cells = #[x,y])(h1:x.oneCell'=true)(h2:y.oneCell'=true)(b o n c:Nat)(hn:0<n)
 (hc:∀ j,j<n*2->(w.cell? ⟨b,o+j,none⟩).isSome=true) (hf:∀ j,j<n*2->w.frozen? ⟨b,o+j,none⟩=false):
 ∃ vs,(Builtin.clear_ #[t] ty #[.slice (some ⟨b,o,none⟩) n c]).run Tryz.prog w=.ok (.tuple #[]) (w.setCells b o vs):=by
 obtain⟨vs,hvs⟩:=gn ((Builtin.zeroCells z.cells n).toList);have hlen:vs.length=n*2:=by rw[<- hvs,hz];simp[Builtin.zeroCells]
 have hone:∀ v∈vs,v.oneCell'=true:=by
  intro v hv';rw[<- hvs,hz]at hv';simp[Builtin.zeroCells]at hv';obtain⟨i,hi,rfl⟩:=hv';rcases Hy i with h | h<;>simp[h,h1,h2]
 have hst:=run_storeCells_cells (P:=Tryz.prog) b o vs 0 w (by rw[hlen];simpa using hc) (by rw[hlen];simpa using hf) hone;simp only[Ac]at hst;refine⟨vs,?_⟩;obtain⟨m,rfl⟩:∃ m,n=m+1:=⟨n-1,by omega⟩;simp[Builtin.clear_,run_underlying ht,hv,hvs,hst]
def p0i (w:World):(zeroValue 42).run Tryz.prog w=.ok (.agg #[.string ⟨#[]⟩,.string ⟨#[]⟩]) w:=by kernel_rfl
def ixM (p:ByteArray×ByteArray->Bool)(l:List (ByteArray×ByteArray)):Int:=if l.any p=true then (l.findIdx p:Nat) else -1
def j0Q (w:World)(v:Value)(l:List (ByteArray×ByteArray))(F:Nat)(p:ByteArray×ByteArray->Bool)(hv:MRow w v l)(hen:∀ args w,(callFunc F args).run Tryz.prog w=.ok (.enter F args) w)
 (hF:∀ W (x:ByteArray×ByteArray),Calls Tryz.prog F #[.agg #[.string x.1,.string x.2]] W fun e w'=>e=.returned (.bool (p x))/\Below W.heap.size W w'):
 Calls Tryz.prog 184 #[v,.func (.func F) #[] #[]] w fun e w'=>e=.returned (.int .i64 (ixM p l))/\Below w.heap.size w w':=by
 obtain⟨a,c,rfl,q1,q2,q3⟩:=hv.ex;obtain⟨n,hn⟩:=gn (l.length);rw[hn]at q1 |-;have HN:=hid hn;have Q3:=hid q3;have HF:=hid hF;clear hv q3 hn hF;go_enter Tryz.func184,Tryz.ntmps184;go_wp2_with fail
 go_loopw [8] (fun ii wr=>∃ i:Nat,ii=.int .i64 i/\i<=n/\Hid (∀ j x,j<i->l[j]?=some x->p x=false)/\Hid (Below w.heap.size w wr)) (fun ii wr=>n-(intOf ii).toNat)
 case atStart=>exact⟨0,rfl,S4 _,fun j x hj=>absurd hj (by omega),Z3 _ _⟩
 case round=>
  obtain⟨i,rfl,hi,hI,hB⟩:=hrel;by_cases hlt:i<n
  .obtain⟨x,hx⟩:∃ x,l[i]?=some x:=⟨_,J0 (by rw[HN.out];exact hlt)⟩;obtain⟨g,o,rfl,hg,m1,m2⟩:=Q3.out i x hx;rw[E9 2]at m1 m2;have r1:=(hB.out.cell (p:=⟨g,o+i*2,none⟩) hg).trans m1;have r2:=(hB.out.cell (p:=⟨g,o+i*2+1,none⟩) hg).trans m2;have HX:=hid hx;have b1:(0:Int)<=(i:Int):=by omega
   have b2:(i:Int)<(n:Int):=by omega
   have wi:IntKind.i64.wrap ((i:Int)+1)=((i+1:Nat):Int):=by rw[Q0 _ ⟨by omega,by omega⟩];omega
   obtain⟨z,hz⟩:=gn (p x);have C:=fun W=>hid (hz ▸ HF.out W x)
   have HZ:=hid hz;clear hx hz m1 m2 hg;go_wp2_with fail;refine (C _).out.mono ?_;rintro e w1 ⟨rfl,hb1⟩;have y1:=hid (a0a hB.out hb1);clear hb1;cases z
   .go_wp2_with fail;go_roundw
    case rel=>exact⟨i+1,by go_num,by omega,fun j y hj hy=>by
     rcases Cc j i with h | h
     .exact hI.out j y h hy
     .obtain rfl:j=i:=by omega
      rw[HX.out]at hy;cases hy;exact HZ.out,y1⟩
    case measure=>simp[intOf]<;>omega
   .have hA:l.any p=true:=Cm.2 ⟨x,C7 HX.out,HZ.out⟩;have hfi:l.findIdx p=i:=by
     have hil:i<l.length:=by rw[HN.out];exact hlt
     rw[List.findIdx_eq hil];refine⟨?_,fun j hj=>?_⟩
     .have:=HX.out;rw[J0 hil]at this;rw[J9 this];exact HZ.out
     .exact hI.out j _ hj (J0 (Ny hj hil))
    have HE:=hid (show ixM p l=(i:Int) from by rw[ixM,J2 hA,hfi]);clear hA hfi;go_wp2_with fail;go_ret
    exact⟨by rw[HE.out];rfl,y1.out⟩
  .obtain rfl:i=n:=by omega
   have hA:¬ l.any p=true:=fun h=>by
    obtain⟨x,hx,hp⟩:=Cm.1 h;obtain⟨j,hj⟩:=Cp hx;have:=hI.out j x (by rw[<- HN.out];exact (O4.1 hj).1) hj;rw[this]at hp;cases hp
   have HE:=hid (show ixM p l = -1 from by rw[ixM,U0 hA]);clear hA hlt;go_wp2_with fail;go_ret
   exact⟨by rw[HE.out];rfl,hB.out⟩
structure DelI (del:ByteArray×ByteArray->Bool)(L D:List (ByteArray×ByteArray))(i j:Nat):Prop where
 len:D.length=L.length
 lt:i<j
 le:j<=L.length
 front:D.take i=(L.take j).filter fun x => !del x
 back:D.drop j=L.drop j
def Gm:=@List.filter_append
theorem DelI.start {del:ByteArray×ByteArray->Bool}{L:List (ByteArray×ByteArray)}(h:L.any del=true):DelI del L L (L.findIdx del) (L.findIdx del+1):=by
 have hk:L.findIdx del<L.length:=List.findIdx_lt_length.2 (Cm.1 h);have hd:del L[L.findIdx del]=true:=List.findIdx_getElem;refine⟨rfl,Nat.lt_succ_self _,hk,?_,rfl⟩;rw[Et,J0 hk,Gm];have e1:List.filter (fun x => !del x) (some L[L.findIdx del]).toList = []:=by simp[hd]
 rw[e1,Dn]
 symm
 rw[List.filter_eq_self];intro x hx;obtain⟨j,hj,rfl⟩:=Is hx;rw[Bq]at hj;rw[List.getElem_take];have:=List.not_of_lt_findIdx (p:=del) (xs:=L) (i:=j) (by omega);simpa using this
theorem DelI.at_ {del:ByteArray×ByteArray->Bool}{L D:List (ByteArray×ByteArray)}{i j:Nat}(h:DelI del L D i j){x:ByteArray×ByteArray}(hx:L[j]?=some x):D[j]?=some x:=by
 have:=congrArg (fun l=>l[0]?) h.back;simp only[Bf,Ac]at this;rw[this,hx]
theorem DelI.keep {del:ByteArray×ByteArray->Bool}{L D:List (ByteArray×ByteArray)}{i j:Nat}(h:DelI del L D i j){x:ByteArray×ByteArray}(hx:L[j]?=some x)(hd:del x=false):DelI del L (D.set i x) (i+1) (j+1):=by
 have hj:=(O4.1 hx).1;have hlt:=h.lt;refine⟨by rw[Aq];exact h.len,by omega,hj,?_,?_⟩
 .have e1:L.take (j+1)=L.take j ++ [x]:=by rw[Et,hx];rfl
  have e2:(D.set i x).take (i+1)=D.take i ++ [x]:=by
   rw[Et,Hg (by rw[h.len];omega),Lp,List.set_eq_of_length_le (by rw[Bq];omega)];rfl
  rw[e1,e2,Gm,<- h.front];simp[hd]
 .rw[Gy (by omega),<- Ee,h.back,Ee]
theorem DelI.skip {del:ByteArray×ByteArray->Bool}{L D:List (ByteArray×ByteArray)}{i j:Nat}(h:DelI del L D i j){x:ByteArray×ByteArray}(hx:L[j]?=some x)(hd:del x=true):DelI del L D i (j+1):=by
 have hj:=(O4.1 hx).1;have hlt:=h.lt;refine⟨h.len,by omega,hj,?_,?_⟩
 .rw[Et,hx,Gm,<- h.front];simp[hd]
 .rw[<- Ee,h.back,Ee]
theorem q0Q {D:List (ByteArray×ByteArray)}{i:Nat}(x:ByteArray×ByteArray)(hi:i<D.length):((a0O D).set (i*2) (.string x.1)).set (i*2+1) (.string x.2)=a0O (D.set i x):=by
 apply At
 intro k;rw[e0K,Ec,Ec];simp only[Aq,a0Y];by_cases h1:i*2+1=k
 .subst h1;rw[J2 rfl,J2 (by omega),show (i*2+1) / 2=i by omega,Hg hi,Mg,U0 (by omega)]
 .rw[U0 h1];by_cases h2:i*2=k
  .subst h2;rw[J2 rfl,J2 (by omega),show i*2 / 2=i by omega,Hg hi,Mg,J2 (by omega)]
  .rw[U0 h2,e0K,Ib (by omega)]
def o0w (D:List (ByteArray×ByteArray))(i:Nat):(a0O D).take (i*2)=a0O (D.take i):=by
 apply At
 intro k;rw[e0K];by_cases h:k<i*2
 .rw[Gw h,e0K,Gw (by omega)]
 .rw[Hz (by omega),Hz (by omega)];rfl
def z0d (w:World)(F:Nat)(del:ByteArray×ByteArray->Bool)(g cap base n:Nat)(L:List (ByteArray×ByteArray))(hO:w.ownsRow base 42 2 (.slice (some ⟨g,0,none⟩) n cap) n (a0O L))(hl:L.length=n)(hn:n<=100000)(hb:base<=w.heap.size)
 (hen:∀ args w,(callFunc F args).run Tryz.prog w=.ok (.enter F args) w)
 (hF:∀ W (x:ByteArray×ByteArray),Calls Tryz.prog F #[.agg #[.string x.1,.string x.2]] W fun e w'=>e=.returned (.bool (del x))/\Below W.heap.size W w'):
 Calls Tryz.prog 96 #[.slice (some ⟨g,0,none⟩) n cap,.func (.func F) #[] #[]] w fun e w'=>(∃ m,m=(L.filter fun x => !del x).length/\e=.returned (.slice (some ⟨g,0,none⟩) m cap)/\w'.ownsRow base 42 2 (.slice (some ⟨g,0,none⟩) m cap) m (a0O (L.filter fun x => !del x)))/\Below base w w':=by
 have PI:=hid (j0Q w _ L F del (MRow.of_owns hO) hen hF);have HO:=hid hO;obtain⟨o1,o2,o3,o4,o5,o6⟩:=e0F hO;have HF:=hid hF;have HL:=hid hl;have HB:=hid hb;by_cases hany:L.any del=true
 .have st:=hid (DelI.start hany);have ei:ixM del L=(L.findIdx del:Nat):=by rw[ixM,J2 hany]
  rw[ei]at PI;obtain⟨k,hk⟩:=gn (L.findIdx del);rw[hk]at PI st;have hkn:k<n:=by have:=st.out.le;omega
  have q0:((k:Int) == -1)=false:=by rw[U4];omega
  have wk:IntKind.i64.wrap ((k:Int)+1)=((k+1:Nat):Int):=by rw[Q0 _ ⟨by omega,by omega⟩];omega
  clear hO hF hl hb hany ei hk o1 o2 o3 o4;go_enter Tryz.func96,Tryz.ntmps96;go_wp2_with fail;refine PI.out.mono ?_;rintro e w1 ⟨rfl,hb1⟩;have y1:=hid (hb1.mono HB.out);have O1:=hid (a0Q HO.out hb1);clear hb1;go_wp2_with fail
  go_loopw [5,6,7] (fun s5 s6 s7 wr=>∃ (i j:Nat) (D:List (ByteArray×ByteArray)),s5=.int .i64 (i:Nat)/\s6=.int .i64 (j:Nat)/\j<=n/\i<j/\Hid (DelI del L D i j)/\Hid (wr.ownsRow base 42 2 (.slice (some ⟨g,0,none⟩) n cap) n (a0O D))/\Hid (Below base w wr)) (fun s5 s6 s7 wr=>n-(intOf s6).toNat)
  case atStart=>exact⟨k,k+1,L,rfl,by go_num,by omega,by omega,st,O1,y1⟩
  case round=>
   obtain⟨i,j,D,rfl,rfl,hj,hij,hI,hO,hBl⟩:=hrel;obtain⟨o1,o2,o3,o4,-,-⟩:=e0F hO.out;have hDl:=hI.out.len;by_cases hlt:j<n
   .obtain⟨x,hx⟩:∃ x,L[j]?=some x:=⟨_,J0 (by rw[HL.out];exact hlt)⟩;obtain⟨m1,m2⟩:=c0M (hI.out.at_ hx);obtain⟨y,hy⟩:∃ y,D[i]?=some y:=⟨_,J0 (by rw[hDl,HL.out];omega)⟩;obtain⟨m3,m4⟩:=c0M hy;have r1:=o4 _ _ m1;have r2:=o4 _ _ m2;have r3:=o4 _ _ m3;have r4:=o4 _ _ m4;rw[E9 2]at r1 r2 r3 r4;have b1:(0:Int)<=(j:Int):=by omega
    have b2:(j:Int)<(n:Int):=by omega
    have b3:(0:Int)<=(i:Int):=by omega
    have b4:(i:Int)<(n:Int):=by omega
    have wj:IntKind.i64.wrap ((j:Int)+1)=((j+1:Nat):Int):=by rw[Q0 _ ⟨by omega,by omega⟩];omega
    have wi:IntKind.i64.wrap ((i:Int)+1)=((i+1:Nat):Int):=by rw[Q0 _ ⟨by omega,by omega⟩];omega
    obtain⟨z,hz⟩:=gn (del x);have C:=fun W=>hid (hz ▸ HF.out W x)
    have HX:=hid hx;have HZ:=hid hz;have hset:=hid (q0Q (D:=D) (i:=i) x (by rw[hDl,HL.out];omega));have X1:=hid (Blk.new wr #[.string x.1,.string x.2] 42);have A1:=hid ((Below.refl wr.heap.size wr).alloc nr0 (.cells #[.string x.1,.string x.2] 42));have O2:=hid (a0Q hO.out A1.out);have GL:Hid (g<wr.heap.size):=o2;clear hx hz m1 m2 m3 m4 o4 hy;obtain⟨xk,xv⟩:=x;dsimp only at *;go_wp2_with fail;refine (C _).out.mono ?_;rintro e w2 ⟨rfl,hb2⟩;have hb2':=a0a A1.out hb2;have X2:=hid (X1.out.call hb2);have O3:=hid (a0Q O2.out hb2);have B2:=hid (hBl.out.trans (hb2'.mono (by omega)));have z0:=X2.out.cell 0;have z1:=X2.out.cell 1;simp at z0 z1;have r3:=(hb2'.cell (p:=⟨g,i*2,none⟩) GL.out).trans r3;have r4:=(hb2'.cell (p:=⟨g,i*2+1,none⟩) GL.out).trans r4;obtain⟨-,-,g3,-,-,-⟩:=e0F O3.out;clear hb2 hb2' r1 r2;cases z
    .go_wp2_with fail;go_roundw
     case rel=>
      refine⟨i+1,j+1,D.set i (xk,xv),by go_num,by go_num,by omega,by omega,hid (hI.out.keep HX.out HZ.out),?_,hid ((B2.out.setCell o1 _).setCell o1 _)⟩;have h5:=i0B (i0B O3.out (i*2) (.string xk)) (i*2+1) (.string xv);rw[hset.out]at h5;exact h5
     case measure=>simp[intOf]<;>omega
    .clear r3 r4;go_wp2_with fail;go_roundw
     case rel=>exact⟨i,j+1,D,rfl,by go_num,by omega,by omega,hid (hI.out.skip HX.out HZ.out),O3,B2⟩
     case measure=>simp[intOf]<;>omega
   .obtain rfl:j=n:=by omega
    have b1:(0:Int)<=(i:Int):=by omega
    have b2:(i:Int)<=(j:Int):=by omega
    have b3:(j:Int)<=(cap:Int):=by omega
    have b4:(i:Int)<=(cap:Int):=by omega
    obtain⟨vs,hcl⟩:=o0c wr 37 42 0 (.agg #[.string ⟨#[]⟩,.string ⟨#[]⟩]) (.string ⟨#[]⟩) (.string ⟨#[]⟩) Av p0i rfl rfl rfl g (i*2) (j-i) (cap-i) (by omega)
     (fun k hk=>by
      obtain⟨v,hv⟩:∃ v,(a0O D)[i*2+k]?=some v:=⟨_,J0 (by rw[a0Y,hDl,HL.out];omega)⟩;rw[o4 _ _ hv];rfl)
     (fun k hk=>o3 _)
    obtain⟨ys,w3,w4⟩:=f0u vs (i*2) hO.out;have hfr:=hI.out.front;have hT:L.take j=L:=J7 (by rw[HL.out];exact J4 _);rw[hT]at hfr;have hcut:=t0G w3 (m:=i) (by omega);rw[w4,o0w,hfr]at hcut;have hcb:=hid (d0Z o1 vs (i*2) hBl.out);have hlen:i=(L.filter fun x => !del x).length:=by rw[<- hfr,Bq,hDl,HL.out];omega
    have HC:=hid hcut;have HLN:=hid hlen;clear hlt o4 w3 w4 hfr hcut hlen hT;go_wp2_with fail;go_ret
    refine⟨⟨i,HLN.out,rfl,HC.out⟩,hcb.out⟩
 .have hk:(L.filter fun x => !del x)=L:=List.filter_eq_self.2 fun x hx=>by
   cases hd:del x
   .rfl
   .exact absurd (Cm.2 ⟨x,hx,hd⟩) hany
  have ei:ixM del L = -1:=by rw[ixM,U0 hany]
  rw[ei]at PI;rw[hk];have q0:((-1:Int) == -1)=true:=rfl;clear hO hF hb hany ei hk o1 o2 o3 o4;go_enter Tryz.func96,Tryz.ntmps96;go_wp2_with fail;refine PI.out.mono ?_;rintro e w1 ⟨rfl,hb1⟩;go_wp2_with fail;go_ret
  exact⟨⟨n,HL.out.symm,rfl,a0Q HO.out hb1⟩,hb1.mono HB.out⟩
end
section
open Go.RowKit
open Go.Lib (decDigits nDigits)
def chV (g:Int->Nat)(n j:Nat):List Int:=((List.range j).map fun (i:Nat)=>(i:Int)-n).filter fun v=>decide (g v≠0)
def n0B (g:Int->Nat)(n j:Nat):chV g n (j+1)=chV g n j++if g ((j:Int)-n)=0 then [] else [(j:Int)-n]:=by
 unfold chV;rw[Js,Bj,Gm,List.map_singleton];by_cases h:g ((j:Int)-n)=0
 .simp[h]
 .simp[h]
def y0g {g:Int->Nat}{n j:Nat}{v:Int}:v∈chV g n j ↔ ∃ i:Nat,i<j/\v=(i:Int)-n/\g v≠0:=by
 unfold chV;rw[List.mem_filter,Fr,Fe]
 constructor
 .rintro⟨⟨i,hi,rfl⟩,h⟩;exact⟨i,Ev.1 hi,rfl,h⟩
 .rintro⟨i,hi,rfl,h⟩;exact⟨⟨i,Ev.2 hi,rfl⟩,h⟩
def Gn:=@List.length_filter_le
def p0b (g:Int->Nat)(n j:Nat):(chV g n j).length<=j:=by
 unfold chV;refine O0 (Gn _ _) ?_;simp
def smV (f:Int->Nat)(l:List Int):Nat:=(l.map f).sum
def m0y (f:Int->Nat)(l:List Int)(v:Int):smV f (l ++ [v])=smV f l+f v:=by simp[smV]
def i0k {f:Int->Nat}{l:List Int}{i:Nat}{v:Int}(h:l[i]?=some v):smV f (l.take (i+1))=smV f (l.take i)+f v:=by
 rw[Et,h,<- m0y];rfl
def v0d {f:Int->Nat}{l:List Int}(i:Nat):smV f (l.take i)<=smV f l:=by
 have h:=Gc i l;have e:smV f l=smV f (l.take i)+smV f (l.drop i):=by
  conv=>lhs;rw[<- h]
  unfold smV;rw[Bj,List.sum_append]
 omega
theorem p0L {f g:Int->Nat}(hf:∀ v,g v=0->f v=0)(n:Nat):∀ j,smV f (chV g n j)=a0k (fun i=>f ((i:Int)-n)) j
 | 0=>rfl
 | j+1=>by
  rw[n0B,a0k,<- p0L hf n j]
  split
  .rename_i h
   rw[Dn,hf _ h,Ac]
  .rw[m0y]
def p0M {f g:Int->Nat}(hf:∀ v,g v=0->f v=0)(n:Nat):smV f (chV g n (2*n+1))=zS n f:=p0L hf n _
def chA (g:Int->Nat)(n:Nat):List Int:=chV g n (2*n+1)
def a1K {g:Int->Nat}{n:Nat}{v:Int}(h:v∈chA g n) : -(n:Int)<=v/\v<=n/\g v≠0:=by
 obtain⟨i,h1,rfl,h2⟩:=y0g.1 h;exact⟨by omega,by omega,h2⟩
def i0a (g:Int->Nat)(n:Nat):(chA g n).length<=2*n+1:=p0b g n _
def blV (g:Int->Nat)(most:Int)(v:Int):Nat:=if v<most then g v else 0
def s0r {g:Int->Nat}{n:Nat}(hg:∀ v:Int,v<0->g v=0)(most:Int):smV (blV g most) (chA g n)=cmC g n most:=by
 unfold chA;rw[p0M (fun v h=>by unfold blV;rw[h];split<;>rfl),<- n0z n hg];refine b0y fun v _ _=>?_
 unfold blV;by_cases h:v<most
 .rw[J2 h,J2 (E7 h)]
 .rw[U0 h,U0 (by simpa using h)]
theorem i0W {g:Int->Nat}{n:Nat}{ci v:Int}{i:Nat}{c:List Int}(h:g v=0):∀ k,fkN g n ci v i c k=0
 | 0=>h
 | k+1=>by
  rw[fkN,i0W h k]
  split
  .rfl
  .exact Gl _
def v0z {g:Int->Nat}{n:Nat}(hg:∀ v:Int,v<0->g v=0)(c:List Int)(i:Nat):smV (fun v=>fkN g n (c.getD i 0) v i c c.length) (chA g n)=fkT g n c i:=by
 unfold chA;rw[p0M (fun v h=>i0W h _),j0w (fun v hv=>i0W (hg v hv) _),<- l0N]
 rfl
def h0i {L:List (ByteArray×ByteArray)}{k p:ByteArray}(hnd:((L ++ [(k,p)]).map b0B).Nodup):j0p (a0y (L.filter h0q)) k p=a0y ((L ++ [(k,p)]).filter h0q):=by
 rw[Bj,Gv]at hnd;obtain⟨h1,-,h2⟩:=hnd;have hk:∀ x∈L,x.1≠k:=fun x hx e=>h2 (b0B x) (List.mem_map_of_mem hx) (b0B (k,p)) (by simp) (by unfold b0B;rw[e])
 have hp:L.Pairwise (fun x y=>x.1≠y.1):=by
  rw[List.Nodup,List.pairwise_map]at h1;exact h1.imp fun h e=>h (by unfold b0B;rw[e])
 rw[Gm];by_cases h0:p=⟨#[48]⟩
 .subst h0;have e:List.filter h0q [(k,(⟨#[48]⟩:ByteArray))] = []:=by simp[h0q]
  rw[e,Dn,j0p,J2 rfl]
 .have e:List.filter h0q [(k,p)] = [(k,p)]:=by simp[h0q,h0]
  rw[e];exact h0h h0 (fun x hx=>hk x (List.mem_filter.1 hx).1) (hp.filter _)
def o0s {α : Type}{l m:List α}(h:(l++m).Nodup):l.Nodup:=(Gv.1 h).1
def a1n (g:Int->Nat)(n:Nat)(c:List Int){i:Nat}(hi:i<c.length):j0p (a0y ((c0r g n c i).filter h0q)) (a0f i) (dyB (fkT g n c i) (n*c.length))=a0y ((c0r g n c (i+1)).filter h0q):=by
 rw[f0k];refine h0i ?_;rw[<- f0k];have h:=n0k g n c;unfold fkW at h;rw[Bj]at h;have h1:=o0s h;have e:c0r g n c (i+1)=(c0r g n c c.length).take (i+1):=by
  unfold c0r;rw[<- List.map_take,List.take_range,Mf (by omega)]
 rw[e,List.map_take];exact (List.take_sublist _ _).nodup h1
def l0M (g:Int->Nat)(n:Nat)(c:List Int):j0p (a0y ((c0r g n c c.length).filter h0q)) b0o (dyB (fkR g n c c.length) (n*c.length))=a0y (fkP g n c):=h0i (n0k g n c)
def o0K (g:Int->Nat)(n:Nat)(c:List Int):a0y ((c0r g n c 0).filter h0q) = []:=by
 unfold c0r a0y;simp
end
end Go.Proofs.YtfkpfpobmobnbaaGreatDoor
