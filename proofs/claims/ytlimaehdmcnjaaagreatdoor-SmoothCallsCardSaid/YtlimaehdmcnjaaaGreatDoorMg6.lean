/- Texts that the proof rests on, merged: Sh4, G1c, G2, G3, G4, RtW, Fr2, Fr1b, Fr4, FMu, So1, So2, Zs, Tz, So3, Rf1, QO, SgQ, Sv1, Pl3, Pn3. -/
import Derived.Test.YtlimaehdmcnjaaaGreatDoorMg5
import Derived.Shelf.Small.Wraps
import Derived.Shelf.Strings.Shaped
import Derived.Ground.NamesProg
import Derived.Test.YtlimaehdmcnjaaaGreatDoorProg
import Derived.Deep.AppendLies
import Derived.Maps.Own
import Derived.Maps.OwnIn
import Derived.Sort.CutIn
set_option linter.unusedVariables false
set_option linter.unusedSimpArgs false
set_option linter.unusedSectionVars false
set_option maxRecDepth 100000
set_option maxHeartbeats 8000000
namespace Go.Proofs
open Go.Shelf
def Tryz.lays145_ren:Go.Shelf.Ren:=⟨fun | 145=>128 | 220=>168 | 219=>192 | 217=>210 | 225=>211 | 224=>212 | 267=>213 | 266=>222 | 314=>223 | n=>n,fun | 9=>9 | 4=>4 | 59=>149 | 3=>3 | 5=>5 | 46=>118 | 146=>167 | 51=>161 | n=>n,fun | 1=>3 | n=>n⟩
theorem Tryz.lays145:Go.Proofs.Lays.n145 Tryz.prog Tryz.lays145_ren:={
 mixed:=by kernel_rfl
 f145:=Tryz.func128.trans (congrArg some (by kernel_rfl))
 f217:=Tryz.func210.trans (congrArg some (by kernel_rfl))
 f219:=Tryz.func192.trans (congrArg some (by kernel_rfl))
 f220:=Tryz.func168.trans (congrArg some (by kernel_rfl))
 f224:=Tryz.func212.trans (congrArg some (by kernel_rfl))
 f225:=Tryz.func211.trans (congrArg some (by kernel_rfl))
 f266:=Tryz.func222.trans (congrArg some (by kernel_rfl))
 f267:=Tryz.func213.trans (congrArg some (by kernel_rfl))
 f314:=Tryz.func223.trans (congrArg some (by kernel_rfl))
 t3:=Tryz.underlying3
 a3:=Tryz.isAgg3
 z3:=Tryz.sizeOf3
 v3:=Tryz.zeroValue3
 t4:=Tryz.underlying4
 a4:=Tryz.isAgg4
 z4:=Tryz.sizeOf4
 v4:=Tryz.zeroValue4
 t5:=Tryz.underlying5
 a5:=Tryz.isAgg5
 z5:=Tryz.sizeOf5
 v5:=Tryz.zeroValue5
 t9:=Tryz.underlying9
 a9:=Tryz.isAgg9
 z9:=Tryz.sizeOf9
 v9:=Tryz.zeroValue9
 t46:=Tryz.underlying118
 a46:=Tryz.isAgg118
 z46:=Tryz.sizeOf118
 v46:=Tryz.zeroValue118
 t51:=Tryz.underlying161
 a51:=Tryz.isAgg161
 z51:=Tryz.sizeOf161
 v51:=Tryz.zeroValue161
 t59:=Tryz.underlying149
 a59:=Tryz.isAgg149
 z59:=Tryz.sizeOf149
 v59:=Tryz.zeroValue149
 t146:=Tryz.underlying167
 a146:=Tryz.isAgg167
 z146:=Tryz.sizeOf167
 v146:=Tryz.zeroValue167
 g1:=by kernel_rfl }
theorem Tryz.strings_Cut (s sep:ByteArray)(m:Int)(w:World)(hs:s.size<4294967281)(hm:w.cell? ⟨3,0,none⟩=some (.int .i64 m)):
 Calls Tryz.prog 128 #[.string s,.string sep] w fun e w'=>e=.returned (.tuple #[.string ⟨(Lib.cut s.data.toList sep.data.toList).1.toArray⟩,.string ⟨(Lib.cut s.data.toList sep.data.toList).2.1.toArray⟩,.bool (Lib.cut s.data.toList sep.data.toList).2.2])∧∃ n,w'=w.drewN n:=Any.strings_Cut Tryz.lays145 s sep m w hs hm
end Go.Proofs
namespace Go.Proofs.YtlimaehdmcnjaaaGreatDoor
open Go.RowKit
open Go.Shelf
theorem s0g (w:World)(s:ByteArray)(hs:s.size≤100000000)(hL:Lay w):
 Calls Tryz.prog 128 #[.string s,.string ⟨#[47]⟩] w fun e w'=>e=.returned (.tuple #[.string (cW s),.string (cB s),.bool (cS s)])∧Below w.heap.size w w':=by
 obtain⟨m,hm⟩:=hL.max;refine (Tryz.strings_Cut s ⟨#[47]⟩ m w (by omega) hm).mono ?_;rintro e w' ⟨rfl,n,rfl⟩;exact⟨rfl,a0i (Below.refl _ _) n⟩
structure Cuts (s W B D:ByteArray)(S M I fb:Bool):Prop where
 cut:∀ w,Lay w→Calls Tryz.prog 128 #[.string s,.string ⟨#[47]⟩] w fun e w'=>e=.returned (.tuple #[.string W,.string B,.bool S])∧Below w.heap.size w w'
 int:∀ w,Calls Tryz.prog 129 #[.string W] w fun e w'=>e=.returned (.tuple #[.bool M,.string D,.bool I])∧Below w.heap.size w w'
 form:∀ w,Calls Tryz.prog 130 #[.string B] w fun e w'=>e=.returned (.bool fb)∧Below w.heap.size w w'
theorem p0Y (s:ByteArray)(hs:s.size≤1000000):Cuts s (cW s) (cB s) (iD (cW s)) (cS s) (iM (cW s)) (iB (cW s)) (fB (cB s)):={
 cut:=fun w hL=>s0g w s (by omega) hL
 int:=fun w=>l0N w (cW s) (by have:=m0p s;omega)
 form:=fun w=>o0n w (cB s) (by have:=m0q s;omega) }
theorem r0w (w:World)(s W B D:ByteArray)(S M I fb:Bool)(HL:Hid (Lay w))(HC:Cuts s W B D S M I fb)
 (h:(I && (!S || (decide (D≠⟨#[48]⟩) && fb && decide (B≠⟨#[48]⟩) && decide (B≠⟨#[49]⟩))))=false):
 Calls Tryz.prog 90 #[.string s] w fun e w'=>e=.returned (.tuple #[.agg #[.bool false,.slice none 0 0,.slice none 0 0],.int .i64 3])∧Below w.heap.size w w':=by
 have key:(I=false)∨(I=true∧S=true∧(D=⟨#[48]⟩∨(¬ D=⟨#[48]⟩∧(fb=false∨(fb=true∧(B=⟨#[48]⟩∨(¬ B=⟨#[48]⟩∧B=⟨#[49]⟩))))))):=by
  by_cases h1:D=⟨#[48]⟩<;>by_cases h2:B=⟨#[48]⟩<;>by_cases h3:B=⟨#[49]⟩<;>cases I<;>cases S<;>cases fb<;>simp[h1,h2,h3]at h ⊢
 have HK:=hid HC;clear HC h;have t0:=hid (Blk.new w #[.bool false,.slice none 0 0,.slice none 0 0] 57);have t1:=hid ((Below.refl w.heap.size w).alloc (Nat.le_refl _) (.cells #[.bool false,.slice none 0 0,.slice none 0 0] 57));have t2:=hid (HL.out.call t1.out);rcases key with rfl | ⟨rfl,rfl,rfl | ⟨h1,rfl | ⟨rfl,rfl | ⟨h2,rfl⟩⟩⟩⟩
 ·cases S
  all_goals
   go_enter Tryz.func90,Tryz.ntmps90
   go_wp2_with (first
    | (go_at_call 128;refine (HK.out.cut _ t2.out).mono ?_;rintro e w1 ⟨rfl,hb1⟩
       have x1:=hid (t0.out.call hb1);have y1:=hid (a0a t1.out hb1);clear hb1)
    | (go_at_call 129;refine (HK.out.int _).mono ?_;rintro e w2 ⟨rfl,hb2⟩
       have x2:=hid (x1.out.call hb2);have y2:=hid (a0a y1.out hb2);clear hb2;have d0:=x2.out.cell 0;have d1:=x2.out.cell 1;have d2:=x2.out.cell 2;have e0:=x2.out.free 0;have e1:=x2.out.free 1;have e2:=x2.out.free 2;simp at d0 d1 d2)
    | (go_at_call 130;refine (HK.out.form _).mono ?_;rintro e w3 ⟨rfl,hb3⟩
       have x3:=hid (x2.out.call hb3);have y3:=hid (a0a y2.out hb3);clear hb3 d0 d1 d2 e0 e1 e2;have d0:=x3.out.cell 0;have d1:=x3.out.cell 1;have d2:=x3.out.cell 2;have e0:=x3.out.free 0;have e1:=x3.out.free 1;have e2:=x3.out.free 2;simp at d0 d1 d2)
    | fail)
   first
    | (obtain⟨s1,s2⟩:=b0d x3.out false none none 0 0 0 0
       have f0:=s2.cell 0;have f1:=s2.cell 1;have f2:=s2.cell 2;simp at f0 f1 f2;refine bodyPost_ret (v:=.tuple #[.agg #[.bool false,.slice none 0 0,.slice none 0 0],.int .i64 3]) (by simp[results,Tryz.results90,go_sem,f0,f1,f2]) rfl ⟨rfl,?_⟩;exact ((y3.out.setCell (Nat.le_refl _) _).setCell (Nat.le_refl _) _).setCell (Nat.le_refl _) _)
    | (obtain⟨s1,s2⟩:=b0d x2.out false none none 0 0 0 0
       have f0:=s2.cell 0;have f1:=s2.cell 1;have f2:=s2.cell 2;simp at f0 f1 f2;refine bodyPost_ret (v:=.tuple #[.agg #[.bool false,.slice none 0 0,.slice none 0 0],.int .i64 3]) (by simp[results,Tryz.results90,go_sem,f0,f1,f2]) rfl ⟨rfl,?_⟩;exact ((y2.out.setCell (Nat.le_refl _) _).setCell (Nat.le_refl _) _).setCell (Nat.le_refl _) _)
 all_goals (try have i1:=a0Z (l:=[48]) h1)
 all_goals (try have i2:=a0Z (l:=[48]) h2)
 all_goals
  go_enter Tryz.func90,Tryz.ntmps90
  go_wp2_with (first
   | (go_at_call 128;refine (HK.out.cut _ t2.out).mono ?_;rintro e w1 ⟨rfl,hb1⟩
      have x1:=hid (t0.out.call hb1);have y1:=hid (a0a t1.out hb1);clear hb1)
   | (go_at_call 129;refine (HK.out.int _).mono ?_;rintro e w2 ⟨rfl,hb2⟩
      have x2:=hid (x1.out.call hb2);have y2:=hid (a0a y1.out hb2);clear hb2;have d0:=x2.out.cell 0;have d1:=x2.out.cell 1;have d2:=x2.out.cell 2;have e0:=x2.out.free 0;have e1:=x2.out.free 1;have e2:=x2.out.free 2;simp at d0 d1 d2)
   | (go_at_call 130;refine (HK.out.form _).mono ?_;rintro e w3 ⟨rfl,hb3⟩
      have x3:=hid (x2.out.call hb3);have y3:=hid (a0a y2.out hb3);clear hb3 d0 d1 d2 e0 e1 e2;have d0:=x3.out.cell 0;have d1:=x3.out.cell 1;have d2:=x3.out.cell 2;have e0:=x3.out.free 0;have e1:=x3.out.free 1;have e2:=x3.out.free 2;simp at d0 d1 d2)
   | fail)
  first
   | (obtain⟨s1,s2⟩:=b0d x3.out false none none 0 0 0 0
      have f0:=s2.cell 0;have f1:=s2.cell 1;have f2:=s2.cell 2;simp at f0 f1 f2;refine bodyPost_ret (v:=.tuple #[.agg #[.bool false,.slice none 0 0,.slice none 0 0],.int .i64 3]) (by simp[results,Tryz.results90,go_sem,f0,f1,f2]) rfl ⟨rfl,?_⟩;exact ((y3.out.setCell (Nat.le_refl _) _).setCell (Nat.le_refl _) _).setCell (Nat.le_refl _) _)
   | (obtain⟨s1,s2⟩:=b0d x2.out false none none 0 0 0 0
      have f0:=s2.cell 0;have f1:=s2.cell 1;have f2:=s2.cell 2;simp at f0 f1 f2;refine bodyPost_ret (v:=.tuple #[.agg #[.bool false,.slice none 0 0,.slice none 0 0],.int .i64 3]) (by simp[results,Tryz.results90,go_sem,f0,f1,f2]) rfl ⟨rfl,?_⟩;exact ((y2.out.setCell (Nat.le_refl _) _).setCell (Nat.le_refl _) _).setCell (Nat.le_refl _) _)
theorem p0O (w:World)(s W B D:ByteArray)(S M fb:Bool)(HL:Hid (Lay w))(HC:Cuts s W B D S M true fb)
 (h:S=false∨(S=true∧¬ D=⟨#[48]⟩∧¬ B=⟨#[48]⟩∧¬ B=⟨#[49]⟩∧fb=true)) (hl:4000<D.size∨(¬ 4000<D.size∧S=true∧4000<B.size)):
 Calls Tryz.prog 90 #[.string s] w fun e w'=>e=.returned (.tuple #[.agg #[.bool false,.slice none 0 0,.slice none 0 0],.int .i64 5])∧Below w.heap.size w w':=by
 have HK:=hid HC;clear HC;have t0:=hid (Blk.new w #[.bool false,.slice none 0 0,.slice none 0 0] 57);have t1:=hid ((Below.refl w.heap.size w).alloc (Nat.le_refl _) (.cells #[.bool false,.slice none 0 0,.slice none 0 0] 57));have t2:=hid (HL.out.call t1.out);rcases h with rfl | ⟨rfl,h1,h2,h3,rfl⟩
 ·have q0:decide ((4000:Int)<(D.size:Int))=true:=by
   rcases hl with hl | ⟨_,hl,_⟩
   ·simp;omega
   ·cases hl
  clear hl;go_enter Tryz.func90,Tryz.ntmps90
  go_wp2_with (first
   | (go_at_call 128;refine (HK.out.cut _ t2.out).mono ?_;rintro e w1 ⟨rfl,hb1⟩
      have x1:=hid (t0.out.call hb1);have y1:=hid (a0a t1.out hb1);clear hb1)
   | (go_at_call 129;refine (HK.out.int _).mono ?_;rintro e w2 ⟨rfl,hb2⟩
      have x2:=hid (x1.out.call hb2);have y2:=hid (a0a y1.out hb2);clear hb2;have d0:=x2.out.cell 0;have d1:=x2.out.cell 1;have d2:=x2.out.cell 2;have e0:=x2.out.free 0;have e1:=x2.out.free 1;have e2:=x2.out.free 2;simp at d0 d1 d2)
   | (go_at_call 130;refine (HK.out.form _).mono ?_;rintro e w3 ⟨rfl,hb3⟩
      have x3:=hid (x2.out.call hb3);have y3:=hid (a0a y2.out hb3);clear hb3 d0 d1 d2 e0 e1 e2;have d0:=x3.out.cell 0;have d1:=x3.out.cell 1;have d2:=x3.out.cell 2;have e0:=x3.out.free 0;have e1:=x3.out.free 1;have e2:=x3.out.free 2;simp at d0 d1 d2)
   | fail)
  first
   | (obtain⟨s1,s2⟩:=b0d x3.out false none none 0 0 0 0
      have f0:=s2.cell 0;have f1:=s2.cell 1;have f2:=s2.cell 2;simp at f0 f1 f2;refine bodyPost_ret (v:=.tuple #[.agg #[.bool false,.slice none 0 0,.slice none 0 0],.int .i64 5]) (by simp[results,Tryz.results90,go_sem,f0,f1,f2]) rfl ⟨rfl,?_⟩;exact ((y3.out.setCell (Nat.le_refl _) _).setCell (Nat.le_refl _) _).setCell (Nat.le_refl _) _)
   | (obtain⟨s1,s2⟩:=b0d x2.out false none none 0 0 0 0
      have f0:=s2.cell 0;have f1:=s2.cell 1;have f2:=s2.cell 2;simp at f0 f1 f2;refine bodyPost_ret (v:=.tuple #[.agg #[.bool false,.slice none 0 0,.slice none 0 0],.int .i64 5]) (by simp[results,Tryz.results90,go_sem,f0,f1,f2]) rfl ⟨rfl,?_⟩;exact ((y2.out.setCell (Nat.le_refl _) _).setCell (Nat.le_refl _) _).setCell (Nat.le_refl _) _)
 ·have i1:=a0Z (l:=[48]) h1;have i2:=a0Z (l:=[48]) h2;have i3:=a0Z (l:=[49]) h3;rcases hl with hl | ⟨hl,-,hl2⟩
  ·have q0:decide ((4000:Int)<(D.size:Int))=true:=by simp;omega
   clear hl;go_enter Tryz.func90,Tryz.ntmps90
   go_wp2_with (first
    | (go_at_call 128;refine (HK.out.cut _ t2.out).mono ?_;rintro e w1 ⟨rfl,hb1⟩
       have x1:=hid (t0.out.call hb1);have y1:=hid (a0a t1.out hb1);clear hb1)
    | (go_at_call 129;refine (HK.out.int _).mono ?_;rintro e w2 ⟨rfl,hb2⟩
       have x2:=hid (x1.out.call hb2);have y2:=hid (a0a y1.out hb2);clear hb2;have d0:=x2.out.cell 0;have d1:=x2.out.cell 1;have d2:=x2.out.cell 2;have e0:=x2.out.free 0;have e1:=x2.out.free 1;have e2:=x2.out.free 2;simp at d0 d1 d2)
    | (go_at_call 130;refine (HK.out.form _).mono ?_;rintro e w3 ⟨rfl,hb3⟩
       have x3:=hid (x2.out.call hb3);have y3:=hid (a0a y2.out hb3);clear hb3 d0 d1 d2 e0 e1 e2;have d0:=x3.out.cell 0;have d1:=x3.out.cell 1;have d2:=x3.out.cell 2;have e0:=x3.out.free 0;have e1:=x3.out.free 1;have e2:=x3.out.free 2;simp at d0 d1 d2)
    | fail)
   first
    | (obtain⟨s1,s2⟩:=b0d x3.out false none none 0 0 0 0
       have f0:=s2.cell 0;have f1:=s2.cell 1;have f2:=s2.cell 2;simp at f0 f1 f2;refine bodyPost_ret (v:=.tuple #[.agg #[.bool false,.slice none 0 0,.slice none 0 0],.int .i64 5]) (by simp[results,Tryz.results90,go_sem,f0,f1,f2]) rfl ⟨rfl,?_⟩;exact ((y3.out.setCell (Nat.le_refl _) _).setCell (Nat.le_refl _) _).setCell (Nat.le_refl _) _)
    | (obtain⟨s1,s2⟩:=b0d x2.out false none none 0 0 0 0
       have f0:=s2.cell 0;have f1:=s2.cell 1;have f2:=s2.cell 2;simp at f0 f1 f2;refine bodyPost_ret (v:=.tuple #[.agg #[.bool false,.slice none 0 0,.slice none 0 0],.int .i64 5]) (by simp[results,Tryz.results90,go_sem,f0,f1,f2]) rfl ⟨rfl,?_⟩;exact ((y2.out.setCell (Nat.le_refl _) _).setCell (Nat.le_refl _) _).setCell (Nat.le_refl _) _)
  ·have q0:decide ((4000:Int)<(D.size:Int))=false:=by simp;omega
   have q1:decide ((4000:Int)<(B.size:Int))=true:=by simp;omega
   clear hl hl2;go_enter Tryz.func90,Tryz.ntmps90
   go_wp2_with (first
    | (go_at_call 128;refine (HK.out.cut _ t2.out).mono ?_;rintro e w1 ⟨rfl,hb1⟩
       have x1:=hid (t0.out.call hb1);have y1:=hid (a0a t1.out hb1);clear hb1)
    | (go_at_call 129;refine (HK.out.int _).mono ?_;rintro e w2 ⟨rfl,hb2⟩
       have x2:=hid (x1.out.call hb2);have y2:=hid (a0a y1.out hb2);clear hb2;have d0:=x2.out.cell 0;have d1:=x2.out.cell 1;have d2:=x2.out.cell 2;have e0:=x2.out.free 0;have e1:=x2.out.free 1;have e2:=x2.out.free 2;simp at d0 d1 d2)
    | (go_at_call 130;refine (HK.out.form _).mono ?_;rintro e w3 ⟨rfl,hb3⟩
       have x3:=hid (x2.out.call hb3);have y3:=hid (a0a y2.out hb3);clear hb3 d0 d1 d2 e0 e1 e2;have d0:=x3.out.cell 0;have d1:=x3.out.cell 1;have d2:=x3.out.cell 2;have e0:=x3.out.free 0;have e1:=x3.out.free 1;have e2:=x3.out.free 2;simp at d0 d1 d2)
    | fail)
   first
    | (obtain⟨s1,s2⟩:=b0d x3.out false none none 0 0 0 0
       have f0:=s2.cell 0;have f1:=s2.cell 1;have f2:=s2.cell 2;simp at f0 f1 f2;refine bodyPost_ret (v:=.tuple #[.agg #[.bool false,.slice none 0 0,.slice none 0 0],.int .i64 5]) (by simp[results,Tryz.results90,go_sem,f0,f1,f2]) rfl ⟨rfl,?_⟩;exact ((y3.out.setCell (Nat.le_refl _) _).setCell (Nat.le_refl _) _).setCell (Nat.le_refl _) _)
    | (obtain⟨s1,s2⟩:=b0d x2.out false none none 0 0 0 0
       have f0:=s2.cell 0;have f1:=s2.cell 1;have f2:=s2.cell 2;simp at f0 f1 f2;refine bodyPost_ret (v:=.tuple #[.agg #[.bool false,.slice none 0 0,.slice none 0 0],.int .i64 5]) (by simp[results,Tryz.results90,go_sem,f0,f1,f2]) rfl ⟨rfl,?_⟩;exact ((y2.out.setCell (Nat.le_refl _) _).setCell (Nat.le_refl _) _).setCell (Nat.le_refl _) _)
def IsF (w:World)(v:Value)(m:Bool)(n d:Nat):Prop:=∃ N D,v=.agg #[.bool m,N,D]∧IsN .u64 w N n∧IsN .u64 w D d
def RetF (x:Int)(m:Bool)(n d:Nat)(e:Ending)(w':World):Prop:=∃ v,e=.returned (.tuple #[v,.int .i64 x])∧(x=0→IsF w' v m n d)∧(x≠0→v=.agg #[.bool false,.slice none 0 0,.slice none 0 0])
theorem RetF.err {x:Int}{m:Bool}{n d:Nat}{w':World}(h:x≠0):RetF x m n d (.returned (.tuple #[.agg #[.bool false,.slice none 0 0,.slice none 0 0],.int .i64 x])) w':=⟨_,rfl,fun e=>absurd e h,fun _=>rfl⟩
theorem p0P (w:World)(s W B D:ByteArray)(M:Bool)(HL:Hid (Lay w))(HC:Cuts s W B D true M true true)
 (h1:¬ D=⟨#[48]⟩) (h2:¬ B=⟨#[48]⟩) (h3:¬ B=⟨#[49]⟩) (hl1:¬ 4000<D.size) (hl2:¬ 4000<B.size) (hd1:allDig D.data.toList) (hd2:allDig B.data.toList):
 Calls Tryz.prog 90 #[.string s] w fun e w'=>RetF (if Nat.gcd (bN D) (bN B)=1 then 0 else 3) M (bN D) (bN B) e w'∧Below w.heap.size w w':=by
 obtain⟨xc,hxc⟩:∃ x:Int,(if Nat.gcd (bN D) (bN B)=1 then 0 else 3)=x:=⟨_,rfl⟩;rw[hxc];have HXC:=hid hxc;clear hxc;have HK:=hid HC;clear HC;have t0:=hid (Blk.new w #[.bool false,.slice none 0 0,.slice none 0 0] 57);have t1:=hid ((Below.refl w.heap.size w).alloc (Nat.le_refl _) (.cells #[.bool false,.slice none 0 0,.slice none 0 0] 57));have t2:=hid (HL.out.call t1.out);have i1:=a0Z (l:=[48]) h1;have i2:=a0Z (l:=[48]) h2;have i3:=a0Z (l:=[49]) h3;have q0:decide ((4000:Int)<(D.size:Int))=false:=by simp;omega
 have q1:decide ((4000:Int)<(B.size:Int))=false:=by simp;omega
 have L1:=hid (d0t hd1 hl1);have L2:=hid (d0t hd2 hl2);have P1:=fun W=>hid (f0Y W D hd1 (by omega))
 have P2:=fun W=>hid (f0Y W B hd2 (by omega))
 clear hd1 hd2 h1 h2 h3 hl1 hl2;go_enter Tryz.func90,Tryz.ntmps90
 go_wp2_with (first
  | (go_at_call 128;refine (HK.out.cut _ t2.out).mono ?_;rintro e w1 ⟨rfl,hb1⟩
     have x1:=hid (t0.out.call hb1);have y1:=hid (a0a t1.out hb1);clear hb1)
  | (go_at_call 129;refine (HK.out.int _).mono ?_;rintro e w2 ⟨rfl,hb2⟩
     have x2:=hid (x1.out.call hb2);have y2:=hid (a0a y1.out hb2);clear hb2)
  | (go_at_call 130;refine (HK.out.form _).mono ?_;rintro e w3 ⟨rfl,hb3⟩
     have x3:=hid (x2.out.call hb3);have y3:=hid (a0a y2.out hb3);clear hb3)
  | fail)
 refine (P1 _).out.mono ?_;rintro e w4 ⟨⟨v4,rfl,hv4⟩,hb4⟩;have x4:=hid (x3.out.call hb4);have y4:=hid (a0a y3.out hb4);have N4:=hid hv4;clear hb4 hv4;obtain⟨a4,c4,rfl,_⟩:=N4.out.openI;obtain⟨k1,hk1⟩:∃ k,(limbs (dv D.data.toList)).length=k:=⟨_,rfl⟩;rw[hk1]at N4 ⊢;clear P1;go_wp2_with fail;refine (P2 _).out.mono ?_;rintro e w5 ⟨⟨v5,rfl,hv5⟩,hb5⟩;have x5:=hid (x4.out.call hb5);have y5:=hid (a0a y4.out hb5);have N5:=hid (N4.out.call hb5);have D5:=hid hv5;clear hb5 hv5;obtain⟨a5,c5,rfl,_⟩:=D5.out.openI;obtain⟨k2,hk2⟩:∃ k,(limbs (dv B.data.toList)).length=k:=⟨_,rfl⟩;rw[hk2]at D5 ⊢;clear P2;go_wp2_with fail;have z5:=hid (Blk.new w5 #[.bool M,.slice a4 k1 c4,.slice a5 k2 c5] 57);have b5:=hid ((Below.refl w5.heap.size w5).alloc (Nat.le_refl _) (.cells #[.bool M,.slice a4 k1 c4,.slice a5 k2 c5] 57));refine (r0s _ _ _ _ _ (N5.out.call b5.out) (D5.out.call b5.out) L1.out L2.out).mono ?_;rintro e w6 ⟨⟨v6,rfl,hv6⟩,hb6⟩;have z6:=hid (z5.out.call hb6);have x6:=hid ((x5.out.call b5.out).call hb6);have y6:=hid (a0a (a0a y5.out b5.out) hb6);have N6:=hid ((N5.out.call b5.out).call hb6);have D6:=hid ((D5.out.call b5.out).call hb6);have G6:=hid hv6;clear hb6 hv6;obtain⟨a6,c6,rfl,_⟩:=G6.out.openI;go_wp2_with fail;refine (h0P _ _ _ G6.out).mono ?_;rintro e w7 ⟨rfl,rfl⟩;by_cases hG:Nat.gcd (bN D) (bN B)=1
 ·have hO:isO (Nat.gcd (dv D.data.toList) (dv B.data.toList))=true:=c0Q.2 hG;have X0:=hid (show xc=0 from by rw[← HXC.out,if_pos hG]);rw[hO];have d0:=x6.out.cell 0;have d1:=x6.out.cell 1;have d2:=x6.out.cell 2;have e0:=x6.out.free 0;have e1:=x6.out.free 1;have e2:=x6.out.free 2;have g0:=z6.out.cell 0;have g1:=z6.out.cell 1;have g2:=z6.out.cell 2;simp at d0 d1 d2 g0 g1 g2;clear hO;have HG:=hid hG;clear hG;go_wp2_with fail;obtain⟨s1,s2⟩:=b0d x6.out M a4 a5 k1 c4 k2 c5;have f0:=s2.cell 0;have f1:=s2.cell 1;have f2:=s2.cell 2;simp at f0 f1 f2;refine bodyPost_ret (v:=.tuple #[.agg #[.bool M,.slice a4 k1 c4,.slice a5 k2 c5],.int .i64 0]) (by simp[results,Tryz.results90,go_sem,f0,f1,f2]) rfl ⟨by rw[X0.out];exact⟨_,rfl,fun _=>⟨_,_,rfl,s1 _ _ _ N6.out,s1 _ _ _ D6.out⟩,fun h=>absurd rfl h⟩,?_⟩;exact ((y6.out.setCell (Nat.le_refl _) _).setCell (Nat.le_refl _) _).setCell (Nat.le_refl _) _
 ·have hO:isO (Nat.gcd (dv D.data.toList) (dv B.data.toList))=false:=by
   rw[Bool.eq_false_iff];exact fun h=>hG (c0Q.1 h)
  have X0:=hid (show xc=3 from by rw[← HXC.out,if_neg hG]);rw[hO];have d0:=x6.out.cell 0;have d1:=x6.out.cell 1;have d2:=x6.out.cell 2;have e0:=x6.out.free 0;have e1:=x6.out.free 1;have e2:=x6.out.free 2;simp at d0 d1 d2;clear hO;have HG:=hid hG;clear hG;go_wp2_with fail;obtain⟨s1,s2⟩:=b0d x6.out false none none 0 0 0 0;have f0:=s2.cell 0;have f1:=s2.cell 1;have f2:=s2.cell 2;simp at f0 f1 f2;refine bodyPost_ret (v:=.tuple #[.agg #[.bool false,.slice none 0 0,.slice none 0 0],.int .i64 3]) (by simp[results,Tryz.results90,go_sem,f0,f1,f2]) rfl ⟨by rw[X0.out];exact RetF.err (by decide),?_⟩;exact ((y6.out.setCell (Nat.le_refl _) _).setCell (Nat.le_refl _) _).setCell (Nat.le_refl _) _
theorem r0v (w:World)(s W B D:ByteArray)(M fb:Bool)(HL:Hid (Lay w))(HC:Cuts s W B D false M true fb)
 (hl1:¬ 4000<D.size) (hd1:allDig D.data.toList):
 Calls Tryz.prog 90 #[.string s] w fun e w'=>RetF 0 M (bN D) 1 e w'∧Below w.heap.size w w':=by
 have HK:=hid HC;clear HC;have t0:=hid (Blk.new w #[.bool false,.slice none 0 0,.slice none 0 0] 57);have t1:=hid ((Below.refl w.heap.size w).alloc (Nat.le_refl _) (.cells #[.bool false,.slice none 0 0,.slice none 0 0] 57));have t2:=hid (HL.out.call t1.out);have q0:decide ((4000:Int)<(D.size:Int))=false:=by simp;omega
 have P1:=fun W=>hid (f0Y W D hd1 (by omega))
 have P2:=fun W=>hid (f0Y W ⟨#[49]⟩ (by intro b hb;simp at hb;subst hb;rfl) (Nat.succ_le_succ (Nat.zero_le _)))
 clear hd1 hl1;go_enter Tryz.func90,Tryz.ntmps90
 go_wp2_with (first
  | (go_at_call 128;refine (HK.out.cut _ t2.out).mono ?_;rintro e w1 ⟨rfl,hb1⟩
     have x1:=hid (t0.out.call hb1);have y1:=hid (a0a t1.out hb1);clear hb1)
  | (go_at_call 129;refine (HK.out.int _).mono ?_;rintro e w2 ⟨rfl,hb2⟩
     have x2:=hid (x1.out.call hb2);have y2:=hid (a0a y1.out hb2);clear hb2)
  | fail)
 refine (P1 _).out.mono ?_;rintro e w4 ⟨⟨v4,rfl,hv4⟩,hb4⟩;have x4:=hid (x2.out.call hb4);have y4:=hid (a0a y2.out hb4);have N4:=hid hv4;clear hb4 hv4;obtain⟨a4,c4,rfl,_⟩:=N4.out.openI;obtain⟨k1,hk1⟩:∃ k,(limbs (dv D.data.toList)).length=k:=⟨_,rfl⟩;rw[hk1]at N4 ⊢;clear P1;go_wp2_with fail;refine (P2 _).out.mono ?_;rintro e w5 ⟨⟨v5,rfl,hv5⟩,hb5⟩;have x5:=hid (x4.out.call hb5);have y5:=hid (a0a y4.out hb5);have N5:=hid (N4.out.call hb5);have D5:=hid (show IsN .u64 w5 v5 1 from hv5);clear hb5 hv5;obtain⟨a5,c5,rfl,_⟩:=D5.out.openI;obtain⟨k2,hk2⟩:∃ k,(limbs 1).length=k:=⟨_,rfl⟩;rw[hk2]at D5 ⊢;clear P2;have z6:=hid (Blk.new w5 #[.bool M,.slice a4 k1 c4,.slice a5 k2 c5] 57);have b5:=hid ((Below.refl w5.heap.size w5).alloc (Nat.le_refl _) (.cells #[.bool M,.slice a4 k1 c4,.slice a5 k2 c5] 57));have x6:=hid (x5.out.call b5.out);have y6:=hid (a0a y5.out b5.out);have N6:=hid (N5.out.call b5.out);have D6:=hid (D5.out.call b5.out);have d0:=x6.out.cell 0;have d1:=x6.out.cell 1;have d2:=x6.out.cell 2;have e0:=x6.out.free 0;have e1:=x6.out.free 1;have e2:=x6.out.free 2;have g0:=z6.out.cell 0;have g1:=z6.out.cell 1;have g2:=z6.out.cell 2;simp at d0 d1 d2 g0 g1 g2;go_wp2_with fail;obtain⟨s1,s2⟩:=b0d x6.out M a4 a5 k1 c4 k2 c5;have f0:=s2.cell 0;have f1:=s2.cell 1;have f2:=s2.cell 2;simp at f0 f1 f2;refine bodyPost_ret (v:=.tuple #[.agg #[.bool M,.slice a4 k1 c4,.slice a5 k2 c5],.int .i64 0]) (by simp[results,Tryz.results90,go_sem,f0,f1,f2]) rfl ⟨⟨_,rfl,fun _=>⟨_,_,rfl,s1 _ _ _ N6.out,s1 _ _ _ D6.out⟩,fun h=>absurd rfl h⟩,?_⟩;exact ((y6.out.setCell (Nat.le_refl _) _).setCell (Nat.le_refl _) _).setCell (Nat.le_refl _) _
theorem e0K (w:World)(s:ByteArray)(hs:s.size≤1000000)(hL:Lay w):
 Calls Tryz.prog 90 #[.string s] w fun e w'=>RetF (qE s) (iM (cW s)) (bN (iD (cW s))) (bN (qD s)) e w'∧Below w.heap.size w w':=by
 have HC:=p0Y s hs;have HL:=hid hL;by_cases hq:qB s=true
 ·have hi:=d0f hq;rw[hi]at HC;have hdD:=f0t (g0c hi);have hcS:cS s=false∨(cS s=true∧¬ iD (cW s)=⟨#[48]⟩∧¬ cB s=⟨#[48]⟩∧¬ cB s=⟨#[49]⟩∧fB (cB s)=true):=by
   have hq':=hq;unfold qB at hq';simp only[Bool.and_eq_true,Bool.or_eq_true,Bool.not_eq_true',decide_eq_true_eq]at hq';rcases hq'.2 with h | h
   ·exact .inl h
   ·cases hc:cS s
    ·exact .inl rfl
    ·exact .inr ⟨rfl,h.1.1.1,h.1.2,h.2,h.1.1.2⟩
  by_cases hl:qL s=true
  ·have e:qE s=5:=by simp[qE,hq,hl]
   rw[e];unfold qL at hl;simp only[Bool.or_eq_true,decide_eq_true_eq]at hl;refine (p0O w s _ _ _ _ _ _ HL HC hcS ?_).mono ?_
   ·by_cases h4:4000<(iD (cW s)).size
    ·exact .inl h4
    ·refine .inr ⟨h4,?_⟩;rcases hcS with hc | ⟨hc,-⟩
     ·rw[d0e hc]at hl;exact absurd (hl.resolve_left h4) (by decide)
     ·rw[b0C hc]at hl;exact⟨hc,hl.resolve_left h4⟩
   ·rintro e w' ⟨rfl,hb⟩;exact⟨RetF.err (by decide),hb⟩
  ·have hl':qL s=false:=by simpa using hl
   have hl1:¬ 4000<(iD (cW s)).size∧¬ 4000<(qD s).size:=by
    unfold qL at hl';simpa using hl'
   rcases hcS with hc | ⟨hc,h1,h2,h3,h4⟩
   ·rw[hc]at HC;have e:qE s=0:=by simp[qE,hq,hl',qG,hc]
    rw[e,d0e hc];exact r0v w s _ _ _ _ _ HL HC hl1.1 hdD
   ·rw[hc,h4]at HC;have hl2:=hl1.2;rw[b0C hc]at hl2;have e:qE s=if Nat.gcd (bN (iD (cW s))) (bN (cB s))=1 then 0 else 3:=by
     simp only[qE,hq,hl',qG,hc,b0C hc];by_cases hg:Nat.gcd (bN (iD (cW s))) (bN (cB s))=1<;>simp[hg]
    rw[e,b0C hc];exact p0P w s _ _ _ _ HL HC h1 h2 h3 hl1.1 hl2 hdD (f0t h4)
 ·have hq':qB s=false:=by simpa using hq
  have e:qE s=3:=by simp[qE,hq']
  rw[e];refine (r0w w s _ _ _ _ _ _ _ HL HC hq').mono ?_;rintro e w' ⟨rfl,hb⟩;exact⟨RetF.err (by decide),hb⟩
open Go.Lib (decDigits nDigits)
def wB (R:ByteArray)(s:ByteArray):ByteArray:=if qE s=0 then R else ⟨#[]⟩
def wE (x:Int)(s:ByteArray):Int:=if qE s=0 then x else qE s
theorem i0L {w:World}{v:Value}{s:ByteArray}(hq:qE s=0)(h:IsF w v (iM (cW s)) (bN (iD (cW s))) (bN (qD s))):IsQ .u64 w v (vQ s):=by
 obtain⟨N,D,rfl,h1,h2⟩:=h;obtain⟨e1,e2,e3⟩:=h0o hq;exact⟨N,D,by rw[e1],by rw[e2];exact h1,by rw[e3];exact h2⟩
end Go.Proofs.YtlimaehdmcnjaaaGreatDoor
namespace Go.Proofs.YtlimaehdmcnjaaaGreatDoor
open Go.RowKit
def m0G (b:Nat)(m1 m2:Bool)(n1 d1 n2 d2:Value)(w:World):Prop:=
 w.cell? ⟨b,0,none⟩=some (.bool m1)∧w.cell? ⟨b,1,none⟩=some n1∧w.cell? ⟨b,2,none⟩=some d1∧w.cell? ⟨b+1,0,none⟩=some (.bool m2)∧w.cell? ⟨b+1,1,none⟩=some n2∧w.cell? ⟨b+1,2,none⟩=some d2
structure Three (w W:World)(m1 m2:Bool)(n1 d1 n2 d2:Value):Prop where
 below:Below w.heap.size w W
 size:W.heap.size=w.heap.size+3
 b0:Blk W w.heap.size #[.bool m1,n1,d1] 57
 b1:Blk W (w.heap.size+1) #[.bool m2,n2,d2] 57
 b2:Blk W (w.heap.size+1+1) #[.bool false,.slice none 0 0,.slice none 0 0] 57
theorem Three.mk' {w W:World}{m1 m2:Bool}{n1 d1 n2 d2:Value}(h:((w.alloc (.cells #[.bool m1,n1,d1] 57)).alloc (.cells #[.bool m2,n2,d2] 57)).alloc (.cells #[.bool false,.slice none 0 0,.slice none 0 0] 57)=W):Three w W m1 m2 n1 d1 n2 d2:=by
 subst h;exact⟨(((Below.refl _ _).alloc (Nat.le_refl _) _).alloc (by simp) _).alloc (by simp;omega) _,by simp,((Blk.new w _ _).alloc _).alloc _,(Blk.made (w.alloc _) _ _ (by simp)).alloc _,Blk.made ((w.alloc _).alloc _) _ _ (by simp)⟩
theorem Three.cells {w W V:World}{m1 m2:Bool}{n1 d1 n2 d2:Value}(h:Three w W m1 m2 n1 d1 n2 d2)(hb:Below W.heap.size W V):m0G w.heap.size m1 m2 n1 d1 n2 d2 V:=
 have y0:=h.b0.call hb;have y1:=h.b1.call hb
 ⟨y0.cell 0,y0.cell 1,y0.cell 2,y1.cell 0,y1.cell 1,y1.cell 2⟩
theorem Three.stored {w W V:World}{m1 m2:Bool}{n1 d1 n2 d2:Value}(h:Three w W m1 m2 n1 d1 n2 d2)(hb:Below W.heap.size W V)(x y z:Value):m0G w.heap.size m1 m2 n1 d1 n2 d2 (((V.setCell ⟨w.heap.size+1+1,0,none⟩ x).setCell ⟨w.heap.size+1+1,1,none⟩ y).setCell ⟨w.heap.size+1+1,2,none⟩ z):=
 have y0:=((((h.b0.call hb).other (a:=⟨w.heap.size+1+1,0,none⟩) (by simp;omega) x).other (a:=⟨w.heap.size+1+1,1,none⟩) (by simp;omega) y).other (a:=⟨w.heap.size+1+1,2,none⟩) (by simp;omega) z);have y1:=((((h.b1.call hb).other (a:=⟨w.heap.size+1+1,0,none⟩) (by simp) x).other (a:=⟨w.heap.size+1+1,1,none⟩) (by simp) y).other (a:=⟨w.heap.size+1+1,2,none⟩) (by simp) z)
 ⟨y0.cell 0,y0.cell 1,y0.cell 2,y1.cell 0,y1.cell 1,y1.cell 2⟩
theorem s0l (w:World)(v u:Value)(p q:Rat)(hp:IsQ .u64 w v p)(hq:IsQ .u64 w u q)
 (h1:(limbs p.num.natAbs).length≤100000) (h2:(limbs p.den).length≤100000) (h3:(limbs q.num.natAbs).length≤100000) (h4:(limbs q.den).length≤100000):
 Calls Tryz.prog 101 #[v,u] w fun e w'=>d0Q .u64 (p*q) e w'∧Below w.heap.size w w':=by
 have hq0:=h0y p q;obtain⟨Q,hQ⟩:∃ Q,p*q=Q:=⟨_,rfl⟩;rw[hQ]at hq0 ⊢;have hD:=hid (Nat.mul_pos p.den_pos q.den_pos);obtain⟨N1,D1,rfl,hn1,hd1⟩:=hp.ex;obtain⟨N2,D2,rfl,hn2,hd2⟩:=hq.ex;clear hp hq hQ;generalize decide (p.num<0)=m1 at *
 generalize decide (q.num<0)=m2 at *
 generalize p.num.natAbs=n1 at *
 generalize q.num.natAbs=n2 at *
 generalize p.den=d1 at *
 generalize q.den=d2 at *
 have HQ:=hid hq0;clear hq0;have HN1:=hid hn1;have HD1:=hid hd1;have HN2:=hid hn2;have HD2:=hid hd2;have L1:=hid (Nat.le_trans (d0E h1 h3) (show 100000+100000≤1000000 by omega));have L2:=hid (Nat.le_trans (d0E h2 h4) (show 100000+100000≤1000000 by omega));have H1:=hid (Nat.le_trans h1 (show 100000≤1000000 by omega));have H2:=hid (Nat.le_trans h2 (show 100000≤1000000 by omega));have H3:=hid (Nat.le_trans h3 (show 100000≤1000000 by omega));have H4:=hid (Nat.le_trans h4 (show 100000≤1000000 by omega));clear h1 h2 h3 h4;obtain⟨a1,c1,rfl,_⟩:=hn1.openI;obtain⟨a2,c2,rfl,_⟩:=hd1.openI;obtain⟨a3,c3,rfl,_⟩:=hn2.openI;obtain⟨a4,c4,rfl,_⟩:=hd2.openI;clear hn1 hd1 hn2 hd2;go_enter Tryz.func101,Tryz.ntmps101;go_wp2_with fail;obtain⟨W,hW⟩:∃ W,((w.alloc (.cells #[.bool m1,.slice a1 (limbs n1).length c1,.slice a2 (limbs d1).length c2] 57)).alloc (.cells #[.bool m2,.slice a3 (limbs n2).length c3,.slice a4 (limbs d2).length c4] 57)).alloc (.cells #[.bool false,.slice none 0 0,.slice none 0 0] 57)=W:=⟨_,rfl⟩;have T:=hid (Three.mk' hW);rw[hW];clear hW;have hS:=T.out.cells (Below.refl _ _).drew;have B0:=hid (T.out.below.drew);have C0:=hid ((Below.refl W.heap.size W).drew);refine a0f [0,1,2,3,4,5,6,7,8,10,11,12,13] 4 (m0G w.heap.size m1 m2 (.slice a1 (limbs n1).length c1) (.slice a2 (limbs d1).length c2) (.slice a3 (limbs n2).length c3) (.slice a4 (limbs d2).length c4)) (by kernel_rfl) (by kernel_rfl) (by kernel_rfl) (by kernel_rfl) hS ?_
 iterate 13
  refine⟨_,rfl,?_⟩;apply Exists.intro
  refine⟨.inl ⟨by rfl,?_⟩,?_⟩
  ·(intro W' hW';obtain⟨q1,q2,q3,q4,q5,q6⟩:=hW';go_simp;try (with_reducible rfl))
  (dsimp only[Act.put];try simp only[List.setIfInBounds_toArray,List.set_cons_zero,List.set_cons_succ])
 clear hS;refine a0b (i:=9) (by kernel_rfl) (by rfl) (by rfl) ?_;go_wp2_with fail;refine (h0Q _ _ _ n1 n2 (HN1.out.call B0.out) (HN2.out.call B0.out) H1.out H3.out).mono ?_;rintro e w1 ⟨⟨v1,rfl,hv1⟩,hb1⟩;have B1:=hid (B0.out.trans (hb1.mono B0.out.size));have C1:=hid (a0a C0.out hb1);have V1:=hid hv1;clear hb1 hv1;go_wp2_with fail;refine⟨T.out.cells C1.out,?_⟩;refine a0b (i:=14) (by kernel_rfl) (by rfl) (by rfl) ?_;go_wp2_with fail;refine (h0Q _ _ _ d1 d2 (HD1.out.call B1.out) (HD2.out.call B1.out) H2.out H4.out).mono ?_;rintro e w2 ⟨⟨v2,rfl,hv2⟩,hb2⟩;have B2:=hid (B1.out.trans (hb2.mono B1.out.size));have C2:=hid (a0a C1.out hb2);have V2:=hid hv2;have W1:=hid (V1.out.call hb2);clear hb2 hv2;go_wp2_with fail;refine⟨T.out.cells C2.out,?_⟩;refine a0b (i:=15) (by kernel_rfl) (by rfl) (by rfl) ?_;go_wp2_with fail;refine (i0U _ _ _ _ (n1*n2) (d1*d2) W1.out V2.out hD.out L1.out L2.out).mono ?_;rintro e w3 ⟨⟨v3,rfl,hv3⟩,hb3⟩;have hbn:(!(m1==m2))=(m1 != m2):=rfl;rw[hbn,HQ.out]at hv3;clear hbn;have B3:=hid (B2.out.trans (hb3.mono B2.out.size));have C3:=hid (a0a C2.out hb3);clear hb3;obtain⟨N3,D3,rfl,hN3,hD3⟩:=hv3.ex;obtain⟨a5,c5,rfl,_⟩:=hN3.openI;obtain⟨a6,c6,rfl,_⟩:=hD3.openI;obtain⟨k5,hk5⟩:∃ k,(limbs Q.num.natAbs).length=k:=⟨_,rfl⟩;obtain⟨k6,hk6⟩:∃ k,(limbs Q.den).length=k:=⟨_,rfl⟩;obtain⟨mq,hmq⟩:∃ m,decide (Q.num<0)=m:=⟨_,rfl⟩;rw[hk5]at hN3 ⊢;rw[hk6]at hD3 ⊢;rw[hmq];have HN3:=hid hN3;have HD3:=hid hD3;have HMQ:=hid hmq;have Z:=hid (T.out.b2.call C3.out);have t0:=Z.out.cell 0;have t1:=Z.out.cell 1;have t2:=Z.out.cell 2;have t3:=Z.out.free 0;have t4:=Z.out.free 1;have t5:=Z.out.free 2;simp at t0 t1 t2;clear hv3 hN3 hD3 hk5 hk6 hmq;go_wp2_with fail;refine⟨T.out.cells C3.out,?_⟩;refine a0b (i:=16) (by kernel_rfl) (by rfl) (by rfl) ?_;go_wp2_with fail;refine⟨T.out.stored C3.out _ _ _,?_⟩;refine wpAnyH_done (by kernel_rfl) ?_ _;simp only[a0o];obtain⟨s1,s2⟩:=b0d Z.out mq a5 a6 k5 c5 k6 c6;have f0:=s2.cell 0;have f1:=s2.cell 1;have f2:=s2.cell 2;simp at f0 f1 f2;clear t0 t1 t2 t3 t4 t5;go_wp2_with fail;refine bodyPost_ret (v:=.agg #[.bool mq,.slice a5 k5 c5,.slice a6 k6 c6]) (by simp[results,Tryz.results101,go_sem,f0,f1,f2]) rfl ⟨⟨_,rfl,⟨.slice a5 k5 c5,.slice a6 k6 c6,by rw[HMQ.out],s1 _ _ _ HN3.out,s1 _ _ _ HD3.out⟩⟩,?_⟩;exact ((B3.out.setCell (by simp;omega) _).setCell (by simp;omega) _).setCell (by simp;omega) _
open Go.Lib (decDigits nDigits)
theorem s0m (w:World)(v:Value)(q:Rat)(h:IsQ .u64 w v q)(h0:q≠0):
 Calls Tryz.prog 102 #[v] w fun e w'=>d0Q .u64 q⁻¹ e w'∧Below w.heap.size w w':=by
 obtain⟨N,D,rfl,hn,hd⟩:=h.ex;obtain⟨m,hm⟩:∃ m,decide (q.num<0)=m:=⟨_,rfl⟩;have HN:=hid hn;have HD:=hid hd;have HM:=hid hm;have H0:=hid h0;rw[hm];obtain⟨a1,c1,rfl,_⟩:=hn.openI;obtain⟨a2,c2,rfl,_⟩:=hd.openI;clear hn hd hm h0 h;go_enter Tryz.func102,Tryz.ntmps102;go_wp2_with fail;obtain⟨p1,p2,p3⟩:=d0H H0.out;have B:=((Below.refl w.heap.size w).alloc (Nat.le_refl _) (.cells #[.bool m,.slice a1 (limbs q.num.natAbs).length c1,.slice a2 (limbs q.den).length c2] 57)).alloc (by simp) (.cells #[.bool m,.slice a2 (limbs q.den).length c2,.slice a1 (limbs q.num.natAbs).length c1] 57);refine bodyPost_ret (v:=.agg #[.bool m,.slice a2 (limbs q.den).length c2,.slice a1 (limbs q.num.natAbs).length c1]) (by simp[results,Tryz.results102,go_sem]) rfl ⟨⟨_,rfl,⟨_,_,rfl.trans ?_,by rw[p2];exact HD.out.call B,by rw[p3];exact HN.out.call B⟩⟩,B⟩;rw[p1,HM.out]
def sgQ (q:Rat):Int:=if q.num=0 then 0 else if q.num<0 then -1 else 1
theorem m0Q {q:Rat}(h:q.num=0):sgQ q=0:=if_pos h
theorem o0M {q:Rat}(h:¬ q.num=0)(h2:q.num<0):sgQ q = -1:=by rw[sgQ,if_neg h,if_pos h2]
theorem o0L {q:Rat}(h:¬ q.num=0)(h2:¬ q.num<0):sgQ q=1:=by rw[sgQ,if_neg h,if_neg h2]
theorem i0T (w:World)(v:Value)(q:Rat)(h:IsQ .u64 w v q):
 Calls Tryz.prog 38 #[v] w fun e w'=>e=.returned (.int .i64 (sgQ q))∧Below w.heap.size w w':=by
 obtain⟨N,D,rfl,hn,hd⟩:=h.ex;obtain⟨m,hm⟩:∃ m,decide (q.num<0)=m:=⟨_,rfl⟩;have HN:=hid hn;have HM:=hid hm;rw[hm];obtain⟨a1,c1,rfl,_⟩:=hn.openI;obtain⟨a2,c2,rfl,_⟩:=hd.openI;obtain⟨k1,hk1⟩:∃ k,(limbs q.num.natAbs).length=k:=⟨_,rfl⟩;obtain⟨k2,hk2⟩:∃ k,(limbs q.den).length=k:=⟨_,rfl⟩;rw[hk1]at HN ⊢;rw[hk2];have b0:=hid ((Below.refl w.heap.size w).alloc (Nat.le_refl _) (.cells #[.bool m,.slice a1 k1 c1,.slice a2 k2 c2] 57));have N0:=hid (HN.out.call b0.out);clear hn hd hm h hk1 hk2;go_enter Tryz.func38,Tryz.ntmps38;go_wp2_with fail;refine (f0n _ _ _ N0.out).mono ?_;rintro e w1 ⟨rfl,rfl⟩;by_cases hz:q.num=0
 ·have h1:isZ q.num.natAbs=true:=l0w.2 (by omega);rw[h1];have HZ:=hid hz;clear h1 hz;go_wp2_with fail;go_ret
  exact⟨a0G (m0Q HZ.out).symm,b0.out⟩
 ·have h1:isZ q.num.natAbs=false:=decide_eq_false (by omega);rw[h1];have HZ:=hid hz;clear h1 hz;cases m
  ·go_wp2_with fail;go_ret
   exact⟨a0G (o0L HZ.out (of_decide_eq_false HM.out)).symm,b0.out⟩
  ·go_wp2_with fail;go_ret
   exact⟨a0G (o0M HZ.out (of_decide_eq_true HM.out)).symm,b0.out⟩
theorem j0C {q:Rat}{m:Bool}(hm:decide (q.num<0)=m):decide ((-q).num<0)=(!m && !isZ q.num.natAbs)∧(-q).num.natAbs=q.num.natAbs∧(-q).den=q.den:=by
 refine⟨?_,by rw[Rat.neg_num,Int.natAbs_neg],Rat.neg_den q⟩;rw[Rat.neg_num,← hm,Bool.eq_iff_iff];unfold isZ;simp only[Bool.and_eq_true,Bool.not_eq_true',decide_eq_true_eq,decide_eq_false_iff_not];omega
theorem s0k (w:World)(v:Value)(q:Rat)(h:IsQ .u64 w v q):
 Calls Tryz.prog 96 #[v] w fun e w'=>d0Q .u64 (-q) e w'∧Below w.heap.size w w':=by
 obtain⟨N,D,rfl,hn,hd⟩:=h.ex;obtain⟨m,hm⟩:∃ m,decide (q.num<0)=m:=⟨_,rfl⟩;have HN:=hid hn;have HD:=hid hd;have HP:=hid (j0C hm);rw[hm];obtain⟨a1,c1,rfl,_⟩:=hn.openI;obtain⟨a2,c2,rfl,_⟩:=hd.openI;obtain⟨k1,hk1⟩:∃ k,(limbs q.num.natAbs).length=k:=⟨_,rfl⟩;obtain⟨k2,hk2⟩:∃ k,(limbs q.den).length=k:=⟨_,rfl⟩;rw[hk1]at HN ⊢;rw[hk2]at HD ⊢;have HZ:=fun W h=>hid (f0n W (.slice a1 k1 c1) q.num.natAbs h)
 obtain⟨z,hz⟩:∃ z,isZ q.num.natAbs=z:=⟨_,rfl⟩;rw[hz]at HP HZ;clear hn hd hm h hk1 hk2 hz;have b1:=hid (((Below.refl w.heap.size w).alloc (Nat.le_refl _) (.cells #[.bool m,.slice a1 k1 c1,.slice a2 k2 c2] 57)).alloc (by simp) (.cells #[.bool false,.slice none 0 0,.slice none 0 0] 57));cases m
 ·go_enter Tryz.func96,Tryz.ntmps96;go_wp2_with fail;refine e0o 14 (by kernel_rfl) (by kernel_rfl) ?_;simp only[List.take_succ_cons,List.take_zero,List.drop_succ_cons,List.drop_zero]
  iterate 6 still_step
  still_call ((HZ _ (HN.out.call b1.out.drew)).out.mono fun _ _ h=>⟨h.1,h.2.symm⟩)
  iterate 7 still_step
  refine wpStill_nil ?_;go_wp2_with fail;have b2:=(((Below.refl w.heap.size w).alloc (Nat.le_refl _) (.cells #[.bool false,.slice a1 k1 c1,.slice a2 k2 c2] 57)).alloc (by simp) (.cells #[.bool (!z),.slice a1 k1 c1,.slice a2 k2 c2] 57)).drew;obtain⟨p1,p2,p3⟩:=HP.out;refine bodyPost_ret (v:=.agg #[.bool (!z),.slice a1 k1 c1,.slice a2 k2 c2]) (by simp[results,Tryz.results96,go_sem]) rfl ⟨⟨_,rfl,⟨.slice a1 k1 c1,.slice a2 k2 c2,?_,?_,?_⟩⟩,b2⟩
  ·rw[p1];rfl
  ·rw[p2];exact HN.out.call b2
  ·rw[p3];exact HD.out.call b2
 ·go_enter Tryz.func96,Tryz.ntmps96;go_wp2_with fail;refine e0o 14 (by kernel_rfl) (by kernel_rfl) ?_;simp only[List.take_succ_cons,List.take_zero,List.drop_succ_cons,List.drop_zero]
  iterate 14 still_step
  refine wpStill_nil ?_;go_wp2_with fail;have b2:=(((Below.refl w.heap.size w).alloc (Nat.le_refl _) (.cells #[.bool true,.slice a1 k1 c1,.slice a2 k2 c2] 57)).alloc (by simp) (.cells #[.bool false,.slice a1 k1 c1,.slice a2 k2 c2] 57)).drew;obtain⟨p1,p2,p3⟩:=HP.out;refine bodyPost_ret (v:=.agg #[.bool false,.slice a1 k1 c1,.slice a2 k2 c2]) (by simp[results,Tryz.results96,go_sem]) rfl ⟨⟨_,rfl,⟨.slice a1 k1 c1,.slice a2 k2 c2,?_,?_,?_⟩⟩,b2⟩
  ·rw[p1];rfl
  ·rw[p2];exact HN.out.call b2
  ·rw[p3];exact HD.out.call b2
end Go.Proofs.YtlimaehdmcnjaaaGreatDoor
namespace Go.Proofs.YtlimaehdmcnjaaaGreatDoor
open Go.RowKit
theorem j0u {p q:Rat}{m:Bool}(h1:decide (p.num<0)=m)(h2:decide (q.num<0)=m):qmk m (p.num.natAbs*q.den+q.num.natAbs*p.den) (p.den*q.den)=p+q:=by
 rw[k0P,h1,h2,i0l];rfl
theorem j0w {p q:Rat}{m1 m2:Bool}(h1:decide (p.num<0)=m1)(h2:decide (q.num<0)=m2)(h:m1≠m2)(hl:p.num.natAbs*q.den<q.num.natAbs*p.den):qmk m2 (q.num.natAbs*p.den-p.num.natAbs*q.den) (p.den*q.den)=p+q:=by
 rw[k0P,h1,h2,i0o h hl];rfl
theorem j0v {p q:Rat}{m1 m2:Bool}(h1:decide (p.num<0)=m1)(h2:decide (q.num<0)=m2)(h:m1≠m2)(hl:q.num.natAbs*p.den≤p.num.natAbs*q.den):qmk m1 (p.num.natAbs*q.den-q.num.natAbs*p.den) (p.den*q.den)=p+q:=by
 rw[k0P,h1,h2,i0n h hl];rfl
theorem l0P (w:World)(v u:Value)(p q:Rat)(hp:IsQ .u64 w v p)(hq:IsQ .u64 w u q)
 (h1:(limbs p.num.natAbs).length≤100000) (h2:(limbs p.den).length≤100000) (h3:(limbs q.num.natAbs).length≤100000) (h4:(limbs q.den).length≤100000):
 Calls Tryz.prog 45 #[v,u] w fun e w'=>d0Q .u64 (p+q) e w'∧Below w.heap.size w w':=by
 obtain⟨m1,hm1⟩:∃ m,decide (p.num<0)=m:=⟨_,rfl⟩;obtain⟨m2,hm2⟩:∃ m,decide (q.num<0)=m:=⟨_,rfl⟩;have s1:=fun (e:m1=m2)=>j0u (m:=m1) hm1 (hm2.trans e.symm)
 have s2:=j0w hm1 hm2;have s3:=j0v hm1 hm2;obtain⟨Q,hQ⟩:∃ Q,p+q=Q:=⟨_,rfl⟩;rw[hQ]at s1 s2 s3 ⊢;have hD:=hid (Nat.mul_pos p.den_pos q.den_pos);obtain⟨N1,D1,rfl,hn1,hd1⟩:=hp.ex;obtain⟨N2,D2,rfl,hn2,hd2⟩:=hq.ex;rw[hm1,hm2];clear hp hq hQ hm1 hm2;generalize p.num.natAbs=n1 at *
 generalize q.num.natAbs=n2 at *
 generalize p.den=d1 at *
 generalize q.den=d2 at *
 have S1:=hid s1;have S2:=hid s2;have S3:=hid s3;have HN1:=hid hn1;have HD1:=hid hd1;have HN2:=hid hn2;have HD2:=hid hd2;have lx:=d0E h1 h4;have ly:=d0E h3 h2;have ld:=d0E h2 h4;have LX:=hid (Nat.le_trans lx (show 100000+100000≤200000 by omega));have LY:=hid (Nat.le_trans ly (show 100000+100000≤200000 by omega));have LD:=hid (Nat.le_trans ld (show 100000+100000≤1000000 by omega));have LXY:=hid (Nat.le_trans (p0z lx ly) (show 100000+100000+(100000+100000)+1≤1000000 by omega));have H1:=hid (Nat.le_trans h1 (show 100000≤1000000 by omega));have H2:=hid (Nat.le_trans h2 (show 100000≤1000000 by omega));have H3:=hid (Nat.le_trans h3 (show 100000≤1000000 by omega));have H4:=hid (Nat.le_trans h4 (show 100000≤1000000 by omega));clear h1 h2 h3 h4 lx ly ld s1 s2 s3;obtain⟨a1,c1,rfl,_⟩:=hn1.openI;obtain⟨a2,c2,rfl,_⟩:=hd1.openI;obtain⟨a3,c3,rfl,_⟩:=hn2.openI;obtain⟨a4,c4,rfl,_⟩:=hd2.openI;clear hn1 hd1 hn2 hd2;go_enter Tryz.func45,Tryz.ntmps45;go_wp2_with fail;obtain⟨W,hW⟩:∃ W,((w.alloc (.cells #[.bool m1,.slice a1 (limbs n1).length c1,.slice a2 (limbs d1).length c2] 57)).alloc (.cells #[.bool m2,.slice a3 (limbs n2).length c3,.slice a4 (limbs d2).length c4] 57)).alloc (.cells #[.bool false,.slice none 0 0,.slice none 0 0] 57)=W:=⟨_,rfl⟩;have T:=hid (Three.mk' hW);rw[hW];clear hW;have hS:=T.out.cells (Below.refl _ _).drew;have B0:=hid (T.out.below.drew);have C0:=hid ((Below.refl W.heap.size W).drew);refine a0f [0,1,2,3,5,6,7,8] 4 (m0G w.heap.size m1 m2 (.slice a1 (limbs n1).length c1) (.slice a2 (limbs d1).length c2) (.slice a3 (limbs n2).length c3) (.slice a4 (limbs d2).length c4)) (by kernel_rfl) (by kernel_rfl) (by kernel_rfl) (by kernel_rfl) hS ?_
 iterate 8
  refine⟨_,rfl,?_⟩;apply Exists.intro
  refine⟨.inl ⟨by rfl,?_⟩,?_⟩
  ·(intro W' hW';obtain⟨q1,q2,q3,q4,q5,q6⟩:=hW';go_simp;try (with_reducible rfl))
  (dsimp only[Act.put];try simp only[List.setIfInBounds_toArray,List.set_cons_zero,List.set_cons_succ])
 clear hS;refine a0b (i:=4) (by kernel_rfl) (by rfl) (by rfl) ?_;go_wp2_with fail;refine (h0Q _ _ _ n1 d2 (HN1.out.call B0.out) (HD2.out.call B0.out) H1.out H4.out).mono ?_;rintro e w1 ⟨⟨v1,rfl,hv1⟩,hb1⟩;have B1:=hid (B0.out.trans (hb1.mono B0.out.size));have C1:=hid (a0a C0.out hb1);have V1:=hid hv1;clear hb1 hv1;go_wp2_with fail;refine⟨T.out.cells C1.out,?_⟩;refine a0b (i:=9) (by kernel_rfl) (by rfl) (by rfl) ?_;go_wp2_with fail;refine (h0Q _ _ _ n2 d1 (HN2.out.call B1.out) (HD1.out.call B1.out) H3.out H2.out).mono ?_;rintro e w2 ⟨⟨v2,rfl,hv2⟩,hb2⟩;have B2:=hid (B1.out.trans (hb2.mono B1.out.size));have C2:=hid (a0a C1.out hb2);have V2:=hid hv2;have W1:=hid (V1.out.call hb2);clear hb2 hv2;go_wp2_with fail;refine⟨T.out.cells C2.out,?_⟩;refine a0d (is:=[10,11]) (g:=0) (by kernel_rfl) rfl (T.out.cells C2.out) (by kernel_rfl) ?_
 iterate 2
  refine⟨_,rfl,?_⟩;apply Exists.intro
  refine⟨.inl ⟨by rfl,?_⟩,?_⟩
  ·(intro W' hW';clear hW';go_simp;try (with_reducible rfl))
  (dsimp only[Act.put];try simp only[List.setIfInBounds_toArray,List.set_cons_zero,List.set_cons_succ])
 refine wpAnyH_done (by kernel_rfl) ?_ _;simp only[a0o];obtain⟨k0,k1,k2,k3,k4,k5⟩:=T.out.cells C2.out;go_wp2_with fail;refine (h0Q _ _ _ d1 d2 (HD1.out.call B2.out) (HD2.out.call B2.out) H2.out H4.out).mono ?_;rintro e w3 ⟨⟨v3,rfl,hv3⟩,hb3⟩;have B3:=hid (B2.out.trans (hb3.mono B2.out.size));have C3:=hid (a0a C2.out hb3);have V3:=hid hv3;have X1:=hid (W1.out.call hb3);have X2:=hid (V2.out.call hb3);clear hb3 hv3 k0 k1 k2 k3 k4 k5;go_wp2_with fail;refine (l0s _ _ _ (n1*d2) (n2*d1) X1.out X2.out (Nat.le_trans LX.out (by omega))).mono ?_;rintro e w4 ⟨rfl,hb4⟩;have B4:=hid (B3.out.trans (hb4.mono B3.out.size));have C4:=hid (a0a C3.out hb4);have V4:=hid (V3.out.call hb4);have Y1:=hid (X1.out.call hb4);have Y2:=hid (X2.out.call hb4);clear hb4;obtain⟨k0,k1,k2,k3,k4,k5⟩:=T.out.cells C4.out;clear B0 B1 B2 B3 C0 C1 C2 C3 V1 V2 V3 W1 X1 X2;obtain⟨X,hX⟩:∃ X,n1*d2=X:=⟨_,rfl⟩;obtain⟨Y,hY⟩:∃ X,n2*d1=X:=⟨_,rfl⟩;obtain⟨E,hE⟩:∃ X,d1*d2=X:=⟨_,rfl⟩;rw[hX]at S1 S2 S3 LX LXY Y1 ⊢;rw[hY]at S1 S2 S3 LY LXY Y2 ⊢;rw[hE]at S1 S2 S3 LD V4 hD;clear hX hY hE;by_cases em:m1=m2
 ·have SA:=hid (S1.out em);subst em;have q0:(m1==m1)=true:=beq_self_eq_true m1;go_wp2_with fail;have hS:=T.out.cells C4.out.drew;have B0:=hid B4.out.drew;have C0:=hid C4.out.drew;refine a0f [0,1,2,3,5] 3 (m0G w.heap.size m1 m1 (.slice a1 (limbs n1).length c1) (.slice a2 (limbs d1).length c2) (.slice a3 (limbs n2).length c3) (.slice a4 (limbs d2).length c4)) (by kernel_rfl) (by kernel_rfl) (by kernel_rfl) (by kernel_rfl) hS ?_
  iterate 5
   refine⟨_,rfl,?_⟩;apply Exists.intro
   refine⟨.inl ⟨by rfl,?_⟩,?_⟩
   ·(intro W' hW';obtain⟨q1,q2,q3,q4,q5,q6⟩:=hW';go_simp;try (with_reducible rfl))
   (dsimp only[Act.put];try simp only[List.setIfInBounds_toArray,List.set_cons_zero,List.set_cons_succ])
  clear hS;refine a0b (i:=4) (by kernel_rfl) (by rfl) (by rfl) ?_;go_wp2_with fail;refine (r0u _ _ _ X Y (Y1.out.call (Below.refl _ _).drew) (Y2.out.call (Below.refl _ _).drew) (Nat.le_trans LX.out (by omega)) (Nat.le_trans LY.out (by omega))).mono ?_;rintro e w5 ⟨⟨v5,rfl,hv5⟩,hb5⟩;have B5:=hid (B0.out.trans (hb5.mono B0.out.size));have C5:=hid (C0.out.trans (hb5.mono C0.out.size));have V5:=hid hv5;have E5:=hid (V4.out.call (show Below w4.heap.size w4 w5 from (Below.refl _ _).drew.trans hb5));clear hb5 hv5;go_wp2_with fail;refine⟨T.out.cells C5.out,?_⟩;refine a0b (i:=6) (by kernel_rfl) (by rfl) (by rfl) ?_;go_wp2_with fail;refine (i0U _ _ _ _ (X+Y) E V5.out E5.out hD.out (LXY.out) LD.out).mono ?_;rintro e w6 ⟨⟨v3,rfl,hv3⟩,hb6⟩;rw[SA.out]at hv3;have B6:=hid (B5.out.trans (hb6.mono B5.out.size));have C6:=hid (C5.out.trans (hb6.mono C5.out.size));clear hb6;obtain⟨N3,D3,rfl,hN3,hD3⟩:=hv3.ex;obtain⟨a5,c5,rfl,_⟩:=hN3.openI;obtain⟨a6,c6,rfl,_⟩:=hD3.openI;obtain⟨k5,hk5⟩:∃ k,(limbs Q.num.natAbs).length=k:=⟨_,rfl⟩;obtain⟨k6,hk6⟩:∃ k,(limbs Q.den).length=k:=⟨_,rfl⟩;obtain⟨mq,hmq⟩:∃ m,decide (Q.num<0)=m:=⟨_,rfl⟩;rw[hk5]at hN3 ⊢;rw[hk6]at hD3 ⊢;rw[hmq];have HN3:=hid hN3;have HD3:=hid hD3;have HMQ:=hid hmq;have Z:=hid (T.out.b2.call C6.out);have t0:=Z.out.cell 0;have t1:=Z.out.cell 1;have t2:=Z.out.cell 2;have t3:=Z.out.free 0;have t4:=Z.out.free 1;have t5:=Z.out.free 2;simp at t0 t1 t2;clear hv3 hN3 hD3 hk5 hk6 hmq;go_wp2_with fail;refine⟨T.out.cells C6.out,?_⟩;refine a0b (i:=7) (by kernel_rfl) (by rfl) (by rfl) ?_;go_wp2_with fail;refine⟨T.out.stored C6.out _ _ _,?_⟩;refine wpAnyH_done (by kernel_rfl) ?_ _;simp only[a0o];obtain⟨s1,s2⟩:=b0d Z.out mq a5 a6 k5 c5 k6 c6;have f0:=s2.cell 0;have f1:=s2.cell 1;have f2:=s2.cell 2;simp at f0 f1 f2;clear t0 t1 t2 t3 t4 t5;go_wp2_with fail;refine bodyPost_ret (v:=.agg #[.bool mq,.slice a5 k5 c5,.slice a6 k6 c6]) (by simp[results,Tryz.results45,go_sem,f0,f1,f2]) rfl ⟨⟨_,rfl,⟨.slice a5 k5 c5,.slice a6 k6 c6,by rw[HMQ.out],s1 _ _ _ HN3.out,s1 _ _ _ HD3.out⟩⟩,?_⟩;exact ((B6.out.setCell (by simp;omega) _).setCell (by simp;omega) _).setCell (by simp;omega) _
 ·have q0:(m1==m2)=false:=by simpa using em
  have HE:=hid em;clear em;by_cases hc:X<Y
  ·have HC:=hid hc;rw[b0t hc];clear hc;go_wp2_with fail;have hS:=T.out.cells C4.out.drew;have B0:=hid B4.out.drew;have C0:=hid C4.out.drew;refine a0f [0,1,2,3,5] 3 (m0G w.heap.size m1 m2 (.slice a1 (limbs n1).length c1) (.slice a2 (limbs d1).length c2) (.slice a3 (limbs n2).length c3) (.slice a4 (limbs d2).length c4)) (by kernel_rfl) (by kernel_rfl) (by kernel_rfl) (by kernel_rfl) hS ?_
   iterate 5
    refine⟨_,rfl,?_⟩;apply Exists.intro
    refine⟨.inl ⟨by rfl,?_⟩,?_⟩
    ·(intro W' hW';obtain⟨q1,q2,q3,q4,q5,q6⟩:=hW';go_simp;try (with_reducible rfl))
    (dsimp only[Act.put];try simp only[List.setIfInBounds_toArray,List.set_cons_zero,List.set_cons_succ])
   clear hS;refine a0b (i:=4) (by kernel_rfl) (by rfl) (by rfl) ?_;go_wp2_with fail;refine (r0q _ _ _ Y X (Y2.out.call (Below.refl _ _).drew) (Y1.out.call (Below.refl _ _).drew) (Nat.le_of_lt HC.out) (Nat.le_trans LY.out (by omega))).mono ?_;rintro e w5 ⟨⟨v5,rfl,hv5⟩,hb5⟩;have B5:=hid (B0.out.trans (hb5.mono B0.out.size));have C5:=hid (C0.out.trans (hb5.mono C0.out.size));have V5:=hid hv5;have E5:=hid (V4.out.call (show Below w4.heap.size w4 w5 from (Below.refl _ _).drew.trans hb5));clear hb5 hv5;go_wp2_with fail;refine⟨T.out.cells C5.out,?_⟩;refine a0b (i:=6) (by kernel_rfl) (by rfl) (by rfl) ?_;go_wp2_with fail;refine (i0U _ _ _ _ (Y-X) E V5.out E5.out hD.out (Nat.le_trans (a0h (Nat.sub_le Y X)) (Nat.le_trans LY.out (by omega))) LD.out).mono ?_;rintro e w6 ⟨⟨v3,rfl,hv3⟩,hb6⟩;rw[S2.out HE.out HC.out]at hv3;have B6:=hid (B5.out.trans (hb6.mono B5.out.size));have C6:=hid (C5.out.trans (hb6.mono C5.out.size));clear hb6;obtain⟨N3,D3,rfl,hN3,hD3⟩:=hv3.ex;obtain⟨a5,c5,rfl,_⟩:=hN3.openI;obtain⟨a6,c6,rfl,_⟩:=hD3.openI;obtain⟨k5,hk5⟩:∃ k,(limbs Q.num.natAbs).length=k:=⟨_,rfl⟩;obtain⟨k6,hk6⟩:∃ k,(limbs Q.den).length=k:=⟨_,rfl⟩;obtain⟨mq,hmq⟩:∃ m,decide (Q.num<0)=m:=⟨_,rfl⟩;rw[hk5]at hN3 ⊢;rw[hk6]at hD3 ⊢;rw[hmq];have HN3:=hid hN3;have HD3:=hid hD3;have HMQ:=hid hmq;have Z:=hid (T.out.b2.call C6.out);have t0:=Z.out.cell 0;have t1:=Z.out.cell 1;have t2:=Z.out.cell 2;have t3:=Z.out.free 0;have t4:=Z.out.free 1;have t5:=Z.out.free 2;simp at t0 t1 t2;clear hv3 hN3 hD3 hk5 hk6 hmq;go_wp2_with fail;refine⟨T.out.cells C6.out,?_⟩;refine a0b (i:=7) (by kernel_rfl) (by rfl) (by rfl) ?_;go_wp2_with fail;refine⟨T.out.stored C6.out _ _ _,?_⟩;refine wpAnyH_done (by kernel_rfl) ?_ _;simp only[a0o];obtain⟨s1,s2⟩:=b0d Z.out mq a5 a6 k5 c5 k6 c6;have f0:=s2.cell 0;have f1:=s2.cell 1;have f2:=s2.cell 2;simp at f0 f1 f2;clear t0 t1 t2 t3 t4 t5;go_wp2_with fail;refine bodyPost_ret (v:=.agg #[.bool mq,.slice a5 k5 c5,.slice a6 k6 c6]) (by simp[results,Tryz.results45,go_sem,f0,f1,f2]) rfl ⟨⟨_,rfl,⟨.slice a5 k5 c5,.slice a6 k6 c6,by rw[HMQ.out],s1 _ _ _ HN3.out,s1 _ _ _ HD3.out⟩⟩,?_⟩;exact ((B6.out.setCell (by simp;omega) _).setCell (by simp;omega) _).setCell (by simp;omega) _
  ·have HC:=hid (show Y≤X by omega);have q1:decide (b0e X Y<0)=false:=by
    rcases Nat.lt_or_ge Y X with h | h
    ·rw[b0M h];rfl
    ·rw[show X=Y by omega,c0O];rfl
   clear hc;go_wp2_with fail;have hS:=T.out.cells C4.out.drew;have B0:=hid B4.out.drew;have C0:=hid C4.out.drew;refine a0f [0,1,2,3,5] 3 (m0G w.heap.size m1 m2 (.slice a1 (limbs n1).length c1) (.slice a2 (limbs d1).length c2) (.slice a3 (limbs n2).length c3) (.slice a4 (limbs d2).length c4)) (by kernel_rfl) (by kernel_rfl) (by kernel_rfl) (by kernel_rfl) hS ?_
   iterate 5
    refine⟨_,rfl,?_⟩;apply Exists.intro
    refine⟨.inl ⟨by rfl,?_⟩,?_⟩
    ·(intro W' hW';obtain⟨q1,q2,q3,q4,q5,q6⟩:=hW';go_simp;try (with_reducible rfl))
    (dsimp only[Act.put];try simp only[List.setIfInBounds_toArray,List.set_cons_zero,List.set_cons_succ])
   clear hS;refine a0b (i:=4) (by kernel_rfl) (by rfl) (by rfl) ?_;go_wp2_with fail;refine (r0q _ _ _ X Y (Y1.out.call (Below.refl _ _).drew) (Y2.out.call (Below.refl _ _).drew) HC.out (Nat.le_trans LX.out (by omega))).mono ?_;rintro e w5 ⟨⟨v5,rfl,hv5⟩,hb5⟩;have B5:=hid (B0.out.trans (hb5.mono B0.out.size));have C5:=hid (C0.out.trans (hb5.mono C0.out.size));have V5:=hid hv5;have E5:=hid (V4.out.call (show Below w4.heap.size w4 w5 from (Below.refl _ _).drew.trans hb5));clear hb5 hv5;go_wp2_with fail;refine⟨T.out.cells C5.out,?_⟩;refine a0b (i:=6) (by kernel_rfl) (by rfl) (by rfl) ?_;go_wp2_with fail;refine (i0U _ _ _ _ (X-Y) E V5.out E5.out hD.out (Nat.le_trans (a0h (Nat.sub_le X Y)) (Nat.le_trans LX.out (by omega))) LD.out).mono ?_;rintro e w6 ⟨⟨v3,rfl,hv3⟩,hb6⟩;rw[S3.out HE.out HC.out]at hv3;have B6:=hid (B5.out.trans (hb6.mono B5.out.size));have C6:=hid (C5.out.trans (hb6.mono C5.out.size));clear hb6;obtain⟨N3,D3,rfl,hN3,hD3⟩:=hv3.ex;obtain⟨a5,c5,rfl,_⟩:=hN3.openI;obtain⟨a6,c6,rfl,_⟩:=hD3.openI;obtain⟨k5,hk5⟩:∃ k,(limbs Q.num.natAbs).length=k:=⟨_,rfl⟩;obtain⟨k6,hk6⟩:∃ k,(limbs Q.den).length=k:=⟨_,rfl⟩;obtain⟨mq,hmq⟩:∃ m,decide (Q.num<0)=m:=⟨_,rfl⟩;rw[hk5]at hN3 ⊢;rw[hk6]at hD3 ⊢;rw[hmq];have HN3:=hid hN3;have HD3:=hid hD3;have HMQ:=hid hmq;have Z:=hid (T.out.b2.call C6.out);have t0:=Z.out.cell 0;have t1:=Z.out.cell 1;have t2:=Z.out.cell 2;have t3:=Z.out.free 0;have t4:=Z.out.free 1;have t5:=Z.out.free 2;simp at t0 t1 t2;clear hv3 hN3 hD3 hk5 hk6 hmq;go_wp2_with fail;refine⟨T.out.cells C6.out,?_⟩;refine a0b (i:=7) (by kernel_rfl) (by rfl) (by rfl) ?_;go_wp2_with fail;refine⟨T.out.stored C6.out _ _ _,?_⟩;refine wpAnyH_done (by kernel_rfl) ?_ _;simp only[a0o];obtain⟨s1,s2⟩:=b0d Z.out mq a5 a6 k5 c5 k6 c6;have f0:=s2.cell 0;have f1:=s2.cell 1;have f2:=s2.cell 2;simp at f0 f1 f2;clear t0 t1 t2 t3 t4 t5;go_wp2_with fail;refine bodyPost_ret (v:=.agg #[.bool mq,.slice a5 k5 c5,.slice a6 k6 c6]) (by simp[results,Tryz.results45,go_sem,f0,f1,f2]) rfl ⟨⟨_,rfl,⟨.slice a5 k5 c5,.slice a6 k6 c6,by rw[HMQ.out],s1 _ _ _ HN3.out,s1 _ _ _ HD3.out⟩⟩,?_⟩;exact ((B6.out.setCell (by simp;omega) _).setCell (by simp;omega) _).setCell (by simp;omega) _
theorem j0O (w:World)(v u:Value)(p q:Rat)(hp:IsQ .u64 w v p)(hq:IsQ .u64 w u q)
 (h1:(limbs p.num.natAbs).length≤100000) (h2:(limbs p.den).length≤100000) (h3:(limbs q.num.natAbs).length≤100000) (h4:(limbs q.den).length≤100000):
 Calls Tryz.prog 43 #[v,u] w fun e w'=>d0Q .u64 (p-q) e w'∧Below w.heap.size w w':=by
 have e1:p + -q=p-q:=(Rat.sub_eq_add_neg p q).symm;have F1:=fun V v h=>hid (s0k V v q h)
 have F2:=fun V v u hv hu=>hid (l0P V v u p (-q) hv hu h1 h2 (by rw[Rat.neg_num,Int.natAbs_neg];exact h3) (by rw[Rat.neg_den];exact h4))
 rw[e1]at F2;obtain⟨Q,hQ⟩:∃ Q,p-q=Q:=⟨_,rfl⟩;rw[hQ]at F2 ⊢;have HP:=hid hp;have HQ':=hid hq;obtain⟨N1,D1,rfl,hn1,hd1⟩:=hp.ex;obtain⟨N2,D2,rfl,hn2,hd2⟩:=hq.ex;obtain⟨a1,c1,rfl,_⟩:=hn1.openI;obtain⟨a2,c2,rfl,_⟩:=hd1.openI;obtain⟨a3,c3,rfl,_⟩:=hn2.openI;obtain⟨a4,c4,rfl,_⟩:=hd2.openI;clear hp hq hQ e1 hn1 hd1 hn2 hd2 h1 h2 h3 h4;obtain⟨m1,hm1⟩:∃ m,decide (p.num<0)=m:=⟨_,rfl⟩;obtain⟨m2,hm2⟩:∃ m,decide (q.num<0)=m:=⟨_,rfl⟩;obtain⟨l1,hl1⟩:∃ m,(limbs p.num.natAbs).length=m:=⟨_,rfl⟩;obtain⟨l2,hl2⟩:∃ m,(limbs p.den).length=m:=⟨_,rfl⟩;obtain⟨l3,hl3⟩:∃ m,(limbs q.num.natAbs).length=m:=⟨_,rfl⟩;obtain⟨l4,hl4⟩:∃ m,(limbs q.den).length=m:=⟨_,rfl⟩;rw[hm1,hl1,hl2]at HP;rw[hm2,hl3,hl4]at HQ';rw[hm1,hm2,hl1,hl2,hl3,hl4];clear hm1 hm2 hl1 hl2 hl3 hl4;go_enter Tryz.func43,Tryz.ntmps43;go_wp2_with fail;obtain⟨W,hW⟩:∃ W,((w.alloc (.cells #[.bool m1,.slice a1 l1 c1,.slice a2 l2 c2] 57)).alloc (.cells #[.bool m2,.slice a3 l3 c3,.slice a4 l4 c4] 57)).alloc (.cells #[.bool false,.slice none 0 0,.slice none 0 0] 57)=W:=⟨_,rfl⟩;have T:=hid (Three.mk' hW);rw[hW];clear hW;have hS:=T.out.cells (Below.refl _ _).drew;have B0:=hid (T.out.below.drew);have C0:=hid ((Below.refl W.heap.size W).drew);refine a0f [0,1] 3 (m0G w.heap.size m1 m2 (.slice a1 l1 c1) (.slice a2 l2 c2) (.slice a3 l3 c3) (.slice a4 l4 c4)) (by kernel_rfl) (by kernel_rfl) (by kernel_rfl) (by kernel_rfl) hS ?_
 iterate 2
  refine⟨_,rfl,?_⟩;apply Exists.intro
  refine⟨.inl ⟨by rfl,?_⟩,?_⟩
  ·(intro W' hW';obtain⟨q1,q2,q3,q4,q5,q6⟩:=hW';go_simp;try (with_reducible rfl))
  (dsimp only[Act.put];try simp only[List.setIfInBounds_toArray,List.set_cons_zero,List.set_cons_succ])
 clear hS;refine a0b (i:=2) (by kernel_rfl) (by rfl) (by rfl) ?_;go_wp2_with fail;refine (F1 _ _ (HQ'.out.call B0.out)).out.mono ?_;rintro e w1 ⟨⟨v1,rfl,hv1⟩,hb1⟩;have B1:=hid (B0.out.trans (hb1.mono B0.out.size));have C1:=hid (a0a C0.out hb1);have V1:=hid hv1;clear hb1 hv1;go_wp2_with fail;refine⟨T.out.cells C1.out,?_⟩;refine a0b (i:=3) (by kernel_rfl) (by rfl) (by rfl) ?_;go_wp2_with fail;refine (F2 _ _ _ (HP.out.call B1.out) V1.out).out.mono ?_;rintro e w3 ⟨⟨v3,rfl,hv3⟩,hb3⟩;have B3:=hid (B1.out.trans (hb3.mono B1.out.size));have C3:=hid (a0a C1.out hb3);clear hb3;obtain⟨N3,D3,rfl,hN3,hD3⟩:=hv3.ex;obtain⟨a5,c5,rfl,_⟩:=hN3.openI;obtain⟨a6,c6,rfl,_⟩:=hD3.openI;obtain⟨k5,hk5⟩:∃ k,(limbs Q.num.natAbs).length=k:=⟨_,rfl⟩;obtain⟨k6,hk6⟩:∃ k,(limbs Q.den).length=k:=⟨_,rfl⟩;obtain⟨mq,hmq⟩:∃ m,decide (Q.num<0)=m:=⟨_,rfl⟩;rw[hk5]at hN3 ⊢;rw[hk6]at hD3 ⊢;rw[hmq];have HN3:=hid hN3;have HD3:=hid hD3;have HMQ:=hid hmq;have Z:=hid (T.out.b2.call C3.out);have t0:=Z.out.cell 0;have t1:=Z.out.cell 1;have t2:=Z.out.cell 2;have t3:=Z.out.free 0;have t4:=Z.out.free 1;have t5:=Z.out.free 2;simp at t0 t1 t2;clear hv3 hN3 hD3 hk5 hk6 hmq;go_wp2_with fail;refine⟨T.out.cells C3.out,?_⟩;refine a0b (i:=4) (by kernel_rfl) (by rfl) (by rfl) ?_;go_wp2_with fail;refine⟨T.out.stored C3.out _ _ _,?_⟩;refine wpAnyH_done (by kernel_rfl) ?_ _;simp only[a0o];obtain⟨s1,s2⟩:=b0d Z.out mq a5 a6 k5 c5 k6 c6;have f0:=s2.cell 0;have f1:=s2.cell 1;have f2:=s2.cell 2;simp at f0 f1 f2;clear t0 t1 t2 t3 t4 t5;go_wp2_with fail;refine bodyPost_ret (v:=.agg #[.bool mq,.slice a5 k5 c5,.slice a6 k6 c6]) (by simp[results,Tryz.results43,go_sem,f0,f1,f2]) rfl ⟨⟨_,rfl,⟨.slice a5 k5 c5,.slice a6 k6 c6,by rw[HMQ.out],s1 _ _ _ HN3.out,s1 _ _ _ HD3.out⟩⟩,?_⟩;exact ((B3.out.setCell (by simp;omega) _).setCell (by simp;omega) _).setCell (by simp;omega) _
theorem p0S (w:World)(v u:Value)(p q:Rat)(hp:IsQ .u64 w v p)(hq:IsQ .u64 w u q)(h0:q≠0)
 (h1:(limbs p.num.natAbs).length≤100000) (h2:(limbs p.den).length≤100000) (h3:(limbs q.num.natAbs).length≤100000) (h4:(limbs q.den).length≤100000):
 Calls Tryz.prog 46 #[v,u] w fun e w'=>d0Q .u64 (p / q) e w'∧Below w.heap.size w w':=by
 have e1:p*q⁻¹ = p / q:=(Rat.div_def p q).symm;have F1:=fun V v h=>hid (s0m V v q h h0)
 have F2:=fun V v u hv hu=>hid (s0l V v u p q⁻¹ hv hu h1 h2 (by rw[(d0H h0).2.1];exact h4) (by rw[(d0H h0).2.2];exact h3))
 rw[e1]at F2;obtain⟨Q,hQ⟩:∃ Q,p / q=Q:=⟨_,rfl⟩;rw[hQ]at F2 ⊢;have HP:=hid hp;have HQ':=hid hq;obtain⟨N1,D1,rfl,hn1,hd1⟩:=hp.ex;obtain⟨N2,D2,rfl,hn2,hd2⟩:=hq.ex;obtain⟨a1,c1,rfl,_⟩:=hn1.openI;obtain⟨a2,c2,rfl,_⟩:=hd1.openI;obtain⟨a3,c3,rfl,_⟩:=hn2.openI;obtain⟨a4,c4,rfl,_⟩:=hd2.openI;clear hp hq hQ e1 hn1 hd1 hn2 hd2 h0 h1 h2 h3 h4;obtain⟨m1,hm1⟩:∃ m,decide (p.num<0)=m:=⟨_,rfl⟩;obtain⟨m2,hm2⟩:∃ m,decide (q.num<0)=m:=⟨_,rfl⟩;obtain⟨l1,hl1⟩:∃ m,(limbs p.num.natAbs).length=m:=⟨_,rfl⟩;obtain⟨l2,hl2⟩:∃ m,(limbs p.den).length=m:=⟨_,rfl⟩;obtain⟨l3,hl3⟩:∃ m,(limbs q.num.natAbs).length=m:=⟨_,rfl⟩;obtain⟨l4,hl4⟩:∃ m,(limbs q.den).length=m:=⟨_,rfl⟩;rw[hm1,hl1,hl2]at HP;rw[hm2,hl3,hl4]at HQ';rw[hm1,hm2,hl1,hl2,hl3,hl4];clear hm1 hm2 hl1 hl2 hl3 hl4;go_enter Tryz.func46,Tryz.ntmps46;go_wp2_with fail;obtain⟨W,hW⟩:∃ W,((w.alloc (.cells #[.bool m1,.slice a1 l1 c1,.slice a2 l2 c2] 57)).alloc (.cells #[.bool m2,.slice a3 l3 c3,.slice a4 l4 c4] 57)).alloc (.cells #[.bool false,.slice none 0 0,.slice none 0 0] 57)=W:=⟨_,rfl⟩;have T:=hid (Three.mk' hW);rw[hW];clear hW;have hS:=T.out.cells (Below.refl _ _).drew;have B0:=hid (T.out.below.drew);have C0:=hid ((Below.refl W.heap.size W).drew);refine a0f [0,1] 3 (m0G w.heap.size m1 m2 (.slice a1 l1 c1) (.slice a2 l2 c2) (.slice a3 l3 c3) (.slice a4 l4 c4)) (by kernel_rfl) (by kernel_rfl) (by kernel_rfl) (by kernel_rfl) hS ?_
 iterate 2
  refine⟨_,rfl,?_⟩;apply Exists.intro
  refine⟨.inl ⟨by rfl,?_⟩,?_⟩
  ·(intro W' hW';obtain⟨q1,q2,q3,q4,q5,q6⟩:=hW';go_simp;try (with_reducible rfl))
  (dsimp only[Act.put];try simp only[List.setIfInBounds_toArray,List.set_cons_zero,List.set_cons_succ])
 clear hS;refine a0b (i:=2) (by kernel_rfl) (by rfl) (by rfl) ?_;go_wp2_with fail;refine (F1 _ _ (HQ'.out.call B0.out)).out.mono ?_;rintro e w1 ⟨⟨v1,rfl,hv1⟩,hb1⟩;have B1:=hid (B0.out.trans (hb1.mono B0.out.size));have C1:=hid (a0a C0.out hb1);have V1:=hid hv1;clear hb1 hv1;go_wp2_with fail;refine⟨T.out.cells C1.out,?_⟩;refine a0b (i:=3) (by kernel_rfl) (by rfl) (by rfl) ?_;go_wp2_with fail;refine (F2 _ _ _ (HP.out.call B1.out) V1.out).out.mono ?_;rintro e w3 ⟨⟨v3,rfl,hv3⟩,hb3⟩;have B3:=hid (B1.out.trans (hb3.mono B1.out.size));have C3:=hid (a0a C1.out hb3);clear hb3;obtain⟨N3,D3,rfl,hN3,hD3⟩:=hv3.ex;obtain⟨a5,c5,rfl,_⟩:=hN3.openI;obtain⟨a6,c6,rfl,_⟩:=hD3.openI;obtain⟨k5,hk5⟩:∃ k,(limbs Q.num.natAbs).length=k:=⟨_,rfl⟩;obtain⟨k6,hk6⟩:∃ k,(limbs Q.den).length=k:=⟨_,rfl⟩;obtain⟨mq,hmq⟩:∃ m,decide (Q.num<0)=m:=⟨_,rfl⟩;rw[hk5]at hN3 ⊢;rw[hk6]at hD3 ⊢;rw[hmq];have HN3:=hid hN3;have HD3:=hid hD3;have HMQ:=hid hmq;have Z:=hid (T.out.b2.call C3.out);have t0:=Z.out.cell 0;have t1:=Z.out.cell 1;have t2:=Z.out.cell 2;have t3:=Z.out.free 0;have t4:=Z.out.free 1;have t5:=Z.out.free 2;simp at t0 t1 t2;clear hv3 hN3 hD3 hk5 hk6 hmq;go_wp2_with fail;refine⟨T.out.cells C3.out,?_⟩;refine a0b (i:=4) (by kernel_rfl) (by rfl) (by rfl) ?_;go_wp2_with fail;refine⟨T.out.stored C3.out _ _ _,?_⟩;refine wpAnyH_done (by kernel_rfl) ?_ _;simp only[a0o];obtain⟨s1,s2⟩:=b0d Z.out mq a5 a6 k5 c5 k6 c6;have f0:=s2.cell 0;have f1:=s2.cell 1;have f2:=s2.cell 2;simp at f0 f1 f2;clear t0 t1 t2 t3 t4 t5;go_wp2_with fail;refine bodyPost_ret (v:=.agg #[.bool mq,.slice a5 k5 c5,.slice a6 k6 c6]) (by simp[results,Tryz.results46,go_sem,f0,f1,f2]) rfl ⟨⟨_,rfl,⟨.slice a5 k5 c5,.slice a6 k6 c6,by rw[HMQ.out],s1 _ _ _ HN3.out,s1 _ _ _ HD3.out⟩⟩,?_⟩;exact ((B3.out.setCell (by simp;omega) _).setCell (by simp;omega) _).setCell (by simp;omega) _
open Go.Shelf
open Go.Lib (decDigits nDigits)
theorem b0Z {w:World}{b:Nat}{m0:Bool}{a0 b0:Option Addr}{n0 c0 n1 c1:Nat}{t:TypeId}(hb:Blk w b #[.bool m0,.slice a0 n0 c0,.slice b0 n1 c1] t)(m:Bool)(a a':Option Addr)(n c n' c':Nat){v:Value}{q:Rat}(h:IsQ .u64 w v q):
 IsQ .u64 (((w.setCell ⟨b,0,none⟩ (.bool m)).setCell ⟨b,1,none⟩ (.slice a n c)).setCell ⟨b,2,none⟩ (.slice a' n' c')) v q:=by
 obtain⟨N,D,rfl,h1,h2⟩:=h.ex;have hs:=(b0d hb m a a' n c n' c').1;exact⟨N,D,rfl,hs _ _ _ h1,hs _ _ _ h2⟩
theorem l0M (w:World)(s:ByteArray)(hs:s.size≤1000000)(hq:qE s=0)(hL:Lay w):
 Calls Tryz.prog 67 #[.string s] w fun e w'=>d0Q .u64 (vQ s) e w'∧Below w.heap.size w w':=by
 have HP:=fun V hV=>hid (e0K V s hs hV)
 rw[hq]at HP;have HQ:=hid hq;have HL:=hid hL;have A0:=hid ((Below.refl w.heap.size w).alloc (Nat.le_refl _) (.cells #[.bool false,.slice none 0 0,.slice none 0 0] 57));have X0:=hid (Blk.new w #[.bool false,.slice none 0 0,.slice none 0 0] 57);clear hs hq hL;go_enter Tryz.func67,Tryz.ntmps67;go_wp2_with fail;refine (HP _ (HL.out.call A0.out)).out.mono ?_;rintro e w1 ⟨⟨v1,rfl,hv1,-⟩,hb1⟩;have iq:=i0L HQ.out (hv1 rfl);obtain⟨m1,a1,n1,c1,a2,n2,c2,rfl⟩:=iq.qv;have X1:=hid (X0.out.call hb1);have y1:=hid (a0a A0.out hb1);have A1:=hid ((Below.refl w1.heap.size w1).alloc (Nat.le_refl _) (.cells #[.bool m1,.slice a1 n1 c1,.slice a2 n2 c2] 57));have Z1:=hid (Blk.new w1 #[.bool m1,.slice a1 n1 c1,.slice a2 n2 c2] 57);have X2:=hid (X1.out.call A1.out);have y2:=hid (a0a y1.out A1.out);have Q2:=hid (iq.call A1.out);clear hb1 hv1 X1 y1 iq;have d0:=X2.out.cell 0;have d1:=X2.out.cell 1;have d2:=X2.out.cell 2;have e0:=X2.out.free 0;have e1:=X2.out.free 1;have e2:=X2.out.free 2;have g0:=Z1.out.cell 0;have g1:=Z1.out.cell 1;have g2:=Z1.out.cell 2;simp at d0 d1 d2 g0 g1 g2;go_wp2_with fail;obtain⟨s1,s2⟩:=b0d X2.out m1 a1 a2 n1 c1 n2 c2;have f0:=s2.cell 0;have f1:=s2.cell 1;have f2:=s2.cell 2;simp at f0 f1 f2;refine bodyPost_ret (v:=.agg #[.bool m1,.slice a1 n1 c1,.slice a2 n2 c2]) (by simp[results,Tryz.results67,go_sem,f0,f1,f2]) rfl ⟨⟨_,rfl,b0Z X2.out m1 a1 a2 n1 c1 n2 c2 Q2.out⟩,?_⟩;exact ((y2.out.setCell (Nat.le_refl _) _).setCell (Nat.le_refl _) _).setCell (Nat.le_refl _) _
theorem s0j (w:World)(v:Value)(n:Nat)(hv:IsN .u64 w v n):Calls Tryz.prog 103 #[v] w fun e w'=>d0Q .u64 ((n:Nat):Rat) e w'∧Below w.heap.size w w':=by
 have V0:=hid hv;have A0:=hid ((Below.refl w.heap.size w).alloc (Nat.le_refl _) (.cells #[.bool false,.slice none 0 0,.slice none 0 0] 57));have X0:=hid (Blk.new w #[.bool false,.slice none 0 0,.slice none 0 0] 57);obtain⟨a1,c1,rfl,_⟩:=hv.openI;obtain⟨kn,hkn⟩:∃ k,(limbs n).length=k:=⟨_,rfl⟩;rw[hkn]at V0 ⊢;clear hv hkn;go_enter Tryz.func103,Tryz.ntmps103;go_wp2_with fail;refine (r0r _ 1 (by omega)).mono ?_;rintro e w1 ⟨⟨v1,rfl,hv1⟩,hb1⟩;obtain⟨a3,c3,rfl,_⟩:=hv1.openI;obtain⟨k1,hk1⟩:∃ k,(limbs 1).length=k:=⟨_,rfl⟩;rw[hk1]at hv1 ⊢;have HV:=hid hv1;have V1:=hid ((V0.out.call A0.out).call hb1);have HB:=hid (X0.out.call hb1);have d0:=HB.out.cell 0;have d1:=HB.out.cell 1;have d2:=HB.out.cell 2;have e0:=HB.out.free 0;have e1:=HB.out.free 1;have e2:=HB.out.free 2;have HBB:=hid (a0a A0.out hb1);clear hb1 hv1 hk1;simp at d0 d1 d2;go_wp2_with fail;obtain⟨s1,s2⟩:=b0d HB.out false a1 a3 kn c1 k1 c3;have f0:=s2.cell 0;have f1:=s2.cell 1;have f2:=s2.cell 2;simp at f0 f1 f2;have hnum:(((n:Nat):Rat).num.natAbs)=n:=by rw[Rat.num_natCast];rfl
 have hneg:decide (((n:Nat):Rat).num<0)=false:=by rw[Rat.num_natCast];exact decide_eq_false (by omega)
 refine bodyPost_ret (v:=.agg #[.bool false,.slice a1 kn c1,.slice a3 k1 c3]) (by simp[results,Tryz.results103,go_sem,f0,f1,f2]) rfl ⟨⟨_,rfl,⟨.slice a1 kn c1,.slice a3 k1 c3,by rw[hneg],by rw[hnum];exact s1 _ _ _ V1.out,by rw[Rat.den_natCast];exact s1 _ _ _ HV.out⟩⟩,?_⟩;exact ((HBB.out.setCell (Nat.le_refl _) _).setCell (Nat.le_refl _) _).setCell (Nat.le_refl _) _
theorem l0n (w:World)(v:Value)(l:List ByteArray)(hv:Row w v (a0T l))(hs:∀ s∈l,s.size≤1000000)(hL:Lay w):
 Calls Tryz.prog 148 #[v] w fun e w'=>(∃ u,e=.returned (.tuple #[u,.int .i64 (a0O l)])∧(a0O l=0→VRow w.heap.size w' u (l.map vQ))∧(a0O l≠0→u=.slice none 0 0))∧Below w.heap.size w w':=by
 obtain⟨i0,hi,hz0,hz1,hz2⟩:=info_parts e0F;have HP:=fun V s hs hV=>hid (e0K V s hs hV)
 have HV:=hid hv;have HS:=hid hs;have HL:=hid hL;obtain⟨a,c,rfl,c1,c2,c3⟩:=hv.openS;have H3:=hid c3;obtain⟨N,hN⟩:∃ n,l.length=n:=⟨_,rfl⟩;have HN:=hid hN;rw[hN]at HV c1 ⊢;by_cases h0:N=0
 ·subst h0;have e1:a0O l=3:=by unfold a0O;rw[if_pos hN]
  rw[e1];clear hv hs hL c3 hN;go_enter Tryz.func148,Tryz.ntmps148;go_wp2_with fail;go_ret2
  exact⟨⟨_,rfl,fun e=>by simp at e,fun _=>rfl⟩,Below.refl _ _⟩
 have q0:((N:Int)==0)=false:=by rw[beq_eq_false_iff_ne];omega
 have q0':(N==0)=false:=by rw[beq_eq_false_iff_ne];omega
 by_cases h64:64<N
 ·have e1:a0O l=4:=by unfold a0O;rw[if_neg (by omega),if_pos (by omega)]
  have q1:decide ((64:Int)<(N:Int))=true:=decide_eq_true (by omega);rw[e1];clear hv hs hL c3 hN h0 h64;go_enter Tryz.func148,Tryz.ntmps148;go_wp2_with fail;go_ret2
  exact⟨⟨_,rfl,fun e=>by simp at e,fun _=>rfl⟩,Below.refl _ _⟩
 have q1:decide ((64:Int)<(N:Int))=false:=decide_eq_false (by omega);have HE:=hid (show a0O l=h0c l from o0B (by omega) (by omega));have HNN:=hid h64;rw[HE.out];clear hv hs hL c3 hN h0 h64;go_enter Tryz.func148,Tryz.ntmps148;go_wp2_with fail
 go_loopw [4,6,7,8,19] (fun s4 s6 s7 s8 s19 wr=>∃ i:Nat,s19=.int .i64 (i:Nat)∧i≤N∧Hid (h0c (l.take i)=0)∧Hid (VRow w.heap.size wr s4 ((l.take i).map vQ))∧Hid (Below w.heap.size w wr)) (fun s4 s6 s7 s8 s19 wr=>N-(intOf s19).toNat)
 case atStart=>exact⟨0,rfl,Nat.zero_le _,rfl,VRow.nil _ _,Below.refl _ _⟩
 case round=>
  obtain⟨i,rfl,hi',hE,hO,hB⟩:=hrel;by_cases hlt:i<N
  ·obtain⟨s,hs⟩:∃ s,l[i]?=some s:=⟨_,List.getElem?_eq_getElem (by rw[HN.out];exact hlt)⟩;obtain⟨g,o,rfl,hg,hc⟩:=H3.out i s hs;have hc2:=(hB.out.cell (p:=⟨g,o+i,none⟩) hg).trans hc;have b1:(0:Int)≤(i:Int):=by omega
   have b2:(i:Int)<(N:Int):=by omega
   have wi:IntKind.i64.wrap ((i:Int)+1)=((i+1:Nat):Int):=by have:=HNN.out;rw[IntWalk.i64_in _ ⟨by omega,by omega⟩];omega
   have HLT:=hid hlt;have HG:=hid hs;have hss:=HS.out s (List.mem_of_getElem? hs);have PP:=fun V hV=>hid (e0K V s hss hV)
   clear hc hg hi' hss hs;by_cases hq:qE s=0
   ·have HQ:=hid hq;rw[hq]at PP;clear hq hlt;go_wp2_with fail;refine (PP _ (HL.out.call hB.out)).out.mono ?_;rintro e w1 ⟨⟨v1,rfl,hv1,-⟩,hb1⟩;have iq:=i0L HQ.out (hv1 rfl);obtain⟨m1,a1,n1,c1',a2,n2,c2',rfl⟩:=iq.qv;have Q1:=hid iq;have A1:=hid ((Below.refl w1.heap.size w1).alloc (Nat.le_refl _) (.cells #[.bool m1,.slice a1 n1 c1',.slice a2 n2 c2'] 57));have A2:=hid (A1.out.alloc A1.out.size (.cells #[.bool m1,.slice a1 n1 c1',.slice a2 n2 c2'] 57));have Z2:=hid (show Blk ((w1.alloc (.cells #[.bool m1,.slice a1 n1 c1',.slice a2 n2 c2'] 57)).alloc (.cells #[.bool m1,.slice a1 n1 c1',.slice a2 n2 c2'] 57)) (w1.heap.size+1) #[.bool m1,.slice a1 n1 c1',.slice a2 n2 c2'] 57 from Blk.made _ _ _ (by simp));have x2:=hid (hb1.trans (A2.out.mono hb1.size));have y2:=hid (a0a hB.out x2.out);obtain⟨cs,hk,hQL⟩:=(hO.out.call x2.out).ex;have HK:=hid hk;have HQL:=hid hQL;have HCL:Hid (cs.length=i):=by show _=_;rw[hQL.len,List.length_map,List.length_take,HN.out];have:=HLT.out;omega
    have QC2:=hid (QC.of (Q1.out.call A2.out));have BSZ:=hid (show w.heap.size≤((w1.alloc (.cells #[.bool m1,.slice a1 n1 c1',.slice a2 n2 c2'] 57)).alloc (.cells #[.bool m1,.slice a1 n1 c1',.slice a2 n2 c2'] 57)).heap.size from y2.out.size);clear hb1 hv1 hk hQL iq
    go_wp2_with (at_builtin;refine a0s _ .u64 rfl _ _ 53 rfl w.heap.size 57 i0 (.agg #[.bool false,.slice none 0 0,.slice none 0 0]) 3 56 Tryz.underlying53 hi hz0 hz1 hz2 rfl (by decide) i0C _ cs rfl HK.out ⟨w1.heap.size+1,0,none⟩ 1 1 [[.bool m1,.slice a1 n1 c1',.slice a2 n2 c2']] rfl rfl (r0m _ _ _) (l0c Z2.out) (r0d _ _ _ _ _ _ _) (s0r _ _ _ _ _ _ _) (by rw[HCL.out];have:=HNN.out;have:=HLT.out;unfold maxLen;omega) (by rw[HCL.out];have:=HNN.out;have:=HLT.out;omega) BSZ.out ?_
                 intro v' w3 hown hgrow hkeep hat;have O3:=hid (show VRow w.heap.size w3 v' ((l.take (i+1)).map vQ) by rw[List.take_add_one,HG.out,Option.toList_some,List.map_append];exact VRow.app HQL.out hown hkeep QC2.out);have B3:=hid (b0l HK.out y2.out hgrow);clear hown hgrow hkeep hat)
    go_roundw
    case rel=>exact⟨i+1,by go_num,by have:=HLT.out;omega,hid (h0b hE.out HG.out HQ.out),O3,B3⟩
    case measure=>simp[intOf]<;>(have:=HLT.out;omega)
   ·have HQ:=hid hq;have hel:=e0M hE.out HG.out HQ.out;have t2:(qE s==0)=false:=by simpa using hq
    have t3:(qE s != 0)=true:=by simpa using hq
    obtain⟨E,hEE⟩:∃ x,qE s=x:=⟨_,rfl⟩;rw[hEE]at PP hel t2 t3 HQ;have HEL:=hid hel;clear hq hlt hEE hel;go_wp2_with fail;refine (PP _ (HL.out.call hB.out)).out.mono ?_;rintro e w1 ⟨⟨v1,rfl,-,hv1⟩,hb1⟩;obtain rfl:=hv1 HQ.out;have y1:=hid (a0a hB.out hb1);have y2:=hid (y1.out.alloc y1.out.size (.cells #[.bool false,.slice none 0 0,.slice none 0 0] 57));clear hb1 hv1;go_wp2_with fail;go_ret2
    exact⟨⟨.slice none 0 0,by rw[HEL.out];rfl,fun e=>absurd (HEL.out.symm.trans e) HQ.out,fun _=>rfl⟩,y2.out⟩
  ·obtain rfl:i=N:=by omega
   have hT:l.take i=l:=List.take_of_length_le (by rw[HN.out];exact Nat.le_refl _);rw[hT]at hE hO;have q9:decide ((i:Int)<(i:Int))=false:=by simp
   have HEL:=hid hE.out;clear hlt hT hi';obtain⟨a9,c9,rfl,-,-⟩:=hO.out.slice;go_wp2_with fail;go_ret2
   exact⟨⟨_,by rw[HEL.out];rfl,fun _=>hO.out,fun e=>absurd HEL.out e⟩,hB.out⟩
theorem l0o (w:World)(v:Value)(l:List ByteArray)(hv:Row w v (a0T l))(hs:∀ s∈l,s.size≤1000000)(hL:Lay w):
 Calls Tryz.prog 107 #[v] w fun e w'=>e=.returned (.int .i64 (a0O l))∧Below w.heap.size w w':=by
 have HP:=hid (l0n w v l hv hs hL);obtain⟨a,c,rfl,-,-,-⟩:=hv.openS;clear hv hs hL;go_enter Tryz.func107,Tryz.ntmps107;go_wp2_with fail;refine HP.out.mono ?_;rintro e w1 ⟨⟨u,rfl,-,-⟩,hb1⟩;have y1:=hid hb1;clear hb1;go_wp2_with fail;go_ret
 exact⟨rfl,y1.out⟩
theorem g0v (w:World)(v:Value)(l:List ByteArray)(hv:Row w v (a0T l))(hs:∀ s∈l,s.size≤1000000)(hL:Lay w):
 Calls Tryz.prog 51 #[v] w fun e w'=>(∃ u,e=.returned (.tuple #[u,.int .i64 (a0O l)])∧(a0O l=0→VRow w.heap.size w' u (l.map vQ))∧(a0O l≠0→u=.slice none 0 0))∧Below w.heap.size w w':=by
 obtain⟨i0,hi,hz0,hz1,hz2⟩:=info_parts e0F;have HP:=hid (l0o w v l hv hs hL);have HM:=fun V s hs hq hV=>hid (l0M V s hs hq hV)
 have HV:=hid hv;have HS:=hid hs;have HL:=hid hL;obtain⟨a,c,rfl,c1,c2,c3⟩:=hv.openS;have H3:=hid c3;obtain⟨N,hN⟩:∃ n,l.length=n:=⟨_,rfl⟩;have HN:=hid hN;rw[hN]at HV c1 HP ⊢;by_cases h0:a0O l=0
 case neg=>
  have t2:(a0O l==0)=false:=by simpa using h0
  have t3:(a0O l != 0)=true:=by simpa using h0
  obtain⟨E,hE⟩:∃ x,a0O l=x:=⟨_,rfl⟩;rw[hE]at HP t2 t3 h0 ⊢;have H0:=hid h0;clear hv hs hL c3 hN h0 hE;go_enter Tryz.func51,Tryz.ntmps51;go_wp2_with fail;refine HP.out.mono ?_;rintro e w1 ⟨rfl,hb1⟩;have y1:=hid hb1;clear hb1;go_wp2_with fail;go_ret2
  exact⟨⟨_,rfl,fun e=>absurd e H0.out,fun _=>rfl⟩,y1.out⟩
 case pos=>
  obtain⟨h1,h2,h3⟩:=c0e h0;have HQ:=hid h3;have HNN:=hid (show N≤64 by omega);rw[h0]at HP ⊢;clear hv hs hL c3 hN h0 h1 h2 h3;go_enter Tryz.func51,Tryz.ntmps51;go_wp2_with fail;refine HP.out.mono ?_;rintro e w1 ⟨rfl,hb1⟩;have y1:=hid hb1;clear hb1;go_wp2_with fail
  go_loopw [5,7,15] (fun s5 s7 s15 wr=>∃ i:Nat,s15=.int .i64 (i:Nat)∧i≤N∧Hid (VRow w.heap.size wr s5 ((l.take i).map vQ))∧Hid (Below w.heap.size w wr)) (fun s5 s7 s15 wr=>N-(intOf s15).toNat)
  case atStart=>exact⟨0,rfl,Nat.zero_le _,VRow.nil _ _,y1⟩
  case round=>
   obtain⟨i,rfl,hi',hO,hB⟩:=hrel;by_cases hlt:i<N
   ·obtain⟨s,hs⟩:∃ s,l[i]?=some s:=⟨_,List.getElem?_eq_getElem (by rw[HN.out];exact hlt)⟩;obtain⟨g,o,rfl,hg,hc⟩:=H3.out i s hs;have hc2:=(hB.out.cell (p:=⟨g,o+i,none⟩) hg).trans hc;have b1:(0:Int)≤(i:Int):=by omega
    have b2:(i:Int)<(N:Int):=by omega
    have wi:IntKind.i64.wrap ((i:Int)+1)=((i+1:Nat):Int):=by have:=HNN.out;rw[IntWalk.i64_in _ ⟨by omega,by omega⟩];omega
    have HLT:=hid hlt;have HG:=hid hs;have hm:=List.mem_of_getElem? hs;have PM:=fun V hV=>hid (l0M V s (HS.out s hm) (HQ.out s hm) hV)
    clear hc hg hi' hs hm hlt;go_wp2_with fail;refine (PM _ (HL.out.call hB.out)).out.mono ?_;rintro e w2 ⟨⟨v1,rfl,iq⟩,hb1⟩;obtain⟨m1,a1,n1,c1',a2,n2,c2',rfl⟩:=iq.qv;have Q1:=hid iq;have A1:=hid ((Below.refl w2.heap.size w2).alloc (Nat.le_refl _) (.cells #[.bool m1,.slice a1 n1 c1',.slice a2 n2 c2'] 57));have Z1:=hid (Blk.new w2 #[.bool m1,.slice a1 n1 c1',.slice a2 n2 c2'] 57);have x2:=hid (hb1.trans (A1.out.mono hb1.size));have y2:=hid (a0a hB.out x2.out);obtain⟨cs,hk,hQL⟩:=(hO.out.call x2.out).ex;have HK:=hid hk;have HQL:=hid hQL;have HCL:Hid (cs.length=i):=by show _=_;rw[hQL.len,List.length_map,List.length_take,HN.out];have:=HLT.out;omega
    have QC2:=hid (QC.of (Q1.out.call A1.out));have BSZ:=hid (show w.heap.size≤(w2.alloc (.cells #[.bool m1,.slice a1 n1 c1',.slice a2 n2 c2'] 57)).heap.size from y2.out.size);clear hb1 hk hQL iq
    go_wp2_with (at_builtin;refine a0s _ .u64 rfl _ _ 53 rfl w.heap.size 57 i0 (.agg #[.bool false,.slice none 0 0,.slice none 0 0]) 3 56 Tryz.underlying53 hi hz0 hz1 hz2 rfl (by decide) i0C _ cs rfl HK.out ⟨w2.heap.size,0,none⟩ 1 1 [[.bool m1,.slice a1 n1 c1',.slice a2 n2 c2']] rfl rfl (r0m _ _ _) (l0c Z1.out) (r0d _ _ _ _ _ _ _) (s0r _ _ _ _ _ _ _) (by rw[HCL.out];have:=HNN.out;have:=HLT.out;unfold maxLen;omega) (by rw[HCL.out];have:=HNN.out;have:=HLT.out;omega) BSZ.out ?_
                 intro v' w3 hown hgrow hkeep hat;have O3:=hid (show VRow w.heap.size w3 v' ((l.take (i+1)).map vQ) by rw[List.take_add_one,HG.out,Option.toList_some,List.map_append];exact VRow.app HQL.out hown hkeep QC2.out);have B3:=hid (b0l HK.out y2.out hgrow);clear hown hgrow hkeep hat)
    go_roundw
    case rel=>exact⟨i+1,by go_num,by have:=HLT.out;omega,O3,B3⟩
    case measure=>simp[intOf]<;>(have:=HLT.out;omega)
   ·obtain rfl:i=N:=by omega
    have hT:l.take i=l:=List.take_of_length_le (by rw[HN.out];exact Nat.le_refl _);rw[hT]at hO;have q9:decide ((i:Int)<(i:Int))=false:=by simp
    clear hlt hT hi';obtain⟨a9,c9,rfl,-,-⟩:=hO.out.slice;go_wp2_with fail;go_ret2
    exact⟨⟨_,rfl,fun _=>hO.out,fun e=>absurd rfl e⟩,hB.out⟩
def Lim (q:Rat):Prop:=(limbs q.num.natAbs).length≤100000∧(limbs q.den).length≤100000
theorem Lim.of {K:Nat}{q:Rat}(h:Dig K q)(hK:K≤900000):Lim q:=h.lim (L:=100000) (by omega)
theorem e0N:Dig 1 (0:Rat):=⟨by decide,by decide⟩
theorem d0P {K:Nat}:∀ {l:List Rat},(∀ q∈l,Dig K q)→Dig (K*l.length+l.length+1) (rs l)
 | [],_=>by rw[rs];exact e0N.up (by omega)
 | q::l,h=>by
  rw[rs];refine (e0Q (h q (by simp)) (d0P fun p hp=>h p (by simp[hp]))).up ?_;rw[List.length_cons,Nat.mul_succ];omega
theorem i0Y {s:ByteArray}(h:qE s=0):Dig 4000 (vQ s):=by
 obtain⟨h1,h2,h3,h4,h5,h6⟩:=k0g h;obtain⟨-,e2,e3⟩:=h0o h;obtain⟨K,hK⟩:∃ K,K=4000:=⟨_,rfl⟩;rw[← hK]at h4 h5 ⊢;exact⟨by rw[e2];exact b0K h4,by rw[e3];exact b0K h5⟩
theorem e0O {l:List ByteArray}(h:a0O l=0):∀ q∈l.map vQ,Dig 4000 q:=fun q hq=>by
 obtain⟨s,hs,rfl⟩:=List.mem_map.1 hq;exact i0Y ((c0e h).2.2 s hs)
def FB (w:World)(g:Nat)(q:Rat):Prop:=∃ (m:Bool) (a:Option Addr) (n c:Nat) (a':Option Addr) (n' c':Nat),Blk w g #[.bool m,.slice a n c,.slice a' n' c'] 57∧IsQ .u64 w (.agg #[.bool m,.slice a n c,.slice a' n' c']) q
theorem FB.call {w w':World}{g:Nat}{q:Rat}(h:FB w g q)(hb:Below w.heap.size w w'):FB w' g q:=by
 obtain⟨m,a,n,c,a',n',c',h1,h2⟩:=h;exact⟨m,a,n,c,a',n',c',h1.call hb,h2.call hb⟩
theorem FB.new {w:World}{m:Bool}{a a':Option Addr}{n c n' c':Nat}{q:Rat}(h:IsQ .u64 w (.agg #[.bool m,.slice a n c,.slice a' n' c']) q):FB (w.alloc (.cells #[.bool m,.slice a n c,.slice a' n' c'] 57)) w.heap.size q:=
 ⟨m,a,n,c,a',n',c',Blk.new w _ _,h.call ((Below.refl _ _).alloc (Nat.le_refl _) _)⟩
theorem FB.put {w:World}{b:Nat}{m0:Bool}{a0 b0:Option Addr}{n0 c0 n1 c1:Nat}(hb:Blk w b #[.bool m0,.slice a0 n0 c0,.slice b0 n1 c1] 57){m:Bool}{a a':Option Addr}{n c n' c':Nat}{q:Rat}(h:IsQ .u64 w (.agg #[.bool m,.slice a n c,.slice a' n' c']) q):
 FB (((w.setCell ⟨b,0,none⟩ (.bool m)).setCell ⟨b,1,none⟩ (.slice a n c)).setCell ⟨b,2,none⟩ (.slice a' n' c')) b q:=
 ⟨m,a,n,c,a',n',c',(b0d hb m a a' n c n' c').2,b0Z hb m a a' n c n' c' h⟩
theorem a0X {w:World}{b:Nat}{m0:Bool}{a0 b0:Option Addr}{n0 c0 n1 c1:Nat}{t:TypeId}(hb:Blk w b #[.bool m0,.slice a0 n0 c0,.slice b0 n1 c1] t)(m:Bool)(a a':Option Addr)(n c n' c':Nat):
 KeepK .u64 w (((w.setCell ⟨b,0,none⟩ (.bool m)).setCell ⟨b,1,none⟩ (.slice a n c)).setCell ⟨b,2,none⟩ (.slice a' n' c')):=by
 have n0:NoK .u64 #[.bool m0,.slice a0 n0 c0,.slice b0 n1 c1]:=fun i x h=>NoInt.three _ _ _ _ _ _ _ i _ x h
 have h1:=hb.set 0 (.bool m);have h2:=h1.set 1 (.slice a n c);simp at h1 h2;exact ((KeepK.set hb n0 0 _).trans (KeepK.set h1 (fun i x h=>NoInt.three _ _ _ _ _ _ _ i _ x h) 1 _)).trans (KeepK.set h2 (fun i x h=>NoInt.three _ _ _ _ _ _ _ i _ x h) 2 _)
theorem FB.keep {w w':World}{g:Nat}{q:Rat}(h:FB w g q)(hk:KeepK .u64 w w')(hg:w'.heap[g]?=w.heap[g]?):FB w' g q:=by
 obtain⟨m,a,n,c,a',n',c',h1,h2⟩:=h;exact⟨m,a,n,c,a',n',c',hg.trans h1,hk.isQ h2⟩
theorem FB.lt {w:World}{g:Nat}{q:Rat}(h:FB w g q):g<w.heap.size:=by
 obtain⟨m,a,n,c,a',n',c',h1,h2⟩:=h;exact h1.lt
theorem e0m (w:World)(n:Nat)(hn:n≤1000000000000000):Calls Tryz.prog 47 #[.int .i64 (n:Nat)] w fun e w'=>d0Q .u64 ((n:Nat):Rat) e w'∧Below w.heap.size w w':=by
 have A0:=hid ((Below.refl w.heap.size w).alloc (Nat.le_refl _) (.cells #[.bool false,.slice none 0 0,.slice none 0 0] 57));have X0:=hid (Blk.new w #[.bool false,.slice none 0 0,.slice none 0 0] 57);have wu:IntKind.u64.wrap (n:Int)=(n:Nat):=by unfold IntKind.wrap;simp[IntKind.bits,IntKind.signed];omega
 have P1:=fun V=>hid (r0r V n (by omega))
 have P2:=fun V v hv=>hid (s0j V v n hv)
 clear hn;go_enter Tryz.func47,Tryz.ntmps47;go_wp2_with fail;refine (P1 _).out.mono ?_;rintro e w1 ⟨⟨v1,rfl,hv1⟩,hb1⟩;have V1:=hid hv1;have y1:=hid (a0a A0.out hb1);have X1:=hid (X0.out.call hb1);obtain⟨a1,c1,rfl,_⟩:=hv1.openI;clear hb1 hv1 A0 X0;go_wp2_with fail;refine (P2 _ _ V1.out).out.mono ?_;rintro e w2 ⟨⟨v2,rfl,hv2⟩,hb2⟩;obtain⟨m2,a2,n2,c2,b2,d2',e2',rfl⟩:=hv2.qv;have Q2:=hid hv2;have y2:=hid (a0a y1.out hb2);have X2:=hid (X1.out.call hb2);clear hb2 hv2;have d0:=X2.out.cell 0;have d1:=X2.out.cell 1;have d2:=X2.out.cell 2;have e0:=X2.out.free 0;have e1:=X2.out.free 1;have e2:=X2.out.free 2;simp at d0 d1 d2;go_wp2_with fail;obtain⟨s1,s2⟩:=b0d X2.out m2 a2 b2 n2 c2 d2' e2';have f0:=s2.cell 0;have f1:=s2.cell 1;have f2:=s2.cell 2;simp at f0 f1 f2;refine bodyPost_ret (v:=.agg #[.bool m2,.slice a2 n2 c2,.slice b2 d2' e2']) (by simp[results,Tryz.results47,go_sem,f0,f1,f2]) rfl ⟨⟨_,rfl,b0Z X2.out m2 a2 b2 n2 c2 d2' e2' Q2.out⟩,?_⟩;exact ((y2.out.setCell (Nat.le_refl _) _).setCell (Nat.le_refl _) _).setCell (Nat.le_refl _) _
theorem o0N (w:World)(B:Nat)(v:Value)(qs:List Rat)(hv:VRow B w v qs)(hl:qs.length≤64)(hd:∀ q∈qs,Dig 4000 q):
 Calls Tryz.prog 60 #[v] w fun e w'=>d0Q .u64 (rs qs) e w'∧Below w.heap.size w w':=by
 have HV:=hid hv;have HD:=hid hd;have LQ:=hid (fun (i:Nat)=>show Lim (rs (qs.take i)) from Lim.of ((d0P (K:=4000) fun q hq=>hd q (List.mem_of_mem_take hq)).up (L:=300000) (by have h:=List.length_take (i:=i) (l:=qs);omega)) (by omega));obtain⟨a,c,rfl,c1,c2⟩:=hv.slice;obtain⟨N,hN⟩:∃ n,qs.length=n:=⟨_,rfl⟩;have HN:=hid hN;have HNN:=hid (show N≤64 by omega);rw[hN]at HV c1 ⊢;have A0:=hid ((Below.refl w.heap.size w).alloc (Nat.le_refl _) (.cells #[.bool false,.slice none 0 0,.slice none 0 0] 57));have X0:=hid (Blk.new w #[.bool false,.slice none 0 0,.slice none 0 0] 57);clear hv hd hl hN;go_enter Tryz.func60,Tryz.ntmps60;go_wp2_with fail;refine (l0L _).mono ?_;rintro e w1 ⟨⟨v1,rfl,hv1⟩,hb1⟩;obtain⟨m1,a1,n1,k1,a2,n2,k2,rfl⟩:=hv1.qv;have X1:=hid (X0.out.call hb1);have y1:=hid (a0a A0.out hb1);have Q1:=hid (FB.new hv1);have A1:=hid ((Below.refl w1.heap.size w1).alloc (Nat.le_refl _) (.cells #[.bool m1,.slice a1 n1 k1,.slice a2 n2 k2] 57));clear hb1 hv1 X0 A0;go_wp2_with fail
 go_loopw [5,9] (fun s5 s9 wr=>∃ i:Nat,s9=.int .i64 (i:Nat)∧i≤N∧Hid (FB wr w1.heap.size (rs (qs.take i)))∧Hid (Below w1.heap.size w1 wr)) (fun s5 s9 wr=>N-(intOf s9).toNat)
 case atStart=>exact⟨0,rfl,Nat.zero_le _,Q1,A1⟩
 case round=>
  obtain⟨i,rfl,hi,hQ,hB⟩:=hrel;have BW:=hid (a0a y1.out hB.out);by_cases hlt:i<N
  ·obtain⟨q,hq⟩:∃ q,qs[i]?=some q:=⟨_,List.getElem?_eq_getElem (by rw[HN.out];exact hlt)⟩;obtain⟨g,mq,aq,nq,cq,aq',nq',cq',rfl,-,hg,k0,k1',k2',hQQ⟩:=(HV.out.call BW.out).at hq;have QQ:=hid hQQ;have f1:(0:Int)≤(i:Int):=by omega
   have f2:(i:Int)<(N:Int):=by omega
   have wi:IntKind.i64.wrap ((i:Int)+1)=((i+1:Nat):Int):=by have:=HNN.out;rw[IntWalk.i64_in _ ⟨by omega,by omega⟩];omega
   have HLT:=hid hlt;have HRS:=hid (b0H hq);have LA:=hid (Lim.of (HD.out q (List.mem_of_getElem? hq)) (by omega));have A2:=hid ((Below.refl wr.heap.size wr).alloc (Nat.le_refl _) (.cells #[.bool mq,.slice aq nq cq,.slice aq' nq' cq'] 57));obtain⟨m5,a5,n5,c5,a6,n6,c6,hb5,hq5⟩:=hQ.out.call A2.out;have B5:=hid hb5;have V5:=hid hq5;have Q2:=hid (QQ.out.call A2.out);have b0:=B5.out.cell 0;have b1:=B5.out.cell 1;have b2:=B5.out.cell 2;simp at b0 b1 b2;clear hq hQQ hlt hi hb5 hq5 hQ hg;go_wp2_with fail;refine (l0P _ _ _ _ _ V5.out Q2.out (LQ.out i).1 (LQ.out i).2 LA.out.1 LA.out.2).mono ?_;rintro e w6 ⟨⟨v6,rfl,hv6⟩,hb6⟩;obtain⟨m7,a7,n7,c7,a8,n8,c8,rfl⟩:=hv6.qv;have x6:=hid (show Below wr.heap.size wr w6 from A2.out.trans (hb6.mono A2.out.size));have B6:=hid (B5.out.call hb6);have y6:=hid (a0a hB.out x6.out);rw[← HRS.out]at hv6;have V6:=hid hv6;have t0:=B6.out.cell 0;have t1:=B6.out.cell 1;have t2:=B6.out.cell 2;have t3:=B6.out.free 0;have t4:=B6.out.free 1;have t5:=B6.out.free 2;simp at t0 t1 t2;have F6:=hid (FB.put B6.out V6.out);have y7:=hid (((y6.out.setCell (p:=⟨w1.heap.size,0,none⟩) (Nat.le_refl _) (.bool m7)).setCell (p:=⟨w1.heap.size,1,none⟩) (Nat.le_refl _) (.slice a7 n7 c7)).setCell (p:=⟨w1.heap.size,2,none⟩) (Nat.le_refl _) (.slice a8 n8 c8));clear hb6 hv6;go_wp2_with fail;go_roundw
   case rel=>exact⟨i+1,by go_num,by have:=HLT.out;omega,F6,y7⟩
   case measure=>simp[intOf]<;>(have:=HLT.out;omega)
  ·obtain rfl:i=N:=by omega
   have hT:qs.take i=qs:=List.take_of_length_le (by rw[HN.out];exact Nat.le_refl _);rw[hT]at hQ;obtain⟨m5,a5,n5,c5,a6,n6,c6,hb5,hq5⟩:=hQ.out;have b0:=hb5.cell 0;have b1:=hb5.cell 1;have b2:=hb5.cell 2;simp at b0 b1 b2;have Q5:=hid hq5;have q9:decide ((i:Int)<(i:Int))=false:=by simp
   have X5:=hid (X1.out.call hB.out);have d0:=X5.out.cell 0;have d1:=X5.out.cell 1;have d2:=X5.out.cell 2;have e0:=X5.out.free 0;have e1:=X5.out.free 1;have e2:=X5.out.free 2;simp at d0 d1 d2;clear hb5 hq5 hT hlt hi;go_wp2_with fail;obtain⟨s1,s2⟩:=b0d X5.out m5 a5 a6 n5 c5 n6 c6;have g0:=s2.cell 0;have g1:=s2.cell 1;have g2:=s2.cell 2;simp at g0 g1 g2;refine bodyPost_ret (v:=.agg #[.bool m5,.slice a5 n5 c5,.slice a6 n6 c6]) (by simp[results,Tryz.results60,go_sem,g0,g1,g2]) rfl ⟨⟨_,rfl,b0Z X5.out m5 a5 a6 n5 c5 n6 c6 Q5.out⟩,?_⟩;exact ((BW.out.setCell (Nat.le_refl _) _).setCell (Nat.le_refl _) _).setCell (Nat.le_refl _) _
end Go.Proofs.YtlimaehdmcnjaaaGreatDoor
namespace Go.Proofs.YtlimaehdmcnjaaaGreatDoor
open Go.RowKit
def zs (l:List Int):List Value:=l.map (Value.int .i64)
@[simp] theorem zs_length (l:List Int):(zs l).length=l.length:=by simp[zs]
theorem k0b {l:List Int}{i:Nat}{x:Int}(h:l[i]?=some x):(zs l)[i]?=some (.int .i64 x):=by simp[zs,h]
theorem Row.openZ {w:World}{v:Value}{l:List Int}(h:Row w v (zs l)):∃ a c,v=.slice a l.length c∧l.length≤c∧c≤9223372036854775807∧∀ (i:Nat) (x:Int),l[i]?=some x→∃ g o,a=some ⟨g,o,none⟩∧g<w.heap.size∧w.cell? ⟨g,o+i,none⟩=some (.int .i64 x):=by
 obtain⟨a,c,rfl,h1,h2,h3⟩:=h.ex;rw[zs_length]at *;exact⟨a,c,rfl,h1,by unfold maxLen at h2;omega,fun i x hx=>h3 i _ (k0b hx)⟩
open Go.Shelf
theorem b0I {w w':World}{base:Nat}{e:TypeId}{size:Nat}{v:Value}{n:Nat}{xs:List Value}(h:w.ownsRow base e size v n xs)(hb:∀ g,v.ownBlock=some g→w'.heap[g]?=w.heap[g]?):w'.ownsRow base e size v n xs:=by
 refine⟨h.1,?_⟩;rcases h.2 with h0 | ⟨g,cap,cur,rfl,h1,h2,h3⟩
 ·exact .inl h0
 ·exact .inr ⟨g,cap,cur,rfl,h1,(hb g rfl).trans h2,h3⟩
theorem f0P {W:World}{g:Nat}{x:Value}{t:TypeId}(h:Blk W g #[x] t):∀ j u,[x][j]?=some u→W.cell? ((⟨g,0,none⟩:Addr).add j)=some u:=fun j u hj=>by
 match j,hj with
 | 0,hj=>
  simp at hj;subst hj;rw[Addr.add_lit];exact h.cell 0
open Go.Lib (decDigits nDigits)
theorem VRow.other {B:Nat}{W W':World}{v:Value}{qs:List Rat}(h:VRow B W v qs)(hk:KeepK .u64 W W')(hb:∀ g,B≤g→g<W.heap.size→W'.heap[g]?=W.heap[g]?):VRow B W' v qs:=by
 obtain⟨cs,h1,h2⟩:=h.ex;exact⟨cs,h1.keep fun g hg=>hb g (h1.own.lt g hg).1 (h1.own.lt g hg).2,h2.keep hk⟩
theorem a0g (W:World)(b:Nat)(x y z:Value){g:Nat}(hg:g≠b):(((W.setCell ⟨b,0,none⟩ x).setCell ⟨b,1,none⟩ y).setCell ⟨b,2,none⟩ z).heap[g]?=W.heap[g]? := by
 rw[Below.heap_setCell _ _ _ _ hg,Below.heap_setCell _ _ _ _ hg,Below.heap_setCell _ _ _ _ hg]
theorem VRow.beside {B b:Nat}{W:World}{v:Value}{qs:List Rat}(h:VRow B W v qs){m0:Bool}{a0 b0:Option Addr}{n0 c0 n1 c1:Nat}{t:TypeId}(hb:Blk W b #[.bool m0,.slice a0 n0 c0,.slice b0 n1 c1] t)(hlt:b<B)(m:Bool)(a a':Option Addr)(n c n' c':Nat):
 VRow B (((W.setCell ⟨b,0,none⟩ (.bool m)).setCell ⟨b,1,none⟩ (.slice a n c)).setCell ⟨b,2,none⟩ (.slice a' n' c')) v qs:=
 h.other (a0X hb m a a' n c n' c') fun g hg _=>a0g _ _ _ _ _ (by omega)
theorem g0p (l:List ByteArray)(x:ByteArray):a0T (l ++ [x])=a0T l ++ [.string x]:=by simp[a0T]
theorem h0q (w:World)(B:Nat)(v:Value)(qs:List Rat)(hv:VRow B w v qs)(hl:qs.length≤64)(hd:∀ q∈qs,Lim q)(hL:Lay w):
 Calls Tryz.prog 48 #[v] w fun e w'=>(∃ u,e=.returned (.tuple #[u,.int .i64 (wrE qs)])∧Row w' u (a0T (wrL qs)))∧Below w.heap.size w w':=by
 obtain⟨i0,hi,hz0,hz1,hz2⟩:=info_parts e0E;have HV:=hid hv;have HD:=hid hd;have HL:=hid hL;obtain⟨a,c,rfl,c1,c2⟩:=hv.slice;obtain⟨N,hN⟩:∃ n,qs.length=n:=⟨_,rfl⟩;have HN:=hid hN;have HNN:=hid (show N≤64 by omega);rw[hN]at HV c1 ⊢;clear hv hd hl hN hL;go_enter Tryz.func48,Tryz.ntmps48;go_wp2_with fail
 go_loopw [4,6,7,8,11] (fun s4 s6 s7 s8 s11 wr=>∃ i:Nat,s11=.int .i64 (i:Nat)∧i≤N∧Hid (wrE (qs.take i)=0)∧Hid (wr.ownsRow w.heap.size 23 1 s4 i (a0T ((qs.take i).map d0A)))∧Hid (Below w.heap.size w wr)) (fun s4 s6 s7 s8 s11 wr=>N-(intOf s11).toNat)
 case atStart=>exact⟨0,rfl,Nat.zero_le _,rfl,World.ownsRow_nil _ _ _ _,Below.refl _ _⟩
 case round=>
  obtain⟨i,rfl,hi',hE,hO,hB⟩:=hrel;by_cases hlt:i<N
  ·obtain⟨q,hq⟩:∃ q,qs[i]?=some q:=⟨_,List.getElem?_eq_getElem (by rw[HN.out];exact hlt)⟩;obtain⟨g,mq,aq,nq,cq,aq',nq',cq',rfl,-,hg,k0,k1',k2',hQQ⟩:=(HV.out.call hB.out).at hq;have QQ:=hid hQQ;have f1:(0:Int)≤(i:Int):=by omega
   have f2:(i:Int)<(N:Int):=by omega
   have wi:IntKind.i64.wrap ((i:Int)+1)=((i+1:Nat):Int):=by have:=HNN.out;rw[IntWalk.i64_in _ ⟨by omega,by omega⟩];omega
   have HLT:=hid hlt;have HQ:=hid hq;have LA:=hid (HD.out q (List.mem_of_getElem? hq));have A2:=hid ((Below.refl wr.heap.size wr).alloc (Nat.le_refl _) (.cells #[.bool mq,.slice aq nq cq,.slice aq' nq' cq'] 57));have Q2:=hid (QQ.out.call A2.out);have PN:=fun V v hv hV=>hid (r0y V v q hv (Nat.le_trans LA.out.1 (by omega)) (Nat.le_trans LA.out.2 (by omega)) hV)
   clear hq hQQ hi' hg;by_cases hq0:d0g q=0
   ·have HQ0:=hid hq0;rw[hq0]at PN;obtain⟨T,hT⟩:∃ t,d0A q=t:=⟨_,rfl⟩;have HT:=hid hT;rw[hT]at PN;clear hlt hq0 hT;go_wp2_with fail;refine (PN _ _ Q2.out (HL.out.call (a0a hB.out A2.out))).out.mono ?_;rintro e w2 ⟨rfl,hb2⟩;have x2:=hid (A2.out.trans (hb2.mono A2.out.size));have y2:=hid (a0a hB.out x2.out);have O2:=hid (b0q hO.out x2.out);have OA:=hid (b0q O2.out ((Below.refl _ _).alloc (Nat.le_refl _) (.cells #[.string T] 23)));have YA:=hid (y2.out.alloc y2.out.size (.cells #[.string T] 23));have Z2:=hid (Blk.new w2 #[.string T] 23);clear hb2
    go_wp2_with (at_builtin;refine wpList_append_own_at _ rfl _ _ 22 rfl w.heap.size 23 i0 (.string ⟨#[]⟩) 1 16 Tryz.underlying22 hi hz0 hz1 hz2 rfl (by decide) _ i (a0T ((qs.take i).map d0A)) rfl OA.out ⟨w2.heap.size,0,none⟩ 1 1 [.string T] rfl rfl (f0P Z2.out) (by simp[Value.oneCell']) (by have:=HNN.out;have:=HLT.out;unfold maxLen;omega) (by have:=HNN.out;have:=HLT.out;omega) (by have:=y2.out.size;simp;omega) ?_
                 intro v' w3 hown hgrow _ hat;have O3:=hid (show w3.ownsRow w.heap.size 23 1 v' (i+1) (a0T ((qs.take (i+1)).map d0A)) by rw[List.take_add_one,HQ.out,Option.toList_some,List.map_append,List.map_cons,List.map_nil,HT.out,g0p];exact hown);have B3:=hid (b0W OA.out YA.out hgrow);clear hown hgrow hat)
    go_roundw
    case rel=>exact⟨i+1,by go_num,by have:=HLT.out;omega,hid (i0e hE.out HQ.out HQ0.out),O3,B3⟩
    case measure=>simp[intOf]<;>(have:=HLT.out;omega)
   ·have HQ0:=hid hq0;have hel:=f0A hE.out HQ.out HQ0.out;have t2:(d0g q==0)=false:=by simpa using hq0
    have t3:(d0g q != 0)=true:=by simpa using hq0
    obtain⟨E,hEE⟩:∃ x,d0g q=x:=⟨_,rfl⟩;rw[hEE]at PN hel t2 t3 HQ0;have HEL:=hid hel;have HWR:=hid (show wrL qs = [] by unfold wrL;rw[if_neg (by rw[hel];exact HQ0.out)]);clear hq0 hlt hEE hel;go_wp2_with fail;refine (PN _ _ Q2.out (HL.out.call (a0a hB.out A2.out))).out.mono ?_;rintro e w2 ⟨rfl,hb2⟩;have x2:=hid (A2.out.trans (hb2.mono A2.out.size));have y2:=hid (a0a hB.out x2.out);clear hb2;go_wp2_with fail;go_ret2
    exact⟨⟨.slice none 0 0,by rw[HEL.out];rfl,by rw[HWR.out];exact Row.nil _⟩,y2.out⟩
  ·obtain rfl:i=N:=by omega
   have hT:qs.take i=qs:=List.take_of_length_le (by rw[HN.out];exact Nat.le_refl _);rw[hT]at hE hO;have q9:decide ((i:Int)<(i:Int))=false:=by simp
   have HEL:=hid hE.out;have HWR:=hid (show wrL qs=qs.map d0A by unfold wrL;rw[if_pos hE.out]);clear hlt hT hi';obtain⟨a9,c9,rfl⟩:=a0t hO.out;go_wp2_with fail;go_ret2
   exact⟨⟨_,by rw[HEL.out];rfl,by rw[HWR.out];exact Row.of_owns hO.out⟩,hB.out⟩
theorem k0A (w:World)(v:Value)(l:List ByteArray)(t:ByteArray)(hv:Row w v (a0T l))(hs:∀ s∈l,s.size≤1000000)(ht:t.size≤1000000)(hL:Lay w):
 Calls Tryz.prog 37 #[v,.string t] w fun e w'=>(∃ u f,e=.returned (.tuple #[u,f,.int .i64 (btE l t)])∧Qv f∧(btE l t=0→VRow w.heap.size w' u (l.map vQ)∧IsQ .u64 w' f (vQ t)))∧Below w.heap.size w w':=by
 have HR:=fun V hV hL=>hid (g0v V v l hV hs hL)
 have HP:=fun V hV=>hid (e0K V t ht hV)
 have HV:=hid hv;have HL:=hid hL;obtain⟨a,c,rfl,c1,c2,c3⟩:=hv.openS;obtain⟨N,hN⟩:∃ n,l.length=n:=⟨_,rfl⟩;rw[hN]at HV HR c1 ⊢;have A0:=hid ((Below.refl w.heap.size w).alloc (Nat.le_refl _) (.cells #[.bool false,.slice none 0 0,.slice none 0 0] 57));have X0:=hid (Blk.new w #[.bool false,.slice none 0 0,.slice none 0 0] 57);by_cases h0:a0O l=0
 case neg=>
  have e1:btE l t=a0O l:=by unfold btE;rw[if_neg h0]
  have t2:(a0O l==0)=false:=by simpa using h0
  have t3:(a0O l != 0)=true:=by simpa using h0
  rw[e1];obtain⟨E,hE⟩:∃ x,a0O l=x:=⟨_,rfl⟩;rw[hE]at HR t2 t3 h0 ⊢;have H0:=hid h0;clear hv hs hL c3 hN h0 hE e1 ht;go_enter Tryz.func37,Tryz.ntmps37;go_wp2_with fail;refine (HR _ (HV.out.call A0.out) (HL.out.call A0.out)).out.mono ?_;rintro e w1 ⟨⟨u,rfl,-,hu⟩,hb1⟩;obtain rfl:=hu H0.out;have y1:=hid (a0a A0.out hb1);have X1:=hid (X0.out.call hb1);have d0:=X1.out.cell 0;have d1:=X1.out.cell 1;have d2:=X1.out.cell 2;have e0:=X1.out.free 0;have e1:=X1.out.free 1;have e2:=X1.out.free 2;simp at d0 d1 d2;clear hb1 hu;go_wp2_with fail;obtain⟨s1,s2⟩:=b0d X1.out false none none 0 0 0 0;have g0:=s2.cell 0;have g1:=s2.cell 1;have g2:=s2.cell 2;simp at g0 g1 g2;refine bodyPost_ret (v:=.tuple #[.slice none 0 0,.agg #[.bool false,.slice none 0 0,.slice none 0 0],.int .i64 E]) (by simp[results,Tryz.results37,go_sem,d0,d1,d2,g0,g1,g2]) rfl ⟨⟨_,_,rfl,⟨_,_,_,_,_,_,_,rfl⟩,fun e=>absurd e H0.out⟩,?_⟩
  first | exact y1.out | exact (((y1.out.setCell (Nat.le_refl _) _).setCell (Nat.le_refl _) _).setCell (Nat.le_refl _) _)
 case pos=>
  have e1:btE l t=qE t:=by unfold btE;rw[if_pos h0]
  rw[e1];rw[h0]at HR;have H0:=hid h0;by_cases hq:qE t=0
  ·have HQ:=hid hq;rw[hq]at HP ⊢;clear hv hs hL c3 hN h0 e1 ht hq;go_enter Tryz.func37,Tryz.ntmps37;go_wp2_with fail;refine (HR _ (HV.out.call A0.out) (HL.out.call A0.out)).out.mono ?_;rintro e w1 ⟨⟨u,rfl,hu,-⟩,hb1⟩;have U1:=hid (hu (by simp));obtain⟨a1,c1',rfl,-,-⟩:=U1.out.slice;have y1:=hid (a0a A0.out hb1);have X1:=hid (X0.out.call hb1);clear hb1 hu;go_wp2_with fail;refine (HP _ (HL.out.call y1.out)).out.mono ?_;rintro e w2 ⟨⟨v2,rfl,hv2,-⟩,hb2⟩;have iq:=i0L HQ.out (hv2 rfl);obtain⟨m2,a2,n2,c2',a3,n3,c3',rfl⟩:=iq.qv;have A2:=hid ((Below.refl w2.heap.size w2).alloc (Nat.le_refl _) (.cells #[.bool m2,.slice a2 n2 c2',.slice a3 n3 c3'] 57));have Z2:=hid (Blk.new w2 #[.bool m2,.slice a2 n2 c2',.slice a3 n3 c3'] 57);have X2:=hid ((X1.out.call hb2).call A2.out);have y2:=hid (a0a (a0a y1.out hb2) A2.out);have U2:=hid ((U1.out.call hb2).call A2.out);have Q2:=hid (iq.call A2.out);have ne:(w.heap.size=w2.heap.size)=False:=by have:=(X1.out.call hb2).lt;simp;omega
   have ne2:(w2.heap.size=w.heap.size)=False:=by have:=(X1.out.call hb2).lt;simp;omega
   have d0:=X2.out.cell 0;have d1:=X2.out.cell 1;have d2:=X2.out.cell 2;have e0:=X2.out.free 0;have e1:=X2.out.free 1;have e2:=X2.out.free 2;have g0:=Z2.out.cell 0;have g1:=Z2.out.cell 1;have g2:=Z2.out.cell 2;simp at d0 d1 d2 g0 g1 g2;clear hb2 hv2 iq;go_wp2_with fail
   go_region
   go_wp2_with fail;obtain⟨s1,s2⟩:=b0d X2.out m2 a2 a3 n2 c2' n3 c3';have f0:=s2.cell 0;have f1:=s2.cell 1;have f2:=s2.cell 2;simp at f0 f1 f2;refine bodyPost_ret (v:=.tuple #[.slice a1 (l.map vQ).length c1',.agg #[.bool m2,.slice a2 n2 c2',.slice a3 n3 c3'],.int .i64 0]) (by simp[results,Tryz.results37,go_sem,f0,f1,f2]) rfl ⟨⟨_,_,rfl,⟨_,_,_,_,_,_,_,rfl⟩,fun _=>⟨?_,(b0Z X2.out m2 a2 a3 n2 c2' n3 c3' Q2.out).call (Below.refl _ _).drew⟩⟩,?_⟩
   ·exact ((U2.out.beside X2.out (by simp) m2 a2 a3 n2 c2' n3 c3').low (by simp)).call (Below.refl _ _).drew
   ·exact (((y2.out.setCell (p:=⟨w.heap.size,0,none⟩) (Nat.le_refl _) _).setCell (p:=⟨w.heap.size,1,none⟩) (Nat.le_refl _) _).setCell (p:=⟨w.heap.size,2,none⟩) (Nat.le_refl _) _).drew
  ·have HQ:=hid hq;have t2:(qE t==0)=false:=by simpa using hq
   have t3:(qE t != 0)=true:=by simpa using hq
   obtain⟨E,hEE⟩:∃ x,qE t=x:=⟨_,rfl⟩;rw[hEE]at HP HQ t2 t3 ⊢;clear hv hs hL c3 hN h0 e1 ht hq hEE;go_enter Tryz.func37,Tryz.ntmps37;go_wp2_with fail;refine (HR _ (HV.out.call A0.out) (HL.out.call A0.out)).out.mono ?_;rintro e w1 ⟨⟨u,rfl,hu,-⟩,hb1⟩;have U1:=hid (hu (by simp));obtain⟨a1,c1',rfl,-,-⟩:=U1.out.slice;have y1:=hid (a0a A0.out hb1);have X1:=hid (X0.out.call hb1);clear hb1 hu;go_wp2_with fail;refine (HP _ (HL.out.call y1.out)).out.mono ?_;rintro e w2 ⟨⟨v2,rfl,-,hv2⟩,hb2⟩;obtain rfl:=hv2 HQ.out;have A2:=hid ((Below.refl w2.heap.size w2).alloc (Nat.le_refl _) (.cells #[.bool false,.slice none 0 0,.slice none 0 0] 57));have Z2:=hid (Blk.new w2 #[.bool false,.slice none 0 0,.slice none 0 0] 57);have X2:=hid ((X1.out.call hb2).call A2.out);have y2:=hid (a0a (a0a y1.out hb2) A2.out);have ne:(w.heap.size=w2.heap.size)=False:=by have:=(X1.out.call hb2).lt;simp;omega
   have ne2:(w2.heap.size=w.heap.size)=False:=by have:=(X1.out.call hb2).lt;simp;omega
   have d0:=X2.out.cell 0;have d1:=X2.out.cell 1;have d2:=X2.out.cell 2;have e0:=X2.out.free 0;have e1:=X2.out.free 1;have e2:=X2.out.free 2;have g0:=Z2.out.cell 0;have g1:=Z2.out.cell 1;have g2:=Z2.out.cell 2;simp at d0 d1 d2 g0 g1 g2;clear hb2 hv2;go_wp2_with fail
   go_region
   go_wp2_with fail;obtain⟨s1,s2⟩:=b0d X2.out false none none 0 0 0 0;have f0:=s2.cell 0;have f1:=s2.cell 1;have f2:=s2.cell 2;simp at f0 f1 f2;refine bodyPost_ret (v:=.tuple #[.slice a1 (l.map vQ).length c1',.agg #[.bool false,.slice none 0 0,.slice none 0 0],.int .i64 E]) (by simp[results,Tryz.results37,go_sem,f0,f1,f2,d0,d1,d2]) rfl ⟨⟨_,_,rfl,⟨_,_,_,_,_,_,_,rfl⟩,fun e=>absurd e HQ.out⟩,?_⟩
   first | exact y2.out.drew | exact (((y2.out.setCell (p:=⟨w.heap.size,0,none⟩) (Nat.le_refl _) _).setCell (p:=⟨w.heap.size,1,none⟩) (Nat.le_refl _) _).setCell (p:=⟨w.heap.size,2,none⟩) (Nat.le_refl _) _).drew
theorem b0Q (w:World)(v:Value)(l:List ByteArray)(hv:Row w v (a0T l))(hs:∀ s∈l,s.size≤1000000)(hq:∀ s∈l,qE s=0)(hn:l.length≤64):
 Calls Tryz.prog 80 #[v] w fun e w'=>(∃ u,e=.returned u∧WRow w.heap.size w' u (l.map vQ))∧Below w.heap.size w w':=by
 obtain⟨i0,hi,hz0,hz1,hz2⟩:=info_parts g0b;have HM:=hid fun V s hs hq=>hid (b0x V s hs hq)
 have HV:=hid hv;have HS:=hid hs;have HQ:=hid hq;obtain⟨a,c,rfl,c1,c2,c3⟩:=hv.openS;have H3:=hid c3;obtain⟨N,hN⟩:∃ n,l.length=n:=⟨_,rfl⟩;have HN:=hid hN;rw[hN]at HV c1 ⊢;have HNN:=hid (show N≤64 by omega);clear hv hs hq c3 hN hn;go_enter Tryz.func80,Tryz.ntmps80;go_wp2_with fail
 go_loopw [3,4] (fun s3 s4 wr=>∃ i:Nat,s4=.int .i64 (i:Nat)∧i≤N∧Hid (WRow w.heap.size wr s3 ((l.take i).map vQ))∧Hid (Below w.heap.size w wr)) (fun s3 s4 wr=>N-(intOf s4).toNat)
 case atStart=>exact⟨0,rfl,Nat.zero_le _,WRow.nil _ _,Below.refl _ _⟩
 case round=>
  obtain⟨i,rfl,hi',hO,hB⟩:=hrel;by_cases hlt:i<N
  ·obtain⟨s,hs⟩:∃ s,l[i]?=some s:=⟨_,List.getElem?_eq_getElem (by rw[HN.out];exact hlt)⟩;obtain⟨g,o,rfl,hg,hc⟩:=H3.out i s hs;have hc2:=(hB.out.cell (p:=⟨g,o+i,none⟩) hg).trans hc;have b1:(0:Int)≤(i:Int):=by omega
   have b2:(i:Int)<(N:Int):=by omega
   have wi:IntKind.i64.wrap ((i:Int)+1)=((i+1:Nat):Int):=by have:=HNN.out;rw[IntWalk.i64_in _ ⟨by omega,by omega⟩];omega
   have HLT:=hid hlt;have HG:=hid hs;have hm:=List.mem_of_getElem? hs;have PM:=fun V=>HM.out V s (HS.out s hm) (HQ.out s hm)
   clear hc hg hi' hs hm hlt;go_wp2_with fail;refine (PM _).out.mono ?_;rintro e w2 ⟨⟨v1,rfl,iq⟩,hb1⟩;obtain⟨m1,a1,n1,c1',a2,n2,c2',rfl⟩:=iq.qv;have Q1:=hid iq;have A1:=hid ((Below.refl w2.heap.size w2).alloc (Nat.le_refl _) (.cells #[.bool m1,.slice a1 n1 c1',.slice a2 n2 c2'] 79));have Z1:=hid (Blk.new w2 #[.bool m1,.slice a1 n1 c1',.slice a2 n2 c2'] 79);have x2:=hid (hb1.trans (A1.out.mono hb1.size));have y2:=hid (a0a hB.out x2.out);obtain⟨cs,hk,hQL⟩:=(hO.out.call x2.out).ex;have HK:=hid hk;have HQL:=hid hQL;have HCL:Hid (cs.length=i):=by show _=_;rw[hQL.len,List.length_map,List.length_take,HN.out];have:=HLT.out;omega
   have QC2:=hid (QC.ofI (Q1.out.call A1.out));have BSZ:=hid (show w.heap.size≤(w2.alloc (.cells #[.bool m1,.slice a1 n1 c1',.slice a2 n2 c2'] 79)).heap.size from y2.out.size);clear hb1 hk hQL iq hc2
   go_wp2_with (at_builtin;refine a0s _ .i64 rfl _ _ 104 rfl w.heap.size 79 i0 (.agg #[.bool false,.slice none 0 0,.slice none 0 0]) 3 56 Tryz.underlying104 hi hz0 hz1 hz2 rfl (by decide) l0a _ cs rfl HK.out ⟨w2.heap.size,0,none⟩ 1 1 [[.bool m1,.slice a1 n1 c1',.slice a2 n2 c2']] rfl rfl (r0m _ _ _) (l0c Z1.out) (r0d _ _ _ _ _ _ _) (p0t _ _ _ _ _ _ _) (by rw[HCL.out];have:=HNN.out;have:=HLT.out;unfold maxLen;omega) (by rw[HCL.out];have:=HNN.out;have:=HLT.out;omega) BSZ.out ?_
                intro v' w3 hown hgrow hkeep hat;have O3:=hid (show WRow w.heap.size w3 v' ((l.take (i+1)).map vQ) by rw[List.take_add_one,HG.out,Option.toList_some,List.map_append];exact WRow.app HQL.out hown hkeep QC2.out);have B3:=hid (b0l HK.out y2.out hgrow);clear hown hgrow hkeep hat)
   go_roundw
   case rel=>exact⟨i+1,by go_num,by have:=HLT.out;omega,O3,B3⟩
   case measure=>simp[intOf]<;>(have:=HLT.out;omega)
  ·obtain rfl:i=N:=by omega
   have q1:decide ((i:Int)<(i:Int))=false:=by simp
   have hT:l.take i=l:=List.take_of_length_le (by rw[HN.out];exact Nat.le_refl _);rw[hT]at hO;clear hlt hT;go_wp2_with fail;go_ret
   exact⟨⟨_,rfl,hO.out⟩,hB.out⟩
theorem d0x (w:World)(v:Value)(qs:List Rat)(hv:RRow w v qs)(hl:qs.length≤64)(hd:∀ q∈qs,(limbs q.num.natAbs).length≤1000000∧(limbs q.den).length≤1000000):
 Calls Tryz.prog 85 #[v] w fun e w'=>(∃ u,e=.returned (.tuple #[u,.int .i64 (wrE qs)])∧Row w' u (a0T (wrL qs)))∧Below w.heap.size w w':=by
 obtain⟨i0,hi,hz0,hz1,hz2⟩:=info_parts e0E;have HV:=hid hv;have HD:=hid hd;obtain⟨a,c,rfl,c1,c2⟩:=hv.slice;obtain⟨N,hN⟩:∃ n,qs.length=n:=⟨_,rfl⟩;have HN:=hid hN;have HNN:=hid (show N≤64 by omega);rw[hN]at HV c1 ⊢;clear hv hd hl hN;go_enter Tryz.func85,Tryz.ntmps85;go_wp2_with fail
 go_loopw [4,5,6,7] (fun s4 s5 s6 s7 wr=>∃ i:Nat,s5=.int .i64 (i:Nat)∧i≤N∧Hid (wrE (qs.take i)=0)∧Hid (wr.ownsRow w.heap.size 23 1 s4 i (a0T ((qs.take i).map d0A)))∧Hid (Below w.heap.size w wr)) (fun s4 s5 s6 s7 wr=>N-(intOf s5).toNat)
 case atStart=>exact⟨0,rfl,Nat.zero_le _,rfl,World.ownsRow_nil _ _ _ _,Below.refl _ _⟩
 case round=>
  obtain⟨i,rfl,hi',hE,hO,hB⟩:=hrel;by_cases hlt:i<N
  ·obtain⟨q,hq⟩:∃ q,qs[i]?=some q:=⟨_,List.getElem?_eq_getElem (by rw[HN.out];exact hlt)⟩;obtain⟨g,o,mq,aq,nq,cq,aq',nq',cq',rfl,hg,k0,k1',k2',hQQ⟩:=(HV.out.call hB.out).at hq;have QQ:=hid hQQ;have f1:(0:Int)≤(i:Int):=by omega
   have f2:(i:Int)<(N:Int):=by omega
   have wi:IntKind.i64.wrap ((i:Int)+1)=((i+1:Nat):Int):=by have:=HNN.out;rw[IntWalk.i64_in _ ⟨by omega,by omega⟩];omega
   have HLT:=hid hlt;have HQ:=hid hq;have LA:=HD.out q (List.mem_of_getElem? hq);have PN:=fun V v hv=>hid (f0L V v q hv LA.1 LA.2)
   clear hq hQQ hi' hg LA;by_cases hq0:d0g q=0
   ·have HQ0:=hid hq0;rw[hq0]at PN;obtain⟨T,hT⟩:∃ t,d0A q=t:=⟨_,rfl⟩;have HT:=hid hT;rw[hT]at PN;clear hlt hq0 hT;go_wp2_with fail;refine (PN _ _ QQ.out).out.mono ?_;rintro e w2 ⟨rfl,hb2⟩;have y2:=hid (hB.out.trans (hb2.mono hB.out.size));have O2:=hid (b0q hO.out hb2);have OA:=hid (b0q O2.out ((Below.refl _ _).alloc (Nat.le_refl _) (.cells #[.string T] 23)));have YA:=hid (y2.out.alloc y2.out.size (.cells #[.string T] 23));have Z2:=hid (Blk.new w2 #[.string T] 23);clear hb2 k0 k1' k2'
    go_wp2_with (at_builtin;refine wpList_append_own_at _ rfl _ _ 22 rfl w.heap.size 23 i0 (.string ⟨#[]⟩) 1 16 Tryz.underlying22 hi hz0 hz1 hz2 rfl (by decide) _ i (a0T ((qs.take i).map d0A)) rfl OA.out ⟨w2.heap.size,0,none⟩ 1 1 [.string T] rfl rfl (f0P Z2.out) (by simp[Value.oneCell']) (by have:=HNN.out;have:=HLT.out;unfold maxLen;omega) (by have:=HNN.out;have:=HLT.out;omega) (by have:=y2.out.size;simp;omega) ?_
                 intro v' w3 hown hgrow _ hat;have O3:=hid (show w3.ownsRow w.heap.size 23 1 v' (i+1) (a0T ((qs.take (i+1)).map d0A)) by rw[List.take_add_one,HQ.out,Option.toList_some,List.map_append,List.map_cons,List.map_nil,HT.out,g0p];exact hown);have B3:=hid (b0W OA.out YA.out hgrow);clear hown hgrow hat)
    go_roundw
    case rel=>exact⟨i+1,by go_num,by have:=HLT.out;omega,hid (i0e hE.out HQ.out HQ0.out),O3,B3⟩
    case measure=>simp[intOf]<;>(have:=HLT.out;omega)
   ·have HQ0:=hid hq0;have hel:=f0A hE.out HQ.out HQ0.out;have t2:(d0g q==0)=false:=by simpa using hq0
    have t3:(d0g q != 0)=true:=by simpa using hq0
    obtain⟨E,hEE⟩:∃ x,d0g q=x:=⟨_,rfl⟩;rw[hEE]at PN hel t2 t3 HQ0;have HEL:=hid hel;have HWR:=hid (show wrL qs = [] by unfold wrL;rw[if_neg (by rw[hel];exact HQ0.out)]);clear hq0 hlt hEE hel;go_wp2_with fail;refine (PN _ _ QQ.out).out.mono ?_;rintro e w2 ⟨rfl,hb2⟩;have y2:=hid (hB.out.trans (hb2.mono hB.out.size));clear hb2;go_wp2_with fail;go_ret2
    exact⟨⟨.slice none 0 0,by rw[HEL.out];rfl,by rw[HWR.out];exact Row.nil _⟩,y2.out⟩
  ·obtain rfl:i=N:=by omega
   have hT:qs.take i=qs:=List.take_of_length_le (by rw[HN.out];exact Nat.le_refl _);rw[hT]at hE hO;have q9:decide ((i:Int)<(i:Int))=false:=by simp
   have HEL:=hid hE.out;have HWR:=hid (show wrL qs=qs.map d0A by unfold wrL;rw[if_pos hE.out]);clear hlt hT hE;go_wp2_with fail;go_ret2
   exact⟨⟨_,by rw[HEL.out];rfl,by rw[HWR.out];exact Row.of_owns hO.out⟩,hB.out⟩
theorem b0A (w:World)(v:Value)(l:List ByteArray)(hv:Row w v (a0T l))(hz:∀ s∈l,s.size≤1000000):
 Calls Tryz.prog 87 #[v] w fun e w'=>e=.returned (.int .i64 (a0O l))∧Below w.heap.size w w':=by
 have PC:=fun V s h=>hid (i0w V s h)
 obtain⟨a,c,rfl,h1,h2,h3⟩:=hv.openS;obtain⟨n,hn⟩:∃ n,l.length=n:=⟨_,rfl⟩;have HDEF:=hid (show a0O l=if n=0 then 3 else if 64<n then 4 else h0c l by rw[← hn];rfl);rw[hn]at h1 ⊢;have H3:=hid h3;have HN:=hid hn;have HZ:=hid hz;clear hv h3 hn hz;by_cases h0:n=0
 ·have t1:((n:Int)==0)=true:=by rw[beq_iff_eq];omega
  have e:a0O l=3:=by rw[HDEF.out,if_pos h0]
  rw[e];clear HDEF;subst h0;go_enter Tryz.func87,Tryz.ntmps87;go_wp2_with fail;go_ret
  exact⟨rfl,Below.refl _ _⟩
 ·have t1:((n:Int)==0)=false:=by rw[beq_eq_false_iff_ne];omega
  by_cases h64:64<n
  ·have t2:decide ((64:Int)<(n:Int))=true:=decide_eq_true (by omega);have e:a0O l=4:=by rw[HDEF.out,if_neg h0,if_pos h64]
   rw[e];clear HDEF h0 h64;go_enter Tryz.func87,Tryz.ntmps87;go_wp2_with fail;go_ret
   exact⟨rfl,Below.refl _ _⟩
  ·have t2:decide ((64:Int)<(n:Int))=false:=decide_eq_false (by omega);have HDE:=hid (show a0O l=h0c l by rw[HDEF.out,if_neg h0,if_neg h64]);have N64:=hid (show n≤64 by omega);clear HDEF h0 h64;go_enter Tryz.func87,Tryz.ntmps87;go_wp2_with fail
   go_loopw [3,4] (fun s3 s4 wr=>∃ i:Nat,s3=.int .i64 (i:Nat)∧i≤n∧Hid (h0c (l.take i)=0)∧Hid (Below w.heap.size w wr)) (fun s3 s4 wr=>n-(intOf s3).toNat)
   case atStart=>exact⟨0,rfl,Nat.zero_le _,rfl,Below.refl _ _⟩
   case round=>
    obtain⟨i,rfl,hi,hE,hB⟩:=hrel;by_cases hlt:i<n
    ·obtain⟨x,hx⟩:∃ x,l[i]?=some x:=⟨_,List.getElem?_eq_getElem (by rw[HN.out];exact hlt)⟩;obtain⟨g,o,rfl,hg,k1⟩:=H3.out i x hx;have HX:=hid hx;have PCx:=fun V=>PC V x (HZ.out x (List.mem_of_getElem? hx))
     have m1:=(hB.out.cell (p:=⟨g,o+i,none⟩) hg).trans k1;have b1:(0:Int)≤(i:Int):=by omega
     have b2:(i:Int)<(n:Int):=by omega
     have wi:IntKind.i64.wrap ((i:Int)+1)=((i+1:Nat):Int):=by have:=N64.out;rw[IntWalk.i64_in _ ⟨by omega,by omega⟩];omega
     have HLT:=hid hlt;obtain⟨E,hEE⟩:∃ E,qE x=E:=⟨_,rfl⟩;have HEE:=hid hEE;rw[hEE]at PCx;clear k1 hx hg hEE hlt;by_cases hs:E=0
     ·subst hs;go_wp2_with fail;refine (PCx _).out.mono ?_;rintro e w1 ⟨rfl,hb1⟩;have y1:=hid hb1;clear hb1;go_wp2_with fail;go_roundw
      case rel=>exact⟨i+1,by go_num,by have:=HLT.out;omega,hid (h0b hE.out HX.out HEE.out),a0a hB.out y1.out⟩
      case measure=>simp[intOf]<;>(have:=HLT.out;omega)
     ·have q1:(E==0)=false:=by simpa using hs
      have q2:(E != 0)=true:=by simpa using hs
      have HS:=hid hs;clear hs;go_wp2_with fail;refine (PCx _).out.mono ?_;rintro e w1 ⟨rfl,hb1⟩;have y1:=hid hb1;clear hb1;go_wp2_with fail;go_ret
      refine⟨?_,a0a hB.out y1.out⟩;rw[HDE.out,e0M hE.out HX.out (by rw[HEE.out];exact HS.out),HEE.out];rfl
    ·obtain rfl:i=n:=by omega
     have q1:decide ((i:Int)<(i:Int))=false:=by simp
     have hT:l.take i=l:=List.take_of_length_le (by rw[HN.out];exact Nat.le_refl _);rw[hT]at hE;clear hlt hT;go_wp2_with fail;go_ret
     exact⟨by rw[HDE.out,hE.out];rfl,hB.out⟩
theorem d0c (w:World)(v:Value)(l:List ByteArray)(t:ByteArray)(hv:Row w v (a0T l))(hz:∀ s∈l,s.size≤1000000)(ht:t.size≤1000000):
 Calls Tryz.prog 79 #[v,.string t] w fun e w'=>e=.returned (.int .i64 (btE l t))∧Below w.heap.size w w':=by
 have PV:=hid (b0A w v l hv hz);have PC:=fun V=>hid (i0w V t ht)
 have HDEF:=hid (show btE l t=if a0O l=0 then qE t else a0O l from rfl);obtain⟨a,c,rfl,h1,h2,h3⟩:=hv.openS;obtain⟨R,hR⟩:∃ R,btE l t=R:=⟨_,rfl⟩;rw[hR]at HDEF ⊢;obtain⟨E,hE⟩:∃ R,a0O l=R:=⟨_,rfl⟩;rw[hE]at HDEF PV;obtain⟨Q,hQ⟩:∃ R,qE t=R:=⟨_,rfl⟩;rw[hQ]at HDEF PC;obtain⟨n,hn⟩:∃ n,l.length=n:=⟨_,rfl⟩;rw[hn]at PV ⊢;clear hv hz ht h1 h2 h3 hR hE hQ hn;by_cases h0:E=0
 ·subst h0;have e:=HDEF.out;rw[if_pos rfl]at e;subst e;clear HDEF;go_enter Tryz.func79,Tryz.ntmps79;go_wp2_with fail;refine PV.out.mono ?_;rintro e w1 ⟨rfl,hb1⟩;have y1:=hid hb1;clear hb1;go_wp2_with fail;refine (PC _).out.mono ?_;rintro e w2 ⟨rfl,hb2⟩;have y2:=hid (a0a y1.out hb2);clear hb2;go_wp2_with fail;go_ret
  exact⟨rfl,y2.out⟩
 ·have e:=HDEF.out;rw[if_neg h0]at e;subst e;have q1:(R==0)=false:=by simpa using h0
  have q2:(R != 0)=true:=by simpa using h0
  clear HDEF h0;go_enter Tryz.func79,Tryz.ntmps79;go_wp2_with fail;refine PV.out.mono ?_;rintro e w1 ⟨rfl,hb1⟩;have y1:=hid hb1;clear hb1;go_wp2_with fail;go_ret
  exact⟨rfl,y1.out⟩
end Go.Proofs.YtlimaehdmcnjaaaGreatDoor
namespace Go.Proofs.YtlimaehdmcnjaaaGreatDoor
open Go.RowKit
open Go.Lib (decDigits nDigits)
def i0p (q:Rat):Int:=if q.num=0 then 0 else if q.num<0 then -1 else 1
def d0V (p q:Rat):Int:=i0p (p-q)
theorem d0D {n:Nat}:(limbs n).length=0↔n=0:=by
 constructor
 ·intro h;have h2:limbs n=limbs 0:=by rw[List.eq_nil_of_length_eq_zero h,limbs_zero]
  exact d0k h2
 ·rintro rfl;rw[limbs_zero];rfl
end Go.Proofs.YtlimaehdmcnjaaaGreatDoor
namespace Go.Proofs.YtlimaehdmcnjaaaGreatDoor
open Go.RowKit
theorem d0w (q:Rat):(0<q∧i0p q=1)∨(q=0∧i0p q=0)∨(q<0∧i0p q = -1):=by
 unfold i0p;by_cases h:q.num=0
 ·exact .inr (.inl ⟨Rat.num_eq_zero.1 h,by rw[if_pos h]⟩)
 ·have hq:q≠0:=fun e=>h (Rat.num_eq_zero.2 e)
  by_cases h2:q.num<0
  ·have h3:¬ 0≤q:=fun e=>absurd (Rat.num_nonneg.2 e) (by omega)
   exact .inr (.inr ⟨by grind,by rw[if_neg h,if_pos h2]⟩)
  ·have h3:0≤q:=Rat.num_nonneg.1 (by omega);exact .inl ⟨by grind,by rw[if_neg h,if_neg h2]⟩
theorem c0N {p q:Rat}:d0V p q≤0↔p≤q:=by
 unfold d0V;rcases d0w (p-q) with ⟨h1,h2⟩ | ⟨h1,h2⟩ | ⟨h1,h2⟩
 ·rw[h2];exact⟨fun h=>by omega,fun h=>by exfalso;grind⟩
 ·rw[h2];exact⟨fun _=>by grind,fun _=>by omega⟩
 ·rw[h2];exact⟨fun _=>by grind,fun _=>by omega⟩
theorem c0M {p q:Rat}:d0V p q<0↔p<q:=by
 unfold d0V;rcases d0w (p-q) with ⟨h1,h2⟩ | ⟨h1,h2⟩ | ⟨h1,h2⟩
 ·rw[h2];exact⟨fun h=>by omega,fun h=>by exfalso;grind⟩
 ·rw[h2];exact⟨fun h=>by omega,fun h=>by exfalso;grind⟩
 ·rw[h2];exact⟨fun _=>by grind,fun _=>by omega⟩
open Go.Lib (decDigits nDigits)
structure Tx (s:ByteArray)(q:Rat):Prop where
 eq:s=txQ q
 fit:¬ ovQ q
theorem Tx.of {s:ByteArray}(h:qE s=0):Tx s (vQ s):=⟨o0C h,k0k h⟩
theorem Tx.qE {s:ByteArray}{q:Rat}(h:Tx s q):qE s=0:=by rw[h.eq];exact k0Q h.fit
theorem Tx.vQ {s:ByteArray}{q:Rat}(h:Tx s q):vQ s=q:=by rw[h.eq,k0j]
theorem o0T {D B:Nat}(hD:0<D):∀ {l:List Rat},(∀ q∈l,Dn D B q)→Dn D (l.length*B) (rs l)
 | [],_=>by rw[rs];exact Dn.zero hD
 | q::l,h=>by
  rw[rs,List.length_cons,Nat.succ_mul,Nat.add_comm (l.length*B)];exact (h q (by simp)).add (o0T hD fun p hp=>h p (by simp[hp]))
structure TxL (D B:Nat)(l:List ByteArray)(qs:List Rat):Prop where
 len:l.length=qs.length
 tx:∀ (i:Nat) (s:ByteArray) (q:Rat),l[i]?=some s→qs[i]?=some q→Tx s q
 dn:∀ q∈qs,Dn D B q
open Go.Shelf
open Go.Maps
attribute [local go_sem] Oper.semAt_some
theorem k0V (q:Rat):(d0A q).size≤10000:=by
 unfold d0A
 split
 ·exact (by decide:(0:Nat)≤10000)
 ·rename_i h
  unfold ovQ at h;have h1:=b0k (txQ q);unfold txQ at h1 ⊢;rw[b0w]at h1;rw[← h1];simp only[List.length_append,Lib.decDigits_length];have e1:(if decide (q.num<0)=true then [45] else ([]:List UInt8)).length≤1:=by split<;>simp
  have e2:(if q.den=1 then [] else (47:UInt8)::decDigits q.den).length≤4001:=by
   split
   ·simp
   ·simp only[List.length_cons,Lib.decDigits_length];omega
  omega
end Go.Proofs.YtlimaehdmcnjaaaGreatDoor
namespace Go.Proofs.YtlimaehdmcnjaaaGreatDoor
open Go.RowKit
open Go.Lib (decDigits nDigits)
def j0Y (z:Int):Int:=if z=0 then 0 else if z<0 then -1 else 1
theorem e0w {z:Int}{d:Nat}(hd:d≠0):(mkRat z d).num=0↔z=0:=by
 rw[Rat.num_mkRat,if_neg hd];have hg:(0:Int)<(Nat.gcd d z.natAbs:Nat):=by
  have:=Nat.gcd_pos_of_pos_left z.natAbs (Nat.pos_of_ne_zero hd);omega
 have hdv:((Nat.gcd d z.natAbs:Nat):Int)∣z:=Int.ofNat_dvd_left.2 (Nat.gcd_dvd_right _ _)
 constructor
 ·intro h;have:=Int.ediv_mul_cancel hdv;rw[h,Int.zero_mul]at this;exact this.symm
 ·rintro rfl;simp
theorem f0k {z:Int}{d:Nat}(hd:d≠0):(mkRat z d).num<0↔z<0:=by
 rw[Rat.num_mkRat,if_neg hd];have hg:(0:Int)<(Nat.gcd d z.natAbs:Nat):=by
  have:=Nat.gcd_pos_of_pos_left z.natAbs (Nat.pos_of_ne_zero hd);omega
 constructor
 ·intro h;rcases Int.lt_or_le z 0 with h1 | h1
  ·exact h1
  ·have:=Int.ediv_nonneg h1 (Int.le_of_lt hg);omega
 ·intro h;exact Int.ediv_neg_of_neg_of_pos h hg
theorem o0K {z:Int}{d:Nat}(hd:d≠0):i0p (mkRat z d)=j0Y z:=by
 unfold i0p j0Y;by_cases h:z=0
 ·rw[if_pos ((e0w hd).2 h),if_pos h]
 ·rw[if_neg (fun e=>h ((e0w hd).1 e)),if_neg h];by_cases h2:z<0
  ·rw[if_pos ((f0k hd).2 h2),if_pos h2]
  ·rw[if_neg (fun e=>h2 ((f0k hd).1 e)),if_neg h2]
theorem r0h {a c:Int}{b d:Nat}(hb:b≠0)(hd:d≠0):mkRat a b-mkRat c d=mkRat (a*d-c*b) (b*d):=by
 rw[Rat.sub_eq_add_neg,Rat.neg_mkRat,Rat.mkRat_add_mkRat _ _ hb hd,Int.neg_mul,Int.sub_eq_add_neg]
theorem p0q {a c:Int}{b d:Nat}(hb:b≠0)(hd:d≠0):d0V (mkRat a b) (mkRat c d)=j0Y (a*d-c*b):=by
 unfold d0V;rw[r0h hb hd,o0K (Nat.mul_ne_zero hb hd)]
theorem o0D {q:Rat}(h:¬ ovQ q):(txQ q).size≤10000:=by
 have:=k0V q;rwa[e0s h]at this
end Go.Proofs.YtlimaehdmcnjaaaGreatDoor
