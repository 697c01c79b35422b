/- quernlaw12's helpers: copies, bytes with room behind them, a tree of one's own. No condition. -/
import Derived.Test.YtdndeffmlhaipaaGreatDoorS43
import Derived.Test.YtdndeffmlhaipaaGreatDoorS30
import Derived.Test.YtdndeffmlhaipaaGreatDoorS31
import Derived.Test.YtdndeffmlhaipaaGreatDoorS41
import Derived.Test.YtdndeffmlhaipaaGreatDoorS38
import Derived.Test.YtdndeffmlhaipaaGreatDoorS40
import Derived.Maps.AppendAt
import Derived.Test.YtdndeffmlhaipaaGreatDoorS36
import Derived.Test.YtdndeffmlhaipaaGreatDoorS44
import Derived.Test.YtdndeffmlhaipaaGreatDoorS37
import Derived.Test.YtdndeffmlhaipaaGreatDoorS05
import Derived.Test.YtdndeffmlhaipaaGreatDoorS04
import Derived.Deep.Slices
import Derived.Test.YtdndeffmlhaipaaGreatDoorS34
import Derived.Lib.SmallJoins
import Derived.BigQuiet
import Derived.Deep.QuietTactic
import Derived.Deep.AppendLies
import Derived.Deep.RegionHeld3
import Derived.Laws.AppendOwnNone
import Derived.Deep.DeepCutAuto
import Derived.Laws.CopyOwn
import Derived.Test.YtdndeffmlhaipaaGreatDoorS18
import Derived.Test.YtdndeffmlhaipaaGreatDoorS45
import Derived.Test.YtdndeffmlhaipaaGreatDoorS02
import Derived.RangeFuncIn
import Derived.RangeFuncRecord
import Derived.RangeFuncLeaves
import Derived.RangeFuncSeq
import Derived.RangeFuncCalls
import Derived.RangeFuncBound
import Derived.RangeFuncNested
import Derived.Lib.MinMax
import Derived.WalkLawsBesides
import Derived.RecoverIn
import Derived.Test.YtdndeffmlhaipaaGreatDoorS13
set_option linter.all false
set_option maxRecDepth 100000
set_option maxHeartbeats 8000000
namespace Go.Proofs.YtdndeffmlhaipaaGreatDoor
open Go.ChangeShapes Go.WideShapes Go.ChangeAt Go.RowKit Go.Joins Go.Shelf Go.Maps
open Go.Lib (hid)
attribute [local go_sem] Oper.semAt_some
theorem Zg (zs:List Int)(u v:Value)(w:World)(hu:Hold w u zs)(hv:Hold w v zs):
  Calls Tryz.prog 6 #[u,v] w fun e w'=>e= .returned (.bool true)∧ ∃m,w'=w.drewN m:=by
 have hl:(zs.length:Int)≤9223372036854775807:=by obtain⟨a,c, -,h1,h2⟩:=hu.slice;omega
 obtain⟨a,cap,rfl,h⟩:=hu.holds8;obtain⟨a',cap',rfl,h'⟩:=hv.holds8;clear hu hv;by_cases h0:zs=[]
 ·subst h0;clear h h';go_enter Tryz.func6,Tryz.ntmps6
  go_wp2_with fail
  go_loopw [5] (fun i wr=>i= .int .i64 0∧w=wr) (fun _ _=>0)
  case atStart=>exact⟨rfl,rfl⟩
  case round=>
   obtain⟨rfl,rfl⟩:=hrel;go_wp2
   go_ret
   exact⟨rfl,0,rfl⟩
 ·obtain⟨b,off,rfl,hb1,hb2⟩:=h.resolve_left h0;obtain⟨b',off',rfl,hb1',hb2'⟩:=h'.resolve_left h0;have H2:=hid hb2;have H2':=hid hb2';clear h h' hb2 hb2';go_enter Tryz.func6,Tryz.ntmps6
  go_wp2_with fail
  go_loopw [5] (fun i wr=> ∃(k n:Nat),i= .int .i64 k∧k≤zs.length∧wr=w.drewN n) (fun i _=>zs.length - (intOf i).toNat)
  case atStart=>exact⟨0,0,rfl,Nat.zero_le _,rfl⟩
  case round=>
   obtain⟨k,n,rfl,hk,rfl⟩:=hrel;by_cases hlt:k<zs.length
   ·have e1:w.cell? ⟨b,off+k,none⟩=some (.int .u8 (qm zs k)):=H2.out k hlt;have e2:w.cell? ⟨b',off'+k,none⟩=some (.int .u8 (qm zs k)):=H2'.out k hlt;go_wp2
    go_quiet (fail)
    go_wp2
    exact⟨⟨k+1,n+nq,by go_num,by omega,rfl⟩,by simp[intOf];omega⟩
   ·obtain rfl:k=zs.length:=by omega
    go_wp2
    go_ret
    exact⟨rfl,n,rfl⟩
theorem zZ (zs:List Int)(v:Value)(w:World)(h:Hold w v zs)(hn:zs.length≤70368744177664):
  Calls Tryz.prog 23 #[v] w fun e w'=> ∃u,e= .returned u∧OwnB w.heap.size w' u zs∧Below w.heap.size w w':=by
 obtain⟨i0,hi,hz0,hz1,hz2⟩:=info_parts Qg;have HS:=hid h.src;have HB:=hid h.1;obtain⟨a,c,rfl, -, -⟩:=h.slice;clear h;go_enter Tryz.func23,Tryz.ntmps23
 go_wp2_with (at_builtin;refine qD rfl _ _ _ rfl w w.heap.size rfl Br 5 i0 (.int .u8 0) 1 Tryz.underlying24 hi hz0 hz1 hz2 rfl _ 0 [] rfl (Wo _ _ _ _) _ _ _ rfl HS.out (by unfold maxLen;omega) (by omega) ?_;intro v' w' hown' hb')
 go_ret
 rw[Nat.zero_add,List.nil_append]at hown';exact⟨_,rfl,⟨HB.out,yP hown'⟩,hb'⟩
theorem qe4 (t:TreeV)(kz z1 z2:List Int)(w:World)(h1:Hold w (.slice t.ka t.kl t.kc) kz)(h2:Hold w (.slice t.sa t.sl t.sc) z1)(h3:Hold w (.slice t.pa t.pl t.pc) z2)(hk:t.kl≤70368744177664)(hs:t.sl≤70368744177664)(hp:t.pl≤70368744177664):
  Calls Tryz.prog 10 #[t.val] w fun e w'=> ∃u,e= .returned u∧qga t kz z1 z2 w.heap.size w' u∧Below w.heap.size w w':=by
 obtain⟨b0,hb0⟩:=Ex w.heap.size;have e1:=yO h1;have e2:=yO h2;have e3:=yO h3;have HC1:=hid (fun(W:World) (hb:Below b0 w W)=>zZ kz _ W (h1.below (hb0▸hb)) (by omega));have HC2:=hid (fun(W:World) (hb:Below b0 w W)=>zZ z1 _ W (h2.below (hb0▸hb)) (by omega));have HC3:=hid (fun(W:World) (hb:Below b0 w W)=>zZ z2 _ W (h3.below (hb0▸hb)) (by omega));have E1:=hid e1;have E2:=hid e2;have E3:=hid e3;clear h1 h2 h3 e1 e2 e3 hk hs hp;unfold TreeV.val;go_enter Tryz.func10,Tryz.ntmps10
 go_upto_region 1 with(fail)
 refine qj ?_;intro V hV;have hrT:V.heap[b0]? =some (.cells #[.int .i64 t.k,.int .i64 t.d,.int .i64 t.f,.int .i64 t.p,.int .u32 t.l,.int .i64 t.i,.slice t.ka t.kl t.kc,.slice t.sa t.sl t.sc,.slice t.pa t.pl t.pc] 26 (0,0)):=by rw[hV];exact(Bh _ _ _ (by simp;omega)).trans (qc _ _ hb0.symm)
 have hrC:V.heap[b0+1]? =some (.cells #[.int .i64 0,.int .i64 0,.int .i64 0,.int .i64 0,.int .u32 0,.int .i64 0,.slice none 0 0,.slice none 0 0,.slice none 0 0] 26 (0,0)):=by rw[hV];exact qc _ _ (by simp;omega)
 have hbA:Below b0 w V:=by rw[hV,←hb0];exact(Br.alloc Nl _).alloc (by simp) _
 have hsA:V.heap.size=b0+2:=by rw[hV];simp;omega
 clear hV;have c1x:V.cell? ⟨b0,6,none⟩=some (.slice t.ka t.kl t.kc):=qa hrT 6;have hs1x:b0<V.heap.size:=(Ai hrT).1;go_wp2_with fail
 refine(HC1.out V hbA).mono ?_;rintro e w1 ⟨u1,rfl,ho1,hb1⟩;obtain⟨a1,c1,rfl, -, -⟩:=ho1.hold.slice;rw[E1.out]at ho1⊢;have hr1:=qe hrT hb1;have g1:w1.cell? ⟨b0,6,none⟩=some (.slice t.ka t.kl t.kc):=qa hr1 6;have f1:=frozen_of_row w1 b0 6 _ _ hr1;have s1:b0<w1.heap.size:=(Ai hr1).1;have HS1:=hid (show b0+1<V.heap.size from(Ai hrC).1);have q1:=hb1.size;have HRC1:=hid (qe hrC hb1);have HR1:=hid hr1;have HBX1:=hid (hbA.trans (hb1.mono (show b0≤V.heap.size by omega)));have KX1:=hid (KB.of_below hb1 (Nat.zero_le _));have HOX1:=hid (ho1.le (show b0≤V.heap.size by omega));clear hr1 hb1 ho1 c1x hs1x;go_upto_region 2 with(fail)
 refine qj ?_;intro X1 hX1;have K1:=hid (show KB 0 V X1 from KX1.out.trans (by rw[hX1];exact KB.of_but ((But.refl b0 _).set 6 _) (Nat.zero_le _) (Nat.zero_le _) HR1.out (by decide)));have k1:=hid (show KB 0 w1 X1 by rw[hX1];exact KB.of_but ((But.refl b0 _).set 6 _) (Nat.zero_le _) (Nat.zero_le _) HR1.out (by decide));have hrX1:X1.heap[b0]? =some (.cells #[.int .i64 t.k,.int .i64 t.d,.int .i64 t.f,.int .i64 t.p,.int .u32 t.l,.int .i64 t.i,.slice a1 t.kl c1,.slice t.sa t.sl t.sc,.slice t.pa t.pl t.pc] 26 (0,0)):=by rw[hX1];exact heap_setCell_same _ b0 6 _ _ _ HR1.out
 have hrY1:X1.heap[b0+1]? =some (.cells #[.int .i64 0,.int .i64 0,.int .i64 0,.int .i64 0,.int .u32 0,.int .i64 0,.slice none 0 0,.slice none 0 0,.slice none 0 0] 26 (0,0)):=by rw[hX1];exact(heap_setCell_other _ _ _ _ (show b0+1≠b0 by omega)).trans HRC1.out
 have hbX1:Below b0 w X1:=by rw[hX1];exact HBX1.out.setCell (Nat.le_refl b0) _
 have HO1:=hid (HOX1.out.kb k1.out);clear hX1 g1 f1 s1 q1 HRC1 HR1 HBX1 KX1 HOX1 HS1;have c2x:X1.cell? ⟨b0,7,none⟩=some (.slice t.sa t.sl t.sc):=qa hrX1 7;have hs2x:b0<X1.heap.size:=(Ai hrX1).1;go_wp2_with fail
 refine(HC2.out X1 hbX1).mono ?_;rintro e w2 ⟨u2,rfl,ho2,hb2⟩;obtain⟨a2,c2,rfl, -, -⟩:=ho2.hold.slice;rw[E2.out]at ho2⊢;have hr2:=qe hrX1 hb2;have g2:w2.cell? ⟨b0,7,none⟩=some (.slice t.sa t.sl t.sc):=qa hr2 7;have f2:=frozen_of_row w2 b0 7 _ _ hr2;have s2:b0<w2.heap.size:=(Ai hr2).1;have HS2:=hid (show b0+1<X1.heap.size from(Ai hrY1).1);have q2:=hb2.size;have HRC2:=hid (qe hrY1 hb2);have HR2:=hid hr2;have HBX2:=hid (hbX1.trans (hb2.mono (show b0≤X1.heap.size by omega)));have KX2:=hid (KB.of_below hb2 (Nat.zero_le _));have HOX2:=hid (ho2.le (show b0≤X1.heap.size by omega));clear hr2 hb2 ho2 c2x hs2x;go_upto_region 3 with(fail)
 refine qj ?_;intro X2 hX2;have K2:=hid (show KB 0 X1 X2 from KX2.out.trans (by rw[hX2];exact KB.of_but ((But.refl b0 _).set 7 _) (Nat.zero_le _) (Nat.zero_le _) HR2.out (by decide)));have k2:=hid (show KB 0 w2 X2 by rw[hX2];exact KB.of_but ((But.refl b0 _).set 7 _) (Nat.zero_le _) (Nat.zero_le _) HR2.out (by decide));have hrX2:X2.heap[b0]? =some (.cells #[.int .i64 t.k,.int .i64 t.d,.int .i64 t.f,.int .i64 t.p,.int .u32 t.l,.int .i64 t.i,.slice a1 t.kl c1,.slice a2 t.sl c2,.slice t.pa t.pl t.pc] 26 (0,0)):=by rw[hX2];exact heap_setCell_same _ b0 7 _ _ _ HR2.out
 have hrY2:X2.heap[b0+1]? =some (.cells #[.int .i64 0,.int .i64 0,.int .i64 0,.int .i64 0,.int .u32 0,.int .i64 0,.slice none 0 0,.slice none 0 0,.slice none 0 0] 26 (0,0)):=by rw[hX2];exact(heap_setCell_other _ _ _ _ (show b0+1≠b0 by omega)).trans HRC2.out
 have hbX2:Below b0 w X2:=by rw[hX2];exact HBX2.out.setCell (Nat.le_refl b0) _
 have HO2:=hid (HOX2.out.kb k2.out);have HO1:=hid (HO1.out.kb K2.out);clear hX2 g2 f2 s2 q2 HRC2 HR2 HBX2 KX2 HOX2 HS2;have c3x:X2.cell? ⟨b0,8,none⟩=some (.slice t.pa t.pl t.pc):=qa hrX2 8;have hs3x:b0<X2.heap.size:=(Ai hrX2).1;go_wp2_with fail
 refine(HC3.out X2 hbX2).mono ?_;rintro e w3 ⟨u3,rfl,ho3,hb3⟩;obtain⟨a3,c3,rfl, -, -⟩:=ho3.hold.slice;rw[E3.out]at ho3⊢;have hr3:=qe hrX2 hb3;have g3:w3.cell? ⟨b0,8,none⟩=some (.slice t.pa t.pl t.pc):=qa hr3 8;have f3:=frozen_of_row w3 b0 8 _ _ hr3;have s3:b0<w3.heap.size:=(Ai hr3).1;have HS3:=hid (show b0+1<X2.heap.size from(Ai hrY2).1);have q3:=hb3.size;have HRC3:=hid (qe hrY2 hb3);have HR3:=hid hr3;have HBX3:=hid (hbX2.trans (hb3.mono (show b0≤X2.heap.size by omega)));have KX3:=hid (KB.of_below hb3 (Nat.zero_le _));have HOX3:=hid (ho3.le (show b0≤X2.heap.size by omega));clear hr3 hb3 ho3 c3x hs3x;go_upto_region 4 with(fail)
 refine qj ?_;intro X3 hX3;have K3:=hid (show KB 0 X2 X3 from KX3.out.trans (by rw[hX3];exact KB.of_but ((But.refl b0 _).set 8 _) (Nat.zero_le _) (Nat.zero_le _) HR3.out (by decide)));have k3:=hid (show KB 0 w3 X3 by rw[hX3];exact KB.of_but ((But.refl b0 _).set 8 _) (Nat.zero_le _) (Nat.zero_le _) HR3.out (by decide));have hrX3:X3.heap[b0]? =some (.cells #[.int .i64 t.k,.int .i64 t.d,.int .i64 t.f,.int .i64 t.p,.int .u32 t.l,.int .i64 t.i,.slice a1 t.kl c1,.slice a2 t.sl c2,.slice a3 t.pl c3] 26 (0,0)):=by rw[hX3];exact heap_setCell_same _ b0 8 _ _ _ HR3.out
 have hrY3:X3.heap[b0+1]? =some (.cells #[.int .i64 0,.int .i64 0,.int .i64 0,.int .i64 0,.int .u32 0,.int .i64 0,.slice none 0 0,.slice none 0 0,.slice none 0 0] 26 (0,0)):=by rw[hX3];exact(heap_setCell_other _ _ _ _ (show b0+1≠b0 by omega)).trans HRC3.out
 have hbX3:Below b0 w X3:=by rw[hX3];exact HBX3.out.setCell (Nat.le_refl b0) _
 have HO3:=hid (HOX3.out.kb k3.out);have HO1:=hid (HO1.out.kb K3.out);have HO2:=hid (HO2.out.kb K3.out);clear hX3 g3 f3 s3 q3 HRC3 HR3 HBX3 KX3 HOX3 HS3;have HRC3:=hid hrY3;have HB3:=hid hbX3;have HR3:=hid hrX3;go_wp2_with (first|((with_reducible show wpList _ _ _ (Oper.mk _ (Op.load 26 _) _ _ _ _::_) _ _);refine wpList_load_row rfl 26 _ rfl b0 rfl _ _ _ _ HR3.out Tryz.underlying26 rfl (by kernel_rfl) ?_)|((with_reducible show wpList _ _ _ (Oper.mk none (Op.store 26 _ _) _ _ _ _::_) _ _);refine wpList_store_row rfl 26 _ _ rfl (b0+1) #[.int .i64 t.k,.int .i64 t.d,.int .i64 t.f,.int .i64 t.p,.int .u32 t.l,.int .i64 t.i,.slice a1 t.kl c1,.slice a2 t.sl c2,.slice a3 t.pl c3] rfl rfl 26 _ HRC3.out (by kernel_rfl) rfl (by simp[Value.oneCell']) ?_))
 exact Bp (results_cell_row rfl _ _ _ _ _ _ _ rfl (setRow_heap _ _ _ _ _ _ HRC3.out) Tryz.underlying26 rfl (by kernel_rfl)) rfl (by
  rw[hb0];have hko: ∀{x:Value} {z:List Int},OwnB b0 X3 x z→OwnB b0 (X3.setRow (b0+1) #[.int .i64 t.k,.int .i64 t.d,.int .i64 t.f,.int .i64 t.p,.int .u32 t.l,.int .i64 t.i,.slice a1 t.kl c1,.slice a2 t.sl c2,.slice a3 t.pl c3]) x z:=fun {x z} h=>h.kb (KB.of_but ((But.refl (b0+1) _).setRow _) (Nat.zero_le _) (Nat.zero_le _) HRC3.out (by decide))
  exact⟨_,rfl,⟨a1,c1,a2,c2,a3,c3,rfl,hko HO1.out,hko HO2.out,hko HO3.out⟩,below_setRow HB3.out (by omega) _⟩)
end Go.Proofs.YtdndeffmlhaipaaGreatDoor
