/- PathSizes: for every tree, total and leaf the law returns true. No condition. -/
import Derived.Test.YtahenngmaoellaaGreatC39
set_option linter.all false
set_option maxRecDepth 100000
set_option maxHeartbeats 8000000
namespace Go.Proofs.YtahenngmaoellaaGreat
open Go.ChangeShapes Go.WideShapes Go.ChangeAt Go.RowKit Go.Joins Go.Shelf Go.Maps
open Go.Lib (hid)
def treeP:TreeV:=⟨2,32,2,9,4,8,none,0,0,none,0,0,none,0,0⟩
theorem qfi:treeP.sizeR 9 0=2∧treeP.spotE 9 0 0=0:=by decide+kernel
theorem qfh:treeP.sizeR 9 2=1∧treeP.spotE 9 0 2=0:=by decide+kernel
theorem qc4 (w:World):Calls Tryz.prog 76 #[] w fun e w'=>e= .returned (.agg #[.int .i64 2,.int .i64 32,.int .i64 2,.int .i64 9,.int .u32 4,.int .i64 8,.slice none 0 0,.slice none 0 0,.slice none 0 0])∧Below w.heap.size w w':=by
  go_enter Tryz.func76,Tryz.ntmps76
  go_wp2
  refine Bp (v:= .agg #[.int .i64 2,.int .i64 32,.int .i64 2,.int .i64 9,.int .u32 4,.int .i64 8,.slice none 0 0,.slice none 0 0,.slice none 0 0]) (by simp[results,Tryz.f76,go_sem]) rfl ⟨rfl,?_⟩;repeat(first|exact Below.refl _ _|(refine Below.setCell ?_ (by simp) _)|(refine Below.alloc ?_ (by simp) _))
theorem jI (w:World):Calls Tryz.prog 35 #[] w (qfA w):=by
  have A0:=fun w=>qda treeP (by decide) 9 (by decide) 0 w
  have A2:=fun w=>qda treeP (by decide) 9 (by decide) 2 w
  rw[qfi.1,qfi.2]at A0;rw[qfh.1,qfh.2]at A2;have H0:=hid A0;have H2:=hid A2;clear A0 A2;unfold treeP TreeV.val at*;go_enter Tryz.func35,Tryz.ntmps35
  go_wp2_with fail
  refine(qc4 _).mono ?_;rintro e w0 ⟨rfl,hb0⟩;go_wp2_with fail
  refine(H0.out _).mono ?_;rintro e w1 ⟨rfl,hb1⟩;go_wp2_with fail
  refine(qc4 _).mono ?_;rintro e w2 ⟨rfl,hb2⟩;go_wp2_with fail
  refine(H2.out _).mono ?_;rintro e w3 ⟨rfl,hb3⟩;go_wp2
  go_ret
  have s0:=hb0.size;have s1:=hb1.size;have s2:=hb2.size;exact⟨rfl,((hb0.trans (hb1.mono (by omega))).trans (hb2.mono (by omega))).trans (hb3.mono (by omega))⟩
end Go.Proofs.YtahenngmaoellaaGreat
