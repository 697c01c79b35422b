/- Lemmas. No condition. -/
import Derived.Test.YtahenngmaoellaaGreatO10
set_option linter.all false
set_option maxRecDepth 100000
set_option maxHeartbeats 0
namespace Go.Proofs.YtahenngmaoellaaGreat
open Go.ChangeShapes Go.WideShapes Go.ChangeAt Go.RowKit Go.Joins Go.Shelf Go.Maps
open Go.Lib (hid)
def treeP:TreeV:=⟨2,32,2,9,4,8,none,0,0,none,0,0,none,0,0⟩
theorem qg1:treeP.sizeR 9 0=2/\treeP.spotE 9 0 0=0:=by decide+kernel
theorem qg0:treeP.sizeR 9 2=1/\treeP.spotE 9 0 2=0:=by decide+kernel
theorem qes (w:World):Calls Tryz.prog 76 #[] w fun e w'=>e= .returned (.agg #[.int .i64 2,.int .i64 32,.int .i64 2,.int .i64 9,.int .u32 4,.int .i64 8,.slice none 0 0,.slice none 0 0,.slice none 0 0])/\Below w.heap.size w w':=by
  go_enter Tryz.func76,Tryz.ntmps76
  go_wp2
  refine Bp (v:= .agg #[.int .i64 2,.int .i64 32,.int .i64 2,.int .i64 9,.int .u32 4,.int .i64 8,.slice none 0 0,.slice none 0 0,.slice none 0 0]) (by simp[results,Tryz.f76,go_sem]) rfl ⟨rfl,?_⟩;repeat(first|exact Below.refl _ _|(refine Below.setCell ?_ (by simp) _)|(refine Below.alloc ?_ (by simp) _))
theorem Jy (w:World):Calls Tryz.prog 35 #[] w (qhl w):=by
  have G:=fun w=>qez treeP (by decide) 9 (by decide) 0 w
  have D:=fun w=>qez treeP (by decide) 9 (by decide) 2 w
  rw[qg1.1,qg1.2]at G;rw[qg0.1,qg0.2]at D;have J:=hid G;have O:=hid D;clear G D;unfold treeP TreeV.val at*;go_enter Tryz.func35,Tryz.ntmps35
  go_wp2_with fail
  refine(qes _).mono ?_;rintro e w0 ⟨rfl,q⟩;go_wp2_with fail
  refine(J.out _).mono ?_;rintro e w1 ⟨rfl,r⟩;go_wp2_with fail
  refine(qes _).mono ?_;rintro e S ⟨rfl,o⟩;go_wp2_with fail
  refine(O.out _).mono ?_;rintro e V ⟨rfl,I⟩;go_wp2
  go_ret
  have Y:=q.size;have X:=r.size;have U:=o.size;exact⟨rfl,((q.trans (r.mono (by omega))).trans (o.mono (by omega))).trans (I.mono (by omega))⟩
