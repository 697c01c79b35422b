/- PathSizes: for every tree, total and leaf the law returns true. No condition. -/
import Derived.Test.YthjoojnlnlmljaaGreatB10
set_option linter.all false
set_option maxRecDepth 100000
set_option maxHeartbeats 8000000
namespace Go.Proofs.YthjoojnlnlmljaaGreat
open Go.ChangeShapes Go.WideShapes Go.ChangeAt Go.RowKit Go.Joins Go.Shelf Go.Maps
open Go.Lib (hid)
def treeP:TreeV:=⟨2,32,2,9,4,8,none,0,0,none,0,0,none,0,0⟩
theorem qgF:treeP.sizeR 9 0=2∧treeP.spotE 9 0 0=0:=by decide+kernel
theorem qgE:treeP.sizeR 9 2=1∧treeP.spotE 9 0 2=0:=by decide+kernel
theorem qec (w:World):Calls Tryz.prog 72 #[] w fun e w'=>e= .returned (.agg #[.int .i64 2,.int .i64 32,.int .i64 2,.int .i64 9,.int .u32 4,.int .i64 8,.slice none 0 0,.slice none 0 0,.slice none 0 0])∧Below w.heap.size w w':=by
  go_enter Tryz.func72,Tryz.ntmps72
  go_wp2
  refine Bp (v:= .agg #[.int .i64 2,.int .i64 32,.int .i64 2,.int .i64 9,.int .u32 4,.int .i64 8,.slice none 0 0,.slice none 0 0,.slice none 0 0]) (by simp[results,Tryz.f72,go_sem]) rfl ⟨rfl,?_⟩;repeat(first|exact Below.refl _ _|(refine Below.setCell ?_ (by simp) _)|(refine Below.alloc ?_ (by simp) _))
theorem Jk (w:World):Calls Tryz.prog 33 #[] w (qgZ w):=by
  have D:=fun w=>qej treeP (by decide) 9 (by decide) 0 w
  have G:=fun w=>qej treeP (by decide) 9 (by decide) 2 w
  rw[qgF.1,qgF.2]at D;rw[qgE.1,qgE.2]at G;have J:=hid D;have O:=hid G;clear D G;unfold treeP TreeV.val at*;go_enter Tryz.func33,Tryz.ntmps33
  go_wp2_with fail
  refine(qec _).mono ?_;rintro e w0 ⟨rfl,q⟩;go_wp2_with fail
  refine(J.out _).mono ?_;rintro e w1 ⟨rfl,r⟩;go_wp2_with fail
  refine(qec _).mono ?_;rintro e V ⟨rfl,o⟩;go_wp2_with fail
  refine(O.out _).mono ?_;rintro e S ⟨rfl,I⟩;go_wp2
  go_ret
  have X:=q.size;have Y:=r.size;have U:=o.size;exact⟨rfl,((q.trans (r.mono (by omega))).trans (o.mono (by omega))).trans (I.mono (by omega))⟩
end Go.Proofs.YthjoojnlnlmljaaGreat
