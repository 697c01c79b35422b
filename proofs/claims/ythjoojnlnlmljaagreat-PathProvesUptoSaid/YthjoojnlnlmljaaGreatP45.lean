/- PathSizes: for every tree, total and leaf the law returns true. No condition. -/
import Derived.Test.YthjoojnlnlmljaaGreatP35
set_option linter.all false
set_option maxRecDepth 100000
set_option maxHeartbeats 8000000
namespace Go.Proofs.YthjoojnlnlmljaaGreat
open Go.ChangeShapes Go.WideShapes Go.ChangeAt Go.RowKit Go.Joins Go.Shelf Go.Maps
open Go.Lib (hid)
def treeP:TreeV:=⟨2,32,2,9,4,8,none,0,0,none,0,0,none,0,0⟩
theorem qfL:treeP.sizeR 9 0=2∧treeP.spotE 9 0 0=0:=by decide+kernel
theorem qfK:treeP.sizeR 9 2=1∧treeP.spotE 9 0 2=0:=by decide+kernel
theorem qdx (w:World):Calls Tryz.prog 72 #[] w fun e w'=>e= .returned (.agg #[.int .i64 2,.int .i64 32,.int .i64 2,.int .i64 9,.int .u32 4,.int .i64 8,.slice none 0 0,.slice none 0 0,.slice none 0 0])∧Below w.heap.size w w':=by
  go_enter Tryz.func72,Tryz.ntmps72
  go_wp2
  refine Bp (v:= .agg #[.int .i64 2,.int .i64 32,.int .i64 2,.int .i64 9,.int .u32 4,.int .i64 8,.slice none 0 0,.slice none 0 0,.slice none 0 0]) (by simp[results,Tryz.f72,go_sem]) rfl ⟨rfl,?_⟩;repeat(first|exact Below.refl _ _|(refine Below.setCell ?_ (by simp) _)|(refine Below.alloc ?_ (by simp) _))
theorem qb9 (w:World):Calls Tryz.prog 33 #[] w (qh2 w):=by
  have G:=fun w=>qbf treeP (by decide) 9 (by decide) 0 w
  have D:=fun w=>qbf treeP (by decide) 9 (by decide) 2 w
  rw[qfL.1,qfL.2]at G;rw[qfK.1,qfK.2]at D;have J:=hid G;have O:=hid D;clear G D;unfold treeP TreeV.val at*;go_enter Tryz.func33,Tryz.ntmps33
  go_wp2_with fail
  refine(qdx _).mono ?_;rintro e w0 ⟨rfl,o⟩;go_wp2_with fail
  refine(J.out _).mono ?_;rintro e w1 ⟨rfl,q⟩;go_wp2_with fail
  refine(qdx _).mono ?_;rintro e X ⟨rfl,r⟩;go_wp2_with fail
  refine(O.out _).mono ?_;rintro e Y ⟨rfl,I⟩;go_wp2
  go_ret
  have Z:=o.size;have U:=q.size;have V:=r.size;exact⟨rfl,((o.trans (q.mono (by omega))).trans (r.mono (by omega))).trans (I.mono (by omega))⟩
end Go.Proofs.YthjoojnlnlmljaaGreat
