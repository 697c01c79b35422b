/- The path of packed bytes, by the program. No condition. -/
import Derived.Test.YthjoojnlnlmljaaGreatP36
import Derived.Laws.CopyOwn
set_option linter.all false
set_option maxRecDepth 100000
set_option maxHeartbeats 8000000
namespace Go.Proofs.YthjoojnlnlmljaaGreat
open Go.ChangeShapes Go.WideShapes Go.ChangeAt Go.RowKit Go.Joins Go.Shelf Go.Maps
attribute [local go_sem] Oper.semAt_some
theorem ZC {W:World}{b:Nat}{a0 a1 a2:Value}{T:TypeId}{fr:Nat×Nat}(h:W.heap[b]? =some (Obj.cells #[a0,a1,a2] T fr))(o r q:Value):
    (((W.setCell ⟨b,0,none⟩ o).setCell ⟨b,1,none⟩ r).setCell ⟨b,2,none⟩ q).heap[b]? =some (Obj.cells #[o,r,q] T fr):=
  block_setCell (block_setCell (block_setCell h o) r) q
theorem ZE {B:Nat}{a W:World}(h:Below B a W){b:Nat}(o:B≤b)(q D r:Value):
    Below B a (((W.setCell ⟨b,0,none⟩ q).setCell ⟨b,1,none⟩ D).setCell ⟨b,2,none⟩ r):=
  ((h.setCell (p:=⟨b,0,none⟩) o q).setCell (p:=⟨b,1,none⟩) o D).setCell (p:=⟨b,2,none⟩) o r
theorem ze {W:World}{b:Nat}{cs:Array Value}{T:TypeId}(h:W.heap[b]? =some (Obj.cells cs T (0,0))):(∀o,W.cell? ⟨b,o,none⟩=cs[o]?)∧(∀o,W.frozen? ⟨b,o,none⟩=false):=
  ⟨fun o=>qd h o,fun o=>by simp[World.frozen?,h]⟩
def YB (total leaf:Int)(v:Value):Value:= .agg #[.int .u64 total,.int .u64 leaf,v]
theorem qcE:(Tryz.prog.info? 69).map (fun i=>(i.zero,i.size,i.bytes))=some (some (.agg #[.slice none 0 0,.slice none 0 0]),2,48):=by kernel_rfl
end Go.Proofs.YthjoojnlnlmljaaGreat
