/- PathSizes: for every tree, total and leaf the law returns true. No condition. -/
import Derived.Test.YtahenngmaoellaaN41
set_option linter.all false
set_option maxRecDepth 100000
set_option maxHeartbeats 8000000
namespace Go.Proofs.Ytahenngmaoellaa
open Go.ChangeShapes Go.WideShapes Go.ChangeAt Go.RowKit Go.Joins Go.Shelf Go.Maps
def treeP : TreeV := ⟨2, 32, 2, 9, 4, 8, none, 0, 0, none, 0, 0, none, 0, 0⟩
theorem tree_any (w : World) : Calls Try.prog 4 #[] w fun e w' => e = .returned (.agg #[.int .i64 2, .int .i64 32, .int .i64 2, .int .i64 9, .int .u32 4, .int .i64 8, .slice none 0 0, .slice none 0 0, .slice none 0 0]) ∧ Below w.heap.size w w' := by
  go_enter Try.func4, Try.ntmps4
  go_wp2
  refine bodyPost_ret (v := .agg #[.int .i64 2, .int .i64 32, .int .i64 2, .int .i64 9, .int .u32 4, .int .i64 8, .slice none 0 0, .slice none 0 0, .slice none 0 0]) (by simp [results, Try.f4, go_sem]) rfl ⟨rfl, ?_⟩
  repeat (first | exact Below.refl _ _ | (refine Below.setCell ?_ (by simp) _) | (refine Below.alloc ?_ (by simp) _))
end Go.Proofs.Ytahenngmaoellaa
