/- The walks of the reference's Valid; Valid on both sides, of every tree. No condition. -/
import Derived.Test.YtahenngmaoellaaN03
set_option linter.all false
set_option maxRecDepth 100000
set_option maxHeartbeats 8000000
namespace Go.Proofs.Ytahenngmaoellaa
open Go.ChangeShapes Go.WideShapes Go.ChangeAt Go.RowKit
/-- shape.Valid, of every tree. -/
theorem valid_any (t : TreeV) (w : World) : Calls Try.prog 13 #[t.val] w fun e w' => e = .returned (.int .i64 t.validE) ∧ Below w.heap.size w w' := by
  by_cases h1 : t.k = 1
  · exact valid_1 t h1 w
  by_cases h2 : t.k = 2
  · exact valid_2 t h2 w
  have e : t.validE = 1 := by simp [TreeV.validE, h1, h2]
  rw [e]; exact valid_no t h1 h2 w
end Go.Proofs.Ytahenngmaoellaa
