/- The beginning of the rounds, by the reference, both kinds. No condition. -/
import Derived.Test.YtahenngmaoellaaN15
import Derived.Test.YtahenngmaoellaaN16
set_option linter.all false
set_option maxRecDepth 100000
set_option maxHeartbeats 8000000
namespace Go.Proofs.Ytahenngmaoellaa
open Go.ChangeShapes Go.WideShapes Go.ChangeAt Go.RowKit Go.Joins
attribute [local go_sem] Oper.semAt_some
theorem arrV_get {k : IntKind} {n : Nat} {L : List Int} (h : L.length = n) {i : Nat} (hi : i < n) : (arrV k L)[i]? = some (.int k (wd L i)) := by
 simp [arrV, wd, List.getD_eq_getElem?_getD, List.getElem?_eq_getElem (show i < L.length by omega)]
end Go.Proofs.Ytahenngmaoellaa
