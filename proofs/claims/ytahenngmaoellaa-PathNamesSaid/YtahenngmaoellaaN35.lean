/- A node's place, by the reference. No condition. -/
import Derived.Test.YtahenngmaoellaaN32
set_option linter.all false
set_option maxRecDepth 100000
set_option maxHeartbeats 8000000
namespace Go.Proofs.Ytahenngmaoellaa
open Go.ChangeShapes Go.WideShapes Go.ChangeAt Go.RowKit Go.Joins Go.Shelf Go.Maps
attribute [local go_sem] Oper.semAt_some
/-- A node's place and the error. -/
def TreeV.spotR (t : TreeV) (total : Nat) (row : Int) (at_ : Nat) : SpotV := if t.err total = 0 ∧ t.there total row at_ then t.spot total row.toNat at_ else SpotV.zero
def TreeV.spotE (t : TreeV) (total : Nat) (row : Int) (at_ : Nat) : Int := if t.err total ≠ 0 then t.err total else if t.there total row at_ then 0 else 6
end Go.Proofs.Ytahenngmaoellaa
