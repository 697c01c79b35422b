/- Closed facts on this seat's program that every law's proof uses. No condition. -/
import Derived.Test.YtdndeffmlhaipaaGreatDoorRows
import Derived.Test.YtdndeffmlhaipaaGreatDoorM01
import Derived.Laws.EntriesVeiled
import Derived.WalkLawsBesides
import Derived.WalkSpells
import Derived.Lib.Hide
set_option linter.all false
set_option maxRecDepth 100000
set_option maxHeartbeats 8000000
namespace Go.Proofs.YtdndeffmlhaipaaGreatDoor
open Go.ChangeShapes Go.WideShapes Go.ChangeAt Go.RowKit
theorem own:ownKnob Tryz.prog.godebug=none:=by kernel_rfl
theorem qcM:laidOutB Tryz.prog=true:=by kernel_rfl
end Go.Proofs.YtdndeffmlhaipaaGreatDoor
