/- Lemmas. No condition. -/
import Derived.Test.YtahenngmaoellaaGreatRows
import Derived.Test.YtahenngmaoellaaGreatO01
import Derived.Laws.EntriesVeiled
import Derived.WalkLawsBesides
import Derived.WalkSpells
import Derived.Lib.Hide
set_option linter.all false
set_option maxRecDepth 100000
set_option maxHeartbeats 0
namespace Go.Proofs.YtahenngmaoellaaGreat
open Go.ChangeShapes Go.WideShapes Go.ChangeAt Go.RowKit
theorem own:ownKnob Tryz.prog.godebug=none:=by kernel_rfl
theorem qjW:laidOutB Tryz.prog=true:=by kernel_rfl
