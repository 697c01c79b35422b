/- Closed facts on this seat's program that every law's proof uses. No condition. -/
import Derived.Test.YtadkpndfbfjmfaaRows
import Derived.Test.YtadkpndfbfjmfaaFrame
import Derived.Laws.EntriesVeiled
import Derived.WalkLawsBesides
import Derived.WalkSpells
import Derived.Lib.Hide
namespace Go.Proofs.Ytadkpndfbfjmfaa
open Go.ChangeShapes Go.WideShapes Go.ChangeAt Go.RowKit
theorem own : ownKnob Try.prog.godebug = none := by kernel_rfl
theorem laidOut : laidOutB Try.prog = true := by kernel_rfl
end Go.Proofs.Ytadkpndfbfjmfaa
