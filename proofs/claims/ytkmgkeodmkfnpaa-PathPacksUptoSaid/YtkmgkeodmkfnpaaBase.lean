/- Closed facts on this seat's program that every law's proof uses. No condition. -/
import Derived.Test.YtkmgkeodmkfnpaaRows
import Derived.Test.YtkmgkeodmkfnpaaFrame
import Derived.Laws.EntriesVeiled
import Derived.WalkLawsBesides
import Derived.WalkSpells
import Derived.Lib.Hide
namespace Go.Proofs.Ytkmgkeodmkfnpaa
open Go.ChangeShapes Go.WideShapes Go.ChangeAt Go.RowKit
theorem own : ownKnob Try.prog.godebug = none := by kernel_rfl
theorem laidOut : laidOutB Try.prog = true := by kernel_rfl
end Go.Proofs.Ytkmgkeodmkfnpaa
