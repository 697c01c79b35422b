/- The path of packed bytes, by the program. No condition. -/
import Derived.Test.YtdndeffmlhaipaaGreatDoorM05
import Derived.Test.YtdndeffmlhaipaaGreatDoorM04
import Derived.Deep.Slices
import Derived.Test.YtdndeffmlhaipaaGreatDoorM30
import Derived.BigQuiet
import Derived.Deep.QuietTactic
import Derived.WalkMore
import Derived.Scope
import Derived.Sort.QuietIn
import Derived.BigRegionIn
import Derived.Lib.SmallJoins
import Derived.Maps.AppendAt
import Derived.Deep.AppendLies
import Derived.Deep.RegionHeld3
import Derived.Laws.AppendOwnNone
import Derived.Laws.CopyOwn
set_option linter.all false
set_option maxRecDepth 100000
set_option maxHeartbeats 8000000
namespace Go.Proofs.YtdndeffmlhaipaaGreatDoor
open Go.ChangeShapes Go.WideShapes Go.ChangeAt Go.RowKit Go.Joins Go.Shelf Go.Maps
attribute [local go_sem] Oper.semAt_some
theorem QF {W:World}{b:Nat}{cs:Array Value}{T:TypeId}(h:W.heap[b]? =some (Obj.cells cs T (0,0))):(∀o,W.cell? ⟨b,o,none⟩=cs[o]?)∧(∀o,W.frozen? ⟨b,o,none⟩=false):=
  ⟨fun o=>qa h o,fun o=>by simp[World.frozen?,h]⟩
end Go.Proofs.YtdndeffmlhaipaaGreatDoor
