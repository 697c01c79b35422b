/- A round of the mixing, by the reference, both kinds. No condition. -/
import Derived.Test.YtdndeffmlhaipaaGreatDoorM12
import Derived.Test.YtdndeffmlhaipaaGreatDoorM13
set_option linter.all false
set_option maxRecDepth 100000
set_option maxHeartbeats 8000000
namespace Go.Proofs.YtdndeffmlhaipaaGreatDoor
open Go.ChangeShapes Go.WideShapes Go.ChangeAt Go.RowKit Go.Joins
attribute [local go_sem] Oper.semAt_some
theorem But.setRow {b:Nat}{w W:World}(h:But b w W)(cs:Array Value):But b w (W.setRow b cs):=h.trans ⟨rfl,rfl,rfl,by simp[World.setRow],fun g _ hb=>setRow_other _ _ _ _ hb⟩
theorem zA {k:IntKind}{n:Nat}{L:List Int}(h:L.length=n){i:Nat}(hi:i<n):(qm k L)[i]? =some (.int k (wd L i)):=by
 simp[qm,wd,Lg,List.getElem?_eq_getElem (show i<L.length by omega)]
end Go.Proofs.YtdndeffmlhaipaaGreatDoor
