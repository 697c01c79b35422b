/- The same lists of bytes; what both sides give of all nodes, of any tree. No condition. -/
import Derived.Test.YtdndeffmlhaipaaGreatDoorS38
import Derived.Test.YtdndeffmlhaipaaGreatDoorS31
import Derived.Test.YtdndeffmlhaipaaGreatDoorS40
import Derived.Maps.AppendAt
import Derived.Test.YtdndeffmlhaipaaGreatDoorS30
import Derived.Test.YtdndeffmlhaipaaGreatDoorS41
import Derived.Test.YtdndeffmlhaipaaGreatDoorS36
import Derived.ArgAppend
set_option linter.all false
set_option maxRecDepth 100000
set_option maxHeartbeats 8000000
namespace Go.Proofs.YtdndeffmlhaipaaGreatDoor
open Go.ChangeShapes Go.WideShapes Go.ChangeAt Go.RowKit Go.Joins Go.Shelf Go.Maps
attribute [local go_sem] Oper.semAt_some
theorem ListO.form {B:Nat}{w:World}{v:Value}{L:List (List Int)}(h:ListO B w v L): ∃a c,v= .slice a L.length c∧(L.length:Int)≤9223372036854775807:=by
 obtain⟨vs,ho, -⟩:=h;rcases ho.2 with⟨rfl,e⟩|⟨g,cap,cur,rfl, -, -,h3,h4, -⟩
 ·exact⟨none,0,by rw[e],by omega⟩
 ·exact⟨_,_,rfl,by unfold maxLen at h4;omega⟩
end Go.Proofs.YtdndeffmlhaipaaGreatDoor
