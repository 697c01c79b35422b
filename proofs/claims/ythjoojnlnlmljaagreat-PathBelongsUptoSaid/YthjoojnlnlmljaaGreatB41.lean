/- The helpers of the tree's laws: copies, bytes with room behind them, the same bytes. No condition. -/
import Derived.Test.YthjoojnlnlmljaaGreatB34
import Derived.Maps.AppendAt
set_option linter.all false
set_option maxRecDepth 100000
set_option maxHeartbeats 8000000
namespace Go.Proofs.YthjoojnlnlmljaaGreat
open Go.ChangeShapes Go.WideShapes Go.ChangeAt Go.RowKit Go.Joins Go.Shelf Go.Maps
attribute [local go_sem] Oper.semAt_some
theorem qe1 {B:Nat}{w:World}{v:Value}{z:List Int}(h:Fresh B w v z): ∀g,v.ownBlock=some g→B≤g∧g<w.heap.size:=by
 intro g o;rcases h with⟨-,rfl⟩|⟨I,G,D,rfl,q,r, -⟩
 ·cases o
 ·simp only[Value.ownBlock,Option.some.injEq]at o;subst o;exact⟨q,(Ai r).1⟩
end Go.Proofs.YthjoojnlnlmljaaGreat
