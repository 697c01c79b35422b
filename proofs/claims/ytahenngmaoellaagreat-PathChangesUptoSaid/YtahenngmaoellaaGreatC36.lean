/- The helpers of the tree's laws: copies, bytes with room behind them, the same bytes. No condition. -/
import Derived.Test.YtahenngmaoellaaGreatC26
import Derived.Maps.AppendAt
set_option linter.all false
set_option maxRecDepth 100000
set_option maxHeartbeats 8000000
namespace Go.Proofs.YtahenngmaoellaaGreat
open Go.ChangeShapes Go.WideShapes Go.ChangeAt Go.RowKit Go.Joins Go.Shelf Go.Maps
attribute [local go_sem] Oper.semAt_some
theorem qdL {B:Nat}{w:World}{v:Value}{z:List Int}(h:Fresh B w v z): ∀g,v.ownBlock=some g→B≤g∧g<w.heap.size:=by
 intro g hg;rcases h with⟨-,rfl⟩|⟨g',cap,cur,rfl,h1,h2, -⟩
 ·cases hg
 ·simp only[Value.ownBlock,Option.some.injEq]at hg;subst hg;exact⟨h1,(Ai h2).1⟩
end Go.Proofs.YtahenngmaoellaaGreat
