/- The program's rows as an iterator: each of a tree and a length. No condition. -/
import Derived.Test.YtjogmckaakkomaaGreatB05
import Derived.RangeFuncNested
import Derived.RangeFuncBound
import Derived.RangeFuncCalls
import Derived.RangeFuncLeaves
import Derived.RangeFuncBox
import Derived.Shelf.Abstract
import Derived.Shelf.RegionOpen
import Derived.OwnWalkIn
import Derived.TacticsInMore
import Derived.LoopNIn
import Derived.LoopIn
import Derived.Lib.MinMax
set_option linter.all false
set_option maxRecDepth 100000
set_option maxHeartbeats 8000000
namespace Go.Proofs.YtjogmckaakkomaaGreat
open Go.ChangeShapes Go.WideShapes Go.ChangeAt Go.RowKit Go.Joins Go.Shelf
attribute [local go_sem] Oper.semAt_some
theorem cell_of_heap {W : World} {b : Nat} {c : Array Value} {T : TypeId} {fr : Nat × Nat} (h : W.heap[b]? = some (.cells c T fr)) (i : Nat) : W.cell? ⟨b, i, none⟩ = c[i]? := by simp [World.cell?, h]
end Go.Proofs.YtjogmckaakkomaaGreat
namespace Go.Proofs.YtjogmckaakkomaaGreat
open Go.ChangeShapes Go.WideShapes Go.ChangeAt Go.RowKit Go.Joins Go.Shelf Go.Maps
theorem wrap_u64 (x : Int) : IntKind.u64.wrap x = x % 18446744073709551616 := by simp [IntKind.wrap, IntKind.bits, IntKind.signed]
theorem ownsRow_cells {w : World} {base : Nat} {e : TypeId} {L : List Nat} {n : Nat} {v : Value} (h : w.ownsRow base e 1 v n (L.map encU)) (hn : 0 < n) :
  ∃ g cap, v = .slice (some ⟨g, 0, none⟩) n cap ∧ L.length = n ∧ base ≤ g ∧ g < w.heap.size ∧ ∀ j, j < n → w.cell? ⟨g, j, none⟩ = some (.int .u64 (nth L j : Nat)) := by
 obtain ⟨g, cap, rfl⟩ := ownsRow_form h hn
 have hl := h.1
 simp at hl
 have hlt := h.lt g (by simp [Value.ownBlock])
 refine ⟨g, cap, rfl, hl, hlt.1, hlt.2, fun j hj => ?_⟩
 rw [h.cellAt j (by omega)]
 simp [encU, nth, List.getElem?_eq_getElem (show j < L.length by omega)]
end Go.Proofs.YtjogmckaakkomaaGreat
