/- How long a node's output is; a call whose answer the document fixes. No condition. -/
import Derived.Test.YtchepcilkcdemaaGreatR36
import Derived.Test.YtchepcilkcdemaaGreatR38
import Derived.Test.YtchepcilkcdemaaGreatR04
import Derived.Test.YtchepcilkcdemaaGreatR31
import Derived.Test.YtchepcilkcdemaaGreatR06
import Derived.Maps.AppendAt
set_option linter.all false
set_option maxRecDepth 100000
set_option maxHeartbeats 8000000
namespace Go.Proofs.YtchepcilkcdemaaGreat
open Go.ChangeShapes Go.WideShapes Go.ChangeAt Go.RowKit Go.Joins Go.Shelf Go.Maps
attribute [local go_sem] Oper.semAt_some
theorem callR_len {big : Bool} {bs kz ds : List Int} {la : Bool} {o : Int} (h : 1 ≤ o ∧ o ≤ (mB big : Nat)) : ((callR big bs kz la o ds).length : Int) = o := by
 unfold callR
 rw [List.length_take, outZ_length]
 omega
theorem TreeV.outN_ok {t : TreeV} (h : t.validE = 0) (rt : Bool) : 1 ≤ t.outN rt ∧ t.outN rt ≤ (mB t.big : Nat) := by
 have hmb := TreeV.mB_big h
 obtain ⟨-, d1, d2, d3, d4, -⟩ := TreeV.valid_facts h
 cases rt
 ·show 1 ≤ t.i ∧ t.i ≤ _; omega
 ·show 1 ≤ t.d ∧ t.d ≤ _; omega
theorem TreeV.node_lenE {t : TreeV} (h : t.validE = 0) (kz z1 z2 : List Int) (row i : Nat) (la rt : Bool) (d : List Int) : ((t.node kz z1 z2 row i la rt d).length : Int) = t.outN rt := callR_len (TreeV.outN_ok h rt)
end Go.Proofs.YtchepcilkcdemaaGreat
