/- What the reference's Unpack answers, of every tree and bytes. No condition. -/
import Derived.Test.YtkmgkeodmkfnpaaPackJ
import Derived.Test.YtkmgkeodmkfnpaaPackM
namespace Go.Proofs.Ytkmgkeodmkfnpaa
open Go.ChangeShapes Go.WideShapes Go.ChangeAt Go.RowKit Go.Joins Go.Shelf Go.Maps

theorem refUnpack_any (t : TreeV) (hl : 0 ≤ t.l ∧ t.l ≤ 4294967295) (zs : List Int) (v : Value) (hz : ∀ z ∈ zs, 0 ≤ z ∧ z ≤ 255) (hm : zs.length ≤ 1048576) (w : World) (hv : Holds8 w v zs) :
    Calls Try.prog 23 #[t.val, v] w fun r w' => ∃ p e, r = .returned (.tuple #[p, .int .i64 e]) ∧ UnIs w' p e (unF t zs) ∧ Below w.heap.size w w' := by
  refine un_join hl hz (fun h => refUnpack_valid t v (by rw [bne_iff_ne]; exact h) w) (fun h k => ?_) (fun total leaf i L m Post h1 h2 h3 h4 h5 h6 h7 h8 h9 P1 P3 P9 P0 => refUnpack_go t hl v zs total leaf i L h1 h2 h3 h4 h5 h6 h7 hz h8 hm m h9 Post P1 P3 P9 P0 w hv)
  by_cases h8 : zs.length < 8
  · obtain ⟨a, cap, rfl, -⟩ := hv
    exact refUnpack_short8 t a zs.length cap h h8 w
  · exact refUnpack_short16 t zs v h hz (by omega) k w hv
end Go.Proofs.Ytkmgkeodmkfnpaa
