/- A block's numbers lie in it: laid anew they give the block. Plain. No condition. -/
import Derived.Test.YtchepcilkcdemaaGreatR28
import Derived.Test.YtchepcilkcdemaaGreatR24
import Derived.Test.YtchepcilkcdemaaGreatR20
set_option linter.all false
set_option maxRecDepth 100000
set_option maxHeartbeats 8000000
namespace Go.Proofs.YtchepcilkcdemaaGreat
open Go.ChangeShapes Go.WideShapes Go.ChangeAt Go.RowKit Go.Joins Go.Shelf Go.Maps
theorem encF_get (big x0 : Bool) (v : Nat → Nat) {k : Nat} (hk : k + 1 ≤ 9) (i : Nat) :
    nthz (encF big x0 v (k + 1)) i = if ¬ (k + 1 = 7 ∧ x0 = true) ∧ atB big (k + 1) ≤ i ∧ i < atB big (k + 1) + szB big (k + 1) then byt (v (k + 1)) (i - atB big (k + 1)) else nthz (encF big x0 v k) i := by
  have hs := szE_bounds big false (k + 1) (by omega) (by omega)
  have e : szE big false (k + 1) = szB big (k + 1) := by simp [szE]
  rw [e] at hs
  have hm : 32 ≤ mB big := by cases big <;> decide
  rw [encF]
  by_cases h : k + 1 = 7 ∧ x0 = true
  · rw [if_pos h, if_neg (fun h2 => h2.1 h)]
  · rw [if_neg h, setL_get (by rw [bytesK_length, encF_length big x0 v k (by omega)]; omega), bytesK_length]
    by_cases h2 : atB big (k + 1) ≤ i ∧ i < atB big (k + 1) + szB big (k + 1)
    · rw [if_pos h2, if_pos ⟨h, h2⟩]
      simp [nthz, bytesK, List.getD_eq_getElem?_getD, show i - atB big (k + 1) < szB big (k + 1) by omega]
    · rw [if_neg h2, if_neg (fun h3 => h2 h3.2)]
theorem encF_zero (big x0 : Bool) (v : Nat → Nat) (i : Nat) : nthz (encF big x0 v 0) i = 0 := by
  unfold encF nthz
  simp only [List.getD_eq_getElem?_getD, List.getElem?_replicate]
  split <;> rfl
end Go.Proofs.YtchepcilkcdemaaGreat
