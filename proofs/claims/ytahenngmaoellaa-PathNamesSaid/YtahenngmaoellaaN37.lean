/- A node's call, by the reference's tree. No condition. -/
import Derived.Test.YtahenngmaoellaaN29
import Derived.Test.YtahenngmaoellaaN36
import Derived.Test.YtahenngmaoellaaN30
import Derived.Test.YtahenngmaoellaaN20
set_option linter.all false
set_option maxRecDepth 100000
set_option maxHeartbeats 8000000
namespace Go.Proofs.Ytahenngmaoellaa
open Go.ChangeShapes Go.WideShapes Go.ChangeAt Go.RowKit Go.Joins Go.Shelf Go.Maps
attribute [local go_sem] Oper.semAt_some
theorem encF_far {big x0 : Bool} {v : Nat → Nat} {i : Nat} (hi : 2 * sB big ≤ i) : ∀ k, k ≤ 9 → nthz (encF big x0 v k) i = 0
 | 0, _ => encF_zero big x0 v i
 | k + 1, h => by
  have e : ∀ j, 1 ≤ j → j ≤ 9 → atB big j + szB big j ≤ 2 * sB big := fun j a b => by
   rcases (show j = 1 ∨ j = 2 ∨ j = 3 ∨ j = 4 ∨ j = 5 ∨ j = 6 ∨ j = 7 ∨ j = 8 ∨ j = 9 by omega) with rfl | rfl | rfl | rfl | rfl | rfl | rfl | rfl | rfl <;> cases big <;> decide
  have := e (k + 1) (by omega) h
  rw [encF_get big x0 v h i, if_neg (fun h2 => by omega)]
  exact encF_far hi k (by omega)
theorem side_below {b : Nat} {W W' : World} {z : List Int} {s : Value} (h : SideIs b W z s) (hb : Below W.heap.size W W') : SideIs b W' z s := by
 rcases h with h | ⟨h1, h2⟩
 ·exact .inl h
 ·exact .inr ⟨h1, ownsRow_same' h2 (fun g _ g2 => hb.block g g2)⟩
/-- A kept salt stands for the salt. -/
theorem side_use {b : Nat} {W : World} {z : List Int} {s : Value} (h : SideIs b W z s) (hz : ∀ a ∈ z, 0 ≤ a ∧ a ≤ 255) : ∃ z', Hold W s z' ∧ z'.length ≤ z.length ∧ (z' = z ∨ z' = [] ∧ ∀ a ∈ z, a = 0) := by
 rcases h with ⟨rfl, h⟩ | ⟨-, h⟩
 ·exact ⟨[], Hold.nil W, Nat.zero_le _, .inr ⟨rfl, h⟩⟩
 ·exact ⟨z, hold_of_own h hz, Nat.le_refl _, .inl rfl⟩
theorem nthz_all0 {z : List Int} (h : ∀ a ∈ z, a = 0) (i : Nat) : nthz z i = 0 := by
 unfold nthz
 rw [List.getD_eq_getElem?_getD]
 cases e : z[i]? with
 | none => rfl
 | some a => exact h a (List.mem_of_getElem? e)
theorem setL_zero {b z : List Int} {p : Nat} (h : p + z.length ≤ b.length) (hz : ∀ a ∈ z, a = 0) (hb : ∀ i, p ≤ i → i < p + z.length → nthz b i = 0) (i : Nat) : nthz (setL b p z) i = nthz b i := by
 rw [setL_get h]
 split
 ·rename_i h2; rw [nthz_all0 hz, hb i h2.1 h2.2]
 ·rfl
theorem nthz_eq {a b : List Int} (hl : a.length = b.length) (h : ∀ i, nthz a i = nthz b i) : a = b := by
 refine List.ext_getElem hl fun i h1 h2 => ?_
 have := h i
 unfold nthz at this
 simpa [List.getD_eq_getElem?_getD, h1, h2] using this
theorem blkP_side {big : Bool} {v : Nat → Nat} {z1 z2 y1 y2 : List Int} (h1 : z1.length ≤ sB big) (h2 : z2.length ≤ sB big) (e1 : y1 = z1 ∨ y1 = [] ∧ ∀ a ∈ z1, a = 0) (e2 : y2 = z2 ∨ y2 = [] ∧ ∀ a ∈ z2, a = 0) : blkP big v y1 y2 = blkP big v z1 z2 := by
 have hm : 4 * sB big = mB big := by cases big <;> decide
 have he := encF_length big (v 7 == 0) v 9 (by omega)
 have hy1 : y1.length ≤ sB big := by rcases e1 with rfl | ⟨rfl, -⟩ <;> simp [h1]
 have hy2 : y2.length ≤ sB big := by rcases e2 with rfl | ⟨rfl, -⟩ <;> simp [h2]
 refine nthz_eq (by rw [blkP_length hy1 hy2, blkP_length h1 h2]) fun i => ?_
 have a1 : ∀ i, nthz (setL (encF big (v 7 == 0) v 9) (2 * sB big) y1) i = nthz (setL (encF big (v 7 == 0) v 9) (2 * sB big) z1) i := fun i => by
  rcases e1 with rfl | ⟨rfl, h⟩
  ·rfl
  ·rw [setL_nil, setL_zero (by omega) h fun j hj _ => encF_far hj 9 (by omega)]
 have l1 : ∀ y : List Int, y.length ≤ sB big → (setL (encF big (v 7 == 0) v 9) (2 * sB big) y).length = mB big := fun y hy => by rw [setL_length (by omega), he]
 unfold blkP
 rcases e2 with rfl | ⟨rfl, h⟩
 ·have m1 := l1 _ hy1
  have m2 := l1 _ h1
  rw [setL_get (b := setL (encF big (v 7 == 0) v 9) (2 * sB big) y1) (by omega), setL_get (b := setL (encF big (v 7 == 0) v 9) (2 * sB big) z1) (by omega), a1]
 ·rw [setL_nil, a1, setL_zero (by rw [l1 _ h1]; omega) h fun j hj hj2 => ?_]
  rw [setL_get (by omega), if_neg (by omega)]
  exact encF_far (by omega) 9 (by omega)
theorem cutZ_length {n : Nat} (zs : List Int) (hn : 1 ≤ n) : (cutZ n zs).length = lvs zs.length n := by
 unfold cutZ lvs
 split
 ·rename_i h
  subst h
  simp [cdiv]
 ·rename_i h
  have h1 := List.length_pos_iff.2 h
  rw [pieces_length]
  have := cdiv_pos (d := n) (show 1 ≤ zs.length from h1)
  omega
end Go.Proofs.Ytahenngmaoellaa
