/- The walks of the reference's Valid; Valid on both sides, of every tree. No condition. -/
import Derived.Test.YtchepcilkcdemaaGreatR03
set_option linter.all false
set_option maxRecDepth 100000
set_option maxHeartbeats 8000000
namespace Go.Proofs.YtchepcilkcdemaaGreat
open Go.ChangeShapes Go.WideShapes Go.ChangeAt Go.RowKit
theorem refSizes_1 (w : World) : Calls Tryz.prog 82 #[.int .i64 1] w fun e w' => e = .returned (.tuple #[.int .i64 64, .int .i64 16]) ∧ w = w' := by
  go_enter Tryz.func82, Tryz.ntmps82
  go_wp2
  go_ret2
  exact ⟨rfl, rfl⟩
theorem refSizes_2 (w : World) : Calls Tryz.prog 82 #[.int .i64 2] w fun e w' => e = .returned (.tuple #[.int .i64 32, .int .i64 8]) ∧ w = w' := by
  go_enter Tryz.func82, Tryz.ntmps82
  go_wp2
  go_ret2
  exact ⟨rfl, rfl⟩
theorem refSizes_no (k : Int) (h1 : k ≠ 1) (h2 : k ≠ 2) (w : World) : Calls Tryz.prog 82 #[.int .i64 k] w fun e w' => e = .returned (.tuple #[.int .i64 0, .int .i64 0]) ∧ w = w' := by
  have e1 : (k == 1) = false := by simpa using h1
  have e2 : (k == 2) = false := by simpa using h2
  go_enter Tryz.func82, Tryz.ntmps82
  go_wp2
  go_ret2
  exact ⟨rfl, rfl⟩
theorem refValid_no (t : TreeV) (h1 : t.k ≠ 1) (h2 : t.k ≠ 2) (w : World) : Calls Tryz.prog 47 #[t.val] w fun e w' => e = .returned (.int .i64 1) ∧ Below w.heap.size w w' := by
  unfold TreeV.val
  go_enter Tryz.func47, Tryz.ntmps47
  go_wp2_with (go_at_call 82; refine (refSizes_no t.k h1 h2 _).mono ?_; rintro e w' ⟨rfl, rfl⟩)
  go_ret
  exact ⟨rfl, by repeat (first | exact Below.refl _ _ | (refine Below.alloc ?_ (by simp) _))⟩
theorem refValid_1 (t : TreeV) (h1 : t.k = 1) (w : World) : Calls Tryz.prog 47 #[t.val] w fun e w' => e = .returned (.int .i64 t.validE) ∧ Below w.heap.size w w' := by
  obtain ⟨k, d, f, p, l, i, ka, kl, kc, sa, sl, sc, pa, pl, pc⟩ := t
  obtain rfl : k = 1 := h1
  have e_1 : sizeK 1 = 64 := rfl
  have e_2 : saltK 1 = 16 := rfl
  simp only [TreeV.val]
  go_enter Tryz.func47, Tryz.ntmps47
  go_wp2_with (go_at_call 82; refine (refSizes_1 _).mono ?_; rintro e w' ⟨rfl, rfl⟩)
  all_goals go_ret
  all_goals refine ⟨ret_int ?_, by repeat (first | exact Below.refl _ _ | (refine Below.alloc ?_ (by simp) _))⟩
  all_goals try simp only [beq_iff_eq, beq_eq_false_iff_ne, bne_iff_ne, bne_eq_false_iff_eq] at *
  all_goals simp only [TreeV.validE, e_1, e_2]
  all_goals (repeat' split) <;> omega
theorem refValid_2 (t : TreeV) (h1 : t.k = 2) (w : World) : Calls Tryz.prog 47 #[t.val] w fun e w' => e = .returned (.int .i64 t.validE) ∧ Below w.heap.size w w' := by
  obtain ⟨k, d, f, p, l, i, ka, kl, kc, sa, sl, sc, pa, pl, pc⟩ := t
  obtain rfl : k = 2 := h1
  have e_1 : sizeK 2 = 32 := rfl
  have e_2 : saltK 2 = 8 := rfl
  simp only [TreeV.val]
  go_enter Tryz.func47, Tryz.ntmps47
  go_wp2_with (go_at_call 82; refine (refSizes_2 _).mono ?_; rintro e w' ⟨rfl, rfl⟩)
  all_goals go_ret
  all_goals refine ⟨ret_int ?_, by repeat (first | exact Below.refl _ _ | (refine Below.alloc ?_ (by simp) _))⟩
  all_goals try simp only [beq_iff_eq, beq_eq_false_iff_ne, bne_iff_ne, bne_eq_false_iff_eq] at *
  all_goals simp only [TreeV.validE, e_1, e_2]
  all_goals (repeat' split) <;> omega
/-- shape.Valid, of every tree. -/
theorem valid_any (t : TreeV) (w : World) : Calls Tryz.prog 45 #[t.val] w fun e w' => e = .returned (.int .i64 t.validE) ∧ Below w.heap.size w w' := by
  by_cases h1 : t.k = 1
  · exact valid_1 t h1 w
  by_cases h2 : t.k = 2
  · exact valid_2 t h2 w
  have e : t.validE = 1 := by simp [TreeV.validE, h1, h2]
  rw [e]; exact valid_no t h1 h2 w
/-- The reference's Valid, of every tree. -/
theorem refValid_any (t : TreeV) (w : World) : Calls Tryz.prog 47 #[t.val] w fun e w' => e = .returned (.int .i64 t.validE) ∧ Below w.heap.size w w' := by
  by_cases h1 : t.k = 1
  · exact refValid_1 t h1 w
  by_cases h2 : t.k = 2
  · exact refValid_2 t h2 w
  have e : t.validE = 1 := by simp [TreeV.validE, h1, h2]
  rw [e]; exact refValid_no t h1 h2 w
end Go.Proofs.YtchepcilkcdemaaGreat
