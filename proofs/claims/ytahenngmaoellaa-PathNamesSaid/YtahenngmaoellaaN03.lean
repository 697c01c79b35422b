/- The walks of Valid, on both sides: which trees may be. No condition. -/
import Derived.Test.YtahenngmaoellaaN02
set_option linter.all false
set_option maxRecDepth 100000
set_option maxHeartbeats 8000000
namespace Go.Proofs.Ytahenngmaoellaa
open Go.ChangeShapes Go.WideShapes Go.ChangeAt Go.RowKit
/-- A tree, as a value. -/
structure TreeV where
  k : Int
  d : Int
  f : Int
  p : Int
  l : Int
  i : Int
  ka : Option Addr
  kl : Nat
  kc : Nat
  sa : Option Addr
  sl : Nat
  sc : Nat
  pa : Option Addr
  pl : Nat
  pc : Nat
def TreeV.val (t : TreeV) : Value := .agg #[.int .i64 t.k, .int .i64 t.d, .int .i64 t.f, .int .i64 t.p, .int .u32 t.l, .int .i64 t.i, .slice t.ka t.kl t.kc, .slice t.sa t.sl t.sc, .slice t.pa t.pl t.pc]
def sizeK (k : Int) : Int := if k = 1 then 64 else if k = 2 then 32 else 0
def saltK (k : Int) : Int := if k = 1 then 16 else if k = 2 then 8 else 0
/-- Which trees may be. -/
def TreeV.validE (t : TreeV) : Int :=
  if t.k ≠ 1 ∧ t.k ≠ 2 then 1
  else if t.d < 1 ∨ sizeK t.k < t.d ∨ t.i < 1 ∨ sizeK t.k < t.i then 90
  else if (t.f ≠ 0 ∧ (t.f < 2 ∨ 255 < t.f)) ∨ t.p < 2 ∨ 255 < t.p ∨ t.l = 0 then 90
  else if sizeK t.k < t.kl then 8
  else if ¬ ((t.sl : Int) = 0 ∨ (t.sl : Int) = saltK t.k) ∨ ¬ ((t.pl : Int) = 0 ∨ (t.pl : Int) = saltK t.k) then 90
  else 0
theorem sizes_1 (w : World) : Calls Try.prog 37 #[.int .i64 1] w fun e w' => e = .returned (.tuple #[.int .i64 64, .int .i64 64, .int .i64 16]) ∧ w = w' := by
  go_enter Try.func37, Try.ntmps37
  go_wp2
  go_ret3
  exact ⟨rfl, rfl⟩
theorem sizes_2 (w : World) : Calls Try.prog 37 #[.int .i64 2] w fun e w' => e = .returned (.tuple #[.int .i64 32, .int .i64 32, .int .i64 8]) ∧ w = w' := by
  go_enter Try.func37, Try.ntmps37
  go_wp2
  go_ret3
  exact ⟨rfl, rfl⟩
theorem sizes_no (k : Int) (h1 : k ≠ 1) (h2 : k ≠ 2) (w : World) : Calls Try.prog 37 #[.int .i64 k] w fun e w' => e = .returned (.tuple #[.int .i64 0, .int .i64 0, .int .i64 0]) ∧ w = w' := by
  have e1 : (k == 1) = false := by simpa using h1
  have e2 : (k == 2) = false := by simpa using h2
  go_enter Try.func37, Try.ntmps37
  go_wp2
  go_ret3
  exact ⟨rfl, rfl⟩
theorem most_1 (w : World) : Calls Try.prog 24 #[.int .i64 1] w fun e w' => e = .returned (.tuple #[.int .i64 64, .int .i64 0]) ∧ w = w' := by
  go_enter Try.func24, Try.ntmps24
  go_wp2_with (go_at_call 37; refine (sizes_1 _).mono ?_; rintro e w' ⟨rfl, rfl⟩)
  go_ret2
  exact ⟨rfl, rfl⟩
theorem most_2 (w : World) : Calls Try.prog 24 #[.int .i64 2] w fun e w' => e = .returned (.tuple #[.int .i64 32, .int .i64 0]) ∧ w = w' := by
  go_enter Try.func24, Try.ntmps24
  go_wp2_with (go_at_call 37; refine (sizes_2 _).mono ?_; rintro e w' ⟨rfl, rfl⟩)
  go_ret2
  exact ⟨rfl, rfl⟩
theorem most_no (k : Int) (h1 : k ≠ 1) (h2 : k ≠ 2) (w : World) : Calls Try.prog 24 #[.int .i64 k] w fun e w' => e = .returned (.tuple #[.int .i64 0, .int .i64 1]) ∧ w = w' := by
  go_enter Try.func24, Try.ntmps24
  go_wp2_with (go_at_call 37; refine (sizes_no k h1 h2 _).mono ?_; rintro e w' ⟨rfl, rfl⟩)
  go_ret2
  exact ⟨rfl, rfl⟩
theorem valid_no (t : TreeV) (h1 : t.k ≠ 1) (h2 : t.k ≠ 2) (w : World) : Calls Try.prog 13 #[t.val] w fun e w' => e = .returned (.int .i64 1) ∧ Below w.heap.size w w' := by
  unfold TreeV.val
  go_enter Try.func13, Try.ntmps13
  go_wp2_with (go_at_call 24; refine (most_no t.k h1 h2 _).mono ?_; rintro e w' ⟨rfl, rfl⟩)
  go_ret
  exact ⟨rfl, by repeat (first | exact Below.refl _ _ | (refine Below.alloc ?_ (by simp) _))⟩
/-- Has a salt a length that may be? -/
def sideB (n : Nat) (m : Int) : Bool := decide ((n : Int) = 0 ∨ (n : Int) = m)
theorem sideB_true {n : Nat} {m : Int} : (sideB n m = true) ↔ ((n : Int) = 0 ∨ (n : Int) = m) := by simp [sideB]
theorem sideB_false {n : Nat} {m : Int} : (sideB n m = false) ↔ ¬ ((n : Int) = 0 ∨ (n : Int) = m) := by rw [← Bool.not_eq_true, sideB_true]
theorem ret_int {k : IntKind} {a b : Int} (h : a = b) : Ending.returned (.int k a) = .returned (.int k b) := by rw [h]
theorem side_64 (a : Option Addr) (l c b : Nat) (w : World) (hc : w.cell? ⟨b, 0, none⟩ = some (.int .i64 64)) :
    Calls Try.prog 25 #[.slice a l c, .pointer (some ⟨b, 0, none⟩)] w fun e w' => e = .returned (.bool (sideB l 16)) ∧ w = w' := by
  by_cases h0 : (l : Int) = 0
  · have e1 : ((l : Int) == 0) = true := by simpa using h0
    have e2 : sideB l 16 = true := sideB_true.2 (.inl h0)
    rw [e2]
    go_enter Try.func25, Try.ntmps25
    go_wp2
    go_ret
    exact ⟨rfl, rfl⟩
  · have e1 : ((l : Int) == 0) = false := by simpa using h0
    by_cases h1 : (l : Int) = 16
    · have e3 : ((l : Int) == 16) = true := by simpa using h1
      have e2 : sideB l 16 = true := sideB_true.2 (.inr h1)
      rw [e2]
      go_enter Try.func25, Try.ntmps25
      go_wp2
      go_ret
      exact ⟨rfl, rfl⟩
    · have e3 : ((l : Int) == 16) = false := by simpa using h1
      have e2 : sideB l 16 = false := sideB_false.2 (fun h => h.elim h0 h1)
      rw [e2]
      go_enter Try.func25, Try.ntmps25
      go_wp2
      go_ret
      exact ⟨rfl, rfl⟩
theorem side_32 (a : Option Addr) (l c b : Nat) (w : World) (hc : w.cell? ⟨b, 0, none⟩ = some (.int .i64 32)) :
    Calls Try.prog 25 #[.slice a l c, .pointer (some ⟨b, 0, none⟩)] w fun e w' => e = .returned (.bool (sideB l 8)) ∧ w = w' := by
  by_cases h0 : (l : Int) = 0
  · have e1 : ((l : Int) == 0) = true := by simpa using h0
    have e2 : sideB l 8 = true := sideB_true.2 (.inl h0)
    rw [e2]
    go_enter Try.func25, Try.ntmps25
    go_wp2
    go_ret
    exact ⟨rfl, rfl⟩
  · have e1 : ((l : Int) == 0) = false := by simpa using h0
    by_cases h1 : (l : Int) = 8
    · have e3 : ((l : Int) == 8) = true := by simpa using h1
      have e2 : sideB l 8 = true := sideB_true.2 (.inr h1)
      rw [e2]
      go_enter Try.func25, Try.ntmps25
      go_wp2
      go_ret
      exact ⟨rfl, rfl⟩
    · have e3 : ((l : Int) == 8) = false := by simpa using h1
      have e2 : sideB l 8 = false := sideB_false.2 (fun h => h.elim h0 h1)
      rw [e2]
      go_enter Try.func25, Try.ntmps25
      go_wp2
      go_ret
      exact ⟨rfl, rfl⟩
theorem valid_1 (t : TreeV) (h1 : t.k = 1) (w : World) : Calls Try.prog 13 #[t.val] w fun e w' => e = .returned (.int .i64 t.validE) ∧ Below w.heap.size w w' := by
  obtain ⟨k, d, f, p, l, i, ka, kl, kc, sa, sl, sc, pa, pl, pc⟩ := t
  obtain rfl : k = 1 := h1
  have e_1 : sizeK 1 = 64 := rfl
  have e_2 : saltK 1 = 16 := rfl
  simp only [TreeV.val]
  go_enter Try.func13, Try.ntmps13
  go_wp2_with (first | (go_at_call 24; refine (most_1 _).mono ?_; rintro e w' ⟨rfl, rfl⟩) | (go_at_call 25; refine (side_64 _ _ _ _ _ (by simp [go_sem])).mono ?_; rintro e w' ⟨rfl, rfl⟩))
  all_goals go_ret
  all_goals refine ⟨ret_int ?_, by repeat (first | exact Below.refl _ _ | (refine Below.alloc ?_ (by simp) _))⟩
  all_goals try simp only [beq_iff_eq, beq_eq_false_iff_ne, bne_iff_ne, bne_eq_false_iff_eq, sideB_true, sideB_false, Bool.not_eq_true', Bool.not_eq_false'] at *
  all_goals simp only [TreeV.validE, e_1, e_2]
  all_goals (repeat' split) <;> omega
theorem valid_2 (t : TreeV) (h1 : t.k = 2) (w : World) : Calls Try.prog 13 #[t.val] w fun e w' => e = .returned (.int .i64 t.validE) ∧ Below w.heap.size w w' := by
  obtain ⟨k, d, f, p, l, i, ka, kl, kc, sa, sl, sc, pa, pl, pc⟩ := t
  obtain rfl : k = 2 := h1
  have e_1 : sizeK 2 = 32 := rfl
  have e_2 : saltK 2 = 8 := rfl
  simp only [TreeV.val]
  go_enter Try.func13, Try.ntmps13
  go_wp2_with (first | (go_at_call 24; refine (most_2 _).mono ?_; rintro e w' ⟨rfl, rfl⟩) | (go_at_call 25; refine (side_32 _ _ _ _ _ (by simp [go_sem])).mono ?_; rintro e w' ⟨rfl, rfl⟩))
  all_goals go_ret
  all_goals refine ⟨ret_int ?_, by repeat (first | exact Below.refl _ _ | (refine Below.alloc ?_ (by simp) _))⟩
  all_goals try simp only [beq_iff_eq, beq_eq_false_iff_ne, bne_iff_ne, bne_eq_false_iff_eq, sideB_true, sideB_false, Bool.not_eq_true', Bool.not_eq_false'] at *
  all_goals simp only [TreeV.validE, e_1, e_2]
  all_goals (repeat' split) <;> omega
end Go.Proofs.Ytahenngmaoellaa
