/- What ShapeTiles calls: a remainder that is never below zero, and a node's place among its parent's children. No condition. -/
import Derived.Test.YtcjmjmmajckjhaaShapeSpots
namespace Go.Proofs.Ytcjmjmmajckjhaa
open Go.ChangeShapes Go.WideShapes Go.ChangeAt Go.RowKit Go.Joins Go.Shelf Go.Maps
attribute [local go_sem] Oper.semAt_some

theorem tmod_low {n m : Int} (hm : 1 ≤ m) : -m < n.tmod m ∧ n.tmod m < m ∧ (n.tmod m < 0 → n.tmod m + m = n % m) ∧ (¬ n.tmod m < 0 → n.tmod m = n % m) := by
  have h1 := Int.emod_nonneg n (show m ≠ 0 by omega)
  have h2 := Int.emod_lt_of_pos n (show 0 < m by omega)
  have h3 := Int.tmod_eq_emod (a := n) (b := m)
  have h4 : ((m.natAbs : Nat) : Int) = m := by omega
  split at h3
  · rw [h3]; refine ⟨by omega, by omega, by omega, by omega⟩
  · rename_i hc
    have h5 : n % m ≠ 0 := fun e => hc (.inr (Int.dvd_of_emod_eq_zero e))
    rw [h3, h4]; refine ⟨by omega, by omega, by omega, by omega⟩
set_option maxRecDepth 100000 in
theorem rest_any (n m : Int) (hn : -9223372036854775808 ≤ n ∧ n ≤ 9223372036854775807) (hm : 1 ≤ m) (hm2 : m ≤ 9223372036854775807) (w : World) :
    Calls Try.prog 46 #[.int .i64 n, .int .i64 m] w fun e w' => e = .returned (.int .i64 (n % m)) ∧ w = w' := by
  have h0 : (m == 0) = false := by rw [beq_eq_false_iff_ne]; omega
  obtain ⟨a1, a2, a3, a4⟩ := tmod_low (n := n) hm
  by_cases hs : 0 ≤ n
  · have e1 := Int.emod_nonneg n (show m ≠ 0 by omega)
    have e2 := Int.emod_lt_of_pos n (show 0 < m by omega)
    clear a1 a2 a3 a4
    go_enter Try.func46, Try.ntmps46
    go_wp2
    go_ret
    exact ⟨rfl, rfl⟩
  · by_cases hb : n.tmod m < 0
    · have A3 := Lib.hid (a3 hb)
      clear a3 a4
      go_enter Try.func46, Try.ntmps46
      go_wp2
      go_ret
      exact ⟨by rw [← A3.out]; rfl, rfl⟩
    · have A4 := Lib.hid (a4 hb)
      clear a3 a4
      go_enter Try.func46, Try.ntmps46
      go_wp2
      go_ret
      exact ⟨by rw [← A4.out]; rfl, rfl⟩
set_option maxRecDepth 100000 in
theorem hand_root (t : TreeV) (total : Nat) (row at_ a b : Nat) (c d : Int) (la : Bool)
    (HP : Hid (∀ w, Calls Try.prog 44 #[t.val, .int .u64 total, .int .i64 row, .int .u64 at_] w fun r w' => r = .returned (.tuple #[.int .u64 a, .int .i64 6]) ∧ Below w.heap.size w w')) (w : World) :
    Calls Try.prog 47 #[t.val, .int .u64 total, .agg #[.int .i64 row, .int .u64 at_, .int .u64 c, .int .u64 d, .bool la, .bool true]] w fun r w' => r = .returned (.bool true) ∧ Below w.heap.size w w' := by
  unfold TreeV.val at *
  go_enter Try.func47, Try.ntmps47
  go_wp2_with fail
  refine (HP.out _).mono ?_; rintro r w1 ⟨rfl, hb1⟩
  obtain ⟨hc, -⟩ := bcell hb1
  have hs1 := hb1.size
  simp at hs1
  have k0 : w.heap.size < w1.heap.size := by omega
  have k0' : w.heap.size + 1 < w1.heap.size := by omega
  have hB : Below w.heap.size w w1 := below_alloc_then _ (below_alloc_then _ hb1)
  clear hb1
  go_wp2
  go_ret
  exact ⟨rfl, hB⟩
set_option maxRecDepth 100000 in
theorem hand_in (t : TreeV) (total : Nat) (row at_ a : Nat) (c d : Int) (la : Bool) (y0 y1 y2 y3 : Int) (y4 y5 : Bool)
    (HP : Hid (∀ w, Calls Try.prog 44 #[t.val, .int .u64 total, .int .i64 row, .int .u64 at_] w fun r w' => r = .returned (.tuple #[.int .u64 a, .int .i64 0]) ∧ Below w.heap.size w w'))
    (HS : Hid (∀ w, Calls Try.prog 42 #[t.val, .int .u64 total, .int .i64 ((row : Int) + 1), .int .u64 a] w fun r w' => r = .returned (.tuple #[.agg #[.int .i64 y0, .int .u64 y1, .int .u64 y2, .int .u64 y3, .bool y4, .bool y5], .int .i64 0]) ∧ Below w.heap.size w w'))
    (hrow : row ≤ 254) (h1 : y2 ≤ at_) (h2 : at_ < y3) (w : World) :
    Calls Try.prog 47 #[t.val, .int .u64 total, .agg #[.int .i64 row, .int .u64 at_, .int .u64 c, .int .u64 d, .bool la, .bool false]] w fun r w' => r = .returned (.bool true) ∧ Below w.heap.size w w' := by
  unfold TreeV.val at *
  go_enter Try.func47, Try.ntmps47
  go_wp2_with fail
  refine (HP.out _).mono ?_; rintro r w1 ⟨rfl, hb1⟩
  obtain ⟨hc, -⟩ := bcell hb1
  have hs1 := hb1.size
  simp at hs1
  have k0 : w.heap.size < w1.heap.size := by omega
  have k0' : w.heap.size + 1 < w1.heap.size := by omega
  have hB : Below w.heap.size w w1 := below_alloc_then _ (below_alloc_then _ hb1)
  clear hb1
  go_wp2_with fail
  refine (HS.out _).mono ?_; rintro r w2 ⟨rfl, hb2⟩
  obtain ⟨hc2, -⟩ := bcell hb2
  have hs2 := hb2.size
  have k2 : w.heap.size < w2.heap.size := by omega
  have k2' : w.heap.size + 1 < w2.heap.size := by omega
  have hB2 : Below w.heap.size w w2 := hB.trans (hb2.mono (by omega))
  clear hb2
  go_wp2
  go_ret
  exact ⟨rfl, by first | exact hB2 | exact hB2.alloc (by omega) _⟩
end Go.Proofs.Ytcjmjmmajckjhaa
