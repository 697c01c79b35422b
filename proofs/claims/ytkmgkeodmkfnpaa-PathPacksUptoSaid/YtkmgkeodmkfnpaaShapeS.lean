/- The parents of nodes, case by case. No condition. -/
import Derived.Test.YtkmgkeodmkfnpaaShapeR
namespace Go.Proofs.Ytkmgkeodmkfnpaa
open Go.ChangeShapes Go.WideShapes Go.ChangeAt Go.RowKit Go.Joins Go.Shelf Go.Maps
attribute [local go_sem] Oper.semAt_some

set_option maxRecDepth 100000 in
set_option maxHeartbeats 1000000 in
theorem parent_err (t : TreeV) (total : Nat) (row : Int) (at_ : Nat) {z0 : Int} {z1 z2 z3 : Int} {z4 : Bool} {z5 : Bool} {e : Int} (H1 : Hid (∀ w, Calls Try.prog 67 #[t.val, .int .u64 total, .int .i64 row, .int .u64 at_] w fun r w' => r = .returned (.tuple #[.agg #[.int .i64 z0, .int .u64 z1, .int .u64 z2, .int .u64 z3, .bool z4, .bool z5], .int .i64 e]) ∧ Below w.heap.size w w')) (he : (e != 0) = true) (w : World) :
    Calls Try.prog 68 #[t.val, .int .u64 total, .int .i64 row, .int .u64 at_] w fun r w' => r = .returned (.tuple #[.int .u64 0, .int .i64 e]) ∧ Below w.heap.size w w' := by
  unfold TreeV.val at *
  go_enter Try.func68, Try.ntmps68
  go_wp2_with fail
  refine (H1.out _).mono ?_; rintro r w1 ⟨rfl, hb1⟩
  obtain ⟨hc, hf1⟩ := bcell hb1
  have hs1 := hb1.size
  simp at hs1
  have k0 : w.heap.size < w1.heap.size := by omega
  have hBW : Below w.heap.size w w1 := below_alloc_then _ hb1
  clear hb1
  go_wp2
  refine bodyPost_ret (results_tmp2 (fn := Try.f68) (t := 8) (u := 9) rfl _ _ _) rfl ⟨rfl, ?_⟩
  first | exact hBW | exact hBW.alloc (by omega) _
set_option maxRecDepth 100000 in
set_option maxHeartbeats 1000000 in
theorem parent_root (t : TreeV) (total : Nat) (row : Int) (at_ : Nat) {z0 : Int} {z1 z2 z3 : Int} {z4 : Bool} (H1 : Hid (∀ w, Calls Try.prog 67 #[t.val, .int .u64 total, .int .i64 row, .int .u64 at_] w fun r w' => r = .returned (.tuple #[.agg #[.int .i64 z0, .int .u64 z1, .int .u64 z2, .int .u64 z3, .bool z4, .bool true], .int .i64 0]) ∧ Below w.heap.size w w')) (w : World) :
    Calls Try.prog 68 #[t.val, .int .u64 total, .int .i64 row, .int .u64 at_] w fun r w' => r = .returned (.tuple #[.int .u64 0, .int .i64 6]) ∧ Below w.heap.size w w' := by
  unfold TreeV.val at *
  go_enter Try.func68, Try.ntmps68
  go_wp2_with fail
  refine (H1.out _).mono ?_; rintro r w1 ⟨rfl, hb1⟩
  obtain ⟨hc, hf1⟩ := bcell hb1
  have hs1 := hb1.size
  simp at hs1
  have k0 : w.heap.size < w1.heap.size := by omega
  have hBW : Below w.heap.size w w1 := below_alloc_then _ hb1
  clear hb1
  go_wp2
  refine bodyPost_ret (results_tmp2 (fn := Try.f68) (t := 8) (u := 9) rfl _ _ _) rfl ⟨rfl, ?_⟩
  first | exact hBW | exact hBW.alloc (by omega) _
set_option maxRecDepth 100000 in
set_option maxHeartbeats 1000000 in
theorem refParent_err (t : TreeV) (total : Nat) (row : Int) (at_ : Nat) {z0 : Int} {z1 z2 z3 : Int} {z4 : Bool} {z5 : Bool} {e : Int} (H1 : Hid (∀ w, Calls Try.prog 69 #[t.val, .int .u64 total, .int .i64 row, .int .u64 at_] w fun r w' => r = .returned (.tuple #[.agg #[.int .i64 z0, .int .u64 z1, .int .u64 z2, .int .u64 z3, .bool z4, .bool z5], .int .i64 e]) ∧ Below w.heap.size w w')) (he : (e != 0) = true) (w : World) :
    Calls Try.prog 70 #[t.val, .int .u64 total, .int .i64 row, .int .u64 at_] w fun r w' => r = .returned (.tuple #[.int .u64 0, .int .i64 e]) ∧ Below w.heap.size w w' := by
  unfold TreeV.val at *
  go_enter Try.func70, Try.ntmps70
  go_wp2_with fail
  refine (H1.out _).mono ?_; rintro r w1 ⟨rfl, hb1⟩
  obtain ⟨hc, hf1⟩ := bcell hb1
  have hs1 := hb1.size
  simp at hs1
  have k0 : w.heap.size < w1.heap.size := by omega
  have hBW : Below w.heap.size w w1 := below_alloc_then _ hb1
  clear hb1
  go_wp2
  refine bodyPost_ret (results_tmp2 (fn := Try.f70) (t := 8) (u := 9) rfl _ _ _) rfl ⟨rfl, ?_⟩
  first | exact hBW | exact hBW.alloc (by omega) _
set_option maxRecDepth 100000 in
set_option maxHeartbeats 1000000 in
theorem refParent_root (t : TreeV) (total : Nat) (row : Int) (at_ : Nat) {z0 : Int} {z1 z2 z3 : Int} {z4 : Bool} (H1 : Hid (∀ w, Calls Try.prog 69 #[t.val, .int .u64 total, .int .i64 row, .int .u64 at_] w fun r w' => r = .returned (.tuple #[.agg #[.int .i64 z0, .int .u64 z1, .int .u64 z2, .int .u64 z3, .bool z4, .bool true], .int .i64 0]) ∧ Below w.heap.size w w')) (w : World) :
    Calls Try.prog 70 #[t.val, .int .u64 total, .int .i64 row, .int .u64 at_] w fun r w' => r = .returned (.tuple #[.int .u64 0, .int .i64 6]) ∧ Below w.heap.size w w' := by
  unfold TreeV.val at *
  go_enter Try.func70, Try.ntmps70
  go_wp2_with fail
  refine (H1.out _).mono ?_; rintro r w1 ⟨rfl, hb1⟩
  obtain ⟨hc, hf1⟩ := bcell hb1
  have hs1 := hb1.size
  simp at hs1
  have k0 : w.heap.size < w1.heap.size := by omega
  have hBW : Below w.heap.size w w1 := below_alloc_then _ hb1
  clear hb1
  go_wp2
  refine bodyPost_ret (results_tmp2 (fn := Try.f70) (t := 8) (u := 9) rfl _ _ _) rfl ⟨rfl, ?_⟩
  first | exact hBW | exact hBW.alloc (by omega) _
set_option maxRecDepth 100000 in
set_option maxHeartbeats 1000000 in
theorem parent_none (t : TreeV) (total : Nat) (row : Int) (at_ : Nat) {z0 : Int} {z1 z2 z3 : Int} {z4 : Bool} {y0 : Int} {y1 y2 y3 : Int} {y4 : Bool} {y6 : Int} (H1 : Hid (∀ w, Calls Try.prog 67 #[t.val, .int .u64 total, .int .i64 row, .int .u64 at_] w fun r w' => r = .returned (.tuple #[.agg #[.int .i64 z0, .int .u64 z1, .int .u64 z2, .int .u64 z3, .bool z4, .bool false], .int .i64 0]) ∧ Below w.heap.size w w')) (H2 : Hid (∀ w, Calls Try.prog 67 #[t.val, .int .u64 total, .int .i64 (row + 1), .int .u64 0] w fun r w' => r = .returned (.tuple #[.agg #[.int .i64 y0, .int .u64 y1, .int .u64 y2, .int .u64 y3, .bool y4, .bool true], .int .i64 y6]) ∧ Below w.heap.size w w')) (hr : 0 ≤ row ∧ row ≤ 254) (w : World) :
    Calls Try.prog 68 #[t.val, .int .u64 total, .int .i64 row, .int .u64 at_] w fun r w' => r = .returned (.tuple #[.int .u64 0, .int .i64 0]) ∧ Below w.heap.size w w' := by
  unfold TreeV.val at *
  go_enter Try.func68, Try.ntmps68
  go_wp2_with fail
  refine (H1.out _).mono ?_; rintro r w1 ⟨rfl, hb1⟩
  obtain ⟨hc, hf1⟩ := bcell hb1
  have hs1 := hb1.size
  simp at hs1
  have k0 : w.heap.size < w1.heap.size := by omega
  have hBW : Below w.heap.size w w1 := below_alloc_then _ hb1
  clear hb1
  go_wp2_with fail
  refine (H2.out _).mono ?_; rintro r w2 ⟨rfl, hb2⟩
  have hs2 := hb2.size
  simp at hs2
  have k2 : w.heap.size < w2.heap.size := by omega
  obtain ⟨hc2, hf2⟩ := bcell hb2
  have hBW2 : Below w.heap.size w w2 := (hBW.alloc (by omega) _).trans (hb2.mono (by simp; omega))
  clear hb2
  go_wp2
  refine bodyPost_ret (results_tmp2 (fn := Try.f68) (t := 8) (u := 9) rfl _ _ _) rfl ⟨rfl, ?_⟩
  first | exact hBW2 | exact hBW2.alloc (by omega) _
set_option maxRecDepth 100000 in
set_option maxHeartbeats 1000000 in
theorem parent_ok (t : TreeV) (total : Nat) (row : Int) (at_ : Nat) {z0 : Int} {z1 z2 z3 : Int} {z4 : Bool} {y0 : Int} {y1 y2 y3 : Int} {y4 : Bool} {y6 : Int} (H1 : Hid (∀ w, Calls Try.prog 67 #[t.val, .int .u64 total, .int .i64 row, .int .u64 at_] w fun r w' => r = .returned (.tuple #[.agg #[.int .i64 z0, .int .u64 z1, .int .u64 z2, .int .u64 z3, .bool z4, .bool false], .int .i64 0]) ∧ Below w.heap.size w w')) (H2 : Hid (∀ w, Calls Try.prog 67 #[t.val, .int .u64 total, .int .i64 (row + 1), .int .u64 0] w fun r w' => r = .returned (.tuple #[.agg #[.int .i64 y0, .int .u64 y1, .int .u64 y2, .int .u64 y3, .bool y4, .bool false], .int .i64 y6]) ∧ Below w.heap.size w w')) (hr : 0 ≤ row ∧ row ≤ 254) (hf : 2 ≤ t.f ∧ t.f ≤ 255) (ha : (at_ : Int) ≤ 18446744073709551615) (w : World) :
    Calls Try.prog 68 #[t.val, .int .u64 total, .int .i64 row, .int .u64 at_] w fun r w' => r = .returned (.tuple #[.int .u64 (at_ / t.fn : Nat), .int .i64 0]) ∧ Below w.heap.size w w' := by
  have hd0 : (t.f == 0) = false := by rw [beq_eq_false_iff_ne]; omega
  have hfn : t.f = (t.fn : Int) := by unfold TreeV.fn; omega
  have hq : ((at_ / t.fn : Nat) : Int) = (at_ : Int) / t.f := by rw [hfn]; exact Int.natCast_ediv at_ t.fn
  have hq2 := Nat.div_le_self at_ t.fn
  have e3 : (at_ : Int) / t.f ≤ 18446744073709551615 := by rw [← hq]; omega
  have e4 : 0 ≤ (at_ : Int) / t.f := by rw [← hq]; exact Int.natCast_nonneg _
  have HQ := Lib.hid hq
  clear hq hfn hq2
  unfold TreeV.val at *
  go_enter Try.func68, Try.ntmps68
  go_wp2_with fail
  refine (H1.out _).mono ?_; rintro r w1 ⟨rfl, hb1⟩
  obtain ⟨hc, hf1⟩ := bcell hb1
  have hs1 := hb1.size
  simp at hs1
  have k0 : w.heap.size < w1.heap.size := by omega
  have hBW : Below w.heap.size w w1 := below_alloc_then _ hb1
  clear hb1
  go_wp2_with fail
  refine (H2.out _).mono ?_; rintro r w2 ⟨rfl, hb2⟩
  have hs2 := hb2.size
  simp at hs2
  have k2 : w.heap.size < w2.heap.size := by omega
  obtain ⟨hc2, hf2⟩ := bcell hb2
  have hBW2 : Below w.heap.size w w2 := (hBW.alloc (by omega) _).trans (hb2.mono (by simp; omega))
  clear hb2
  go_wp2
  refine bodyPost_ret (results_tmp2 (fn := Try.f68) (t := 8) (u := 9) rfl _ _ _) rfl ⟨by rw [HQ.out]; rfl, ?_⟩
  first | exact hBW2 | exact hBW2.alloc (by omega) _
set_option maxRecDepth 100000 in
set_option maxHeartbeats 1000000 in
theorem refParent_none {L : List Nat} (t : TreeV) (total : Nat) (k : Nat) (at_ : Nat) {z0 : Int} {z1 z2 z3 : Int} {z4 : Bool} (H1 : Hid (∀ w, Calls Try.prog 69 #[t.val, .int .u64 total, .int .i64 k, .int .u64 at_] w fun r w' => r = .returned (.tuple #[.agg #[.int .i64 z0, .int .u64 z1, .int .u64 z2, .int .u64 z3, .bool z4, .bool false], .int .i64 0]) ∧ Below w.heap.size w w')) (HR : Hid (∀ w, Calls Try.prog 95 #[t.val, .int .u64 total] w fun e w' => ∃ v, e = .returned (.tuple #[v, .int .i64 0]) ∧ w'.ownsRow w.heap.size 27 1 v L.length (L.map encU) ∧ Below w.heap.size w w')) (hk : k + 1 < L.length) (hk2 : L.length ≤ 255) (h1 : ((nth L (k + 1) : Int) == 1) = true) (w : World) :
    Calls Try.prog 70 #[t.val, .int .u64 total, .int .i64 k, .int .u64 at_] w fun r w' => r = .returned (.tuple #[.int .u64 0, .int .i64 0]) ∧ Below w.heap.size w w' := by
  unfold TreeV.val at *
  go_enter Try.func70, Try.ntmps70
  go_wp2_with fail
  refine (H1.out _).mono ?_; rintro r w1 ⟨rfl, hb1⟩
  obtain ⟨hc, hf1⟩ := bcell hb1
  have hs1 := hb1.size
  simp at hs1
  have k0 : w.heap.size < w1.heap.size := by omega
  have hBW : Below w.heap.size w w1 := below_alloc_then _ hb1
  clear hb1
  go_wp2_with fail
  refine (HR.out _).mono ?_; rintro r w2 ⟨v, rfl, hown, hb2⟩
  obtain ⟨g, cap, rfl, -, hg1, hg2, hcell⟩ := ownsRow_cells hown (by omega)
  clear hown
  have hx := hcell (k + 1) (by omega)
  clear hcell
  have hs2 := hb2.size
  simp at hs2
  have k2 : w.heap.size < w2.heap.size := by omega
  obtain ⟨hc2, hf2⟩ := bcell hb2
  have hBW2 : Below w.heap.size w w2 := (hBW.alloc (by omega) _).trans (hb2.mono (by simp; omega))
  clear hb2
  go_wp2
  refine bodyPost_ret (results_tmp2 (fn := Try.f70) (t := 8) (u := 9) rfl _ _ _) rfl ⟨rfl, ?_⟩
  first | exact hBW2 | exact hBW2.alloc (by omega) _
set_option maxRecDepth 100000 in
set_option maxHeartbeats 1000000 in
theorem refParent_ok {L : List Nat} (t : TreeV) (total : Nat) (k : Nat) (at_ : Nat) {z0 : Int} {z1 z2 z3 : Int} {z4 : Bool} (H1 : Hid (∀ w, Calls Try.prog 69 #[t.val, .int .u64 total, .int .i64 k, .int .u64 at_] w fun r w' => r = .returned (.tuple #[.agg #[.int .i64 z0, .int .u64 z1, .int .u64 z2, .int .u64 z3, .bool z4, .bool false], .int .i64 0]) ∧ Below w.heap.size w w')) (HR : Hid (∀ w, Calls Try.prog 95 #[t.val, .int .u64 total] w fun e w' => ∃ v, e = .returned (.tuple #[v, .int .i64 0]) ∧ w'.ownsRow w.heap.size 27 1 v L.length (L.map encU) ∧ Below w.heap.size w w')) (hk : k + 1 < L.length) (hk2 : L.length ≤ 255) (h1 : ((nth L (k + 1) : Int) == 1) = false) (hf : 2 ≤ t.f ∧ t.f ≤ 255) (ha : (at_ : Int) ≤ 18446744073709551615) (w : World) :
    Calls Try.prog 70 #[t.val, .int .u64 total, .int .i64 k, .int .u64 at_] w fun r w' => r = .returned (.tuple #[.int .u64 (at_ / t.fn : Nat), .int .i64 0]) ∧ Below w.heap.size w w' := by
  have hd0 : (t.f == 0) = false := by rw [beq_eq_false_iff_ne]; omega
  have hfn : t.f = (t.fn : Int) := by unfold TreeV.fn; omega
  have hq : ((at_ / t.fn : Nat) : Int) = (at_ : Int) / t.f := by rw [hfn]; exact Int.natCast_ediv at_ t.fn
  have hq2 := Nat.div_le_self at_ t.fn
  have e3 : (at_ : Int) / t.f ≤ 18446744073709551615 := by rw [← hq]; omega
  have e4 : 0 ≤ (at_ : Int) / t.f := by rw [← hq]; exact Int.natCast_nonneg _
  have HQ := Lib.hid hq
  clear hq hfn hq2
  unfold TreeV.val at *
  go_enter Try.func70, Try.ntmps70
  go_wp2_with fail
  refine (H1.out _).mono ?_; rintro r w1 ⟨rfl, hb1⟩
  obtain ⟨hc, hf1⟩ := bcell hb1
  have hs1 := hb1.size
  simp at hs1
  have k0 : w.heap.size < w1.heap.size := by omega
  have hBW : Below w.heap.size w w1 := below_alloc_then _ hb1
  clear hb1
  go_wp2_with fail
  refine (HR.out _).mono ?_; rintro r w2 ⟨v, rfl, hown, hb2⟩
  obtain ⟨g, cap, rfl, -, hg1, hg2, hcell⟩ := ownsRow_cells hown (by omega)
  clear hown
  have hx := hcell (k + 1) (by omega)
  clear hcell
  have hs2 := hb2.size
  simp at hs2
  have k2 : w.heap.size < w2.heap.size := by omega
  obtain ⟨hc2, hf2⟩ := bcell hb2
  have hBW2 : Below w.heap.size w w2 := (hBW.alloc (by omega) _).trans (hb2.mono (by simp; omega))
  clear hb2
  go_wp2
  refine bodyPost_ret (results_tmp2 (fn := Try.f70) (t := 8) (u := 9) rfl _ _ _) rfl ⟨by rw [HQ.out]; rfl, ?_⟩
  first | exact hBW2 | exact hBW2.alloc (by omega) _
end Go.Proofs.Ytkmgkeodmkfnpaa
