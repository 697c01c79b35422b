/- The walk of ShapeTiles. No condition. -/
import Derived.Test.YtcjmjmmajckjhaaShapeU
import Derived.Test.YtcjmjmmajckjhaaTail
import Derived.BigQuiet
namespace Go.Proofs.Ytcjmjmmajckjhaa
open Go.ChangeShapes Go.WideShapes Go.ChangeAt Go.RowKit Go.Joins Go.Shelf Go.Maps
attribute [local go_sem] Oper.semAt_some

set_option maxRecDepth 100000 in
set_option maxHeartbeats 1000000 in
theorem tiles_0 {L : List Nat} {m : Nat} (t : TreeV) (total near A F T : Nat) (row : Int) (la ro bA bT : Bool) 
    (ht : (total : Int) ≤ 65535) (hn : (near : Int) ≤ 65535)
    (HR : Hid (∀ w, Calls Try.prog 36 #[t.val, .int .u64 total] w fun e w' => ∃ v, e = .returned (.tuple #[v, .int .i64 0]) ∧ w'.ownsRow w.heap.size 33 1 v (m + 2) (L.map encU) ∧ Below w.heap.size w w'))
    (HRest : Hid (∀ w, Calls Try.prog 46 #[.int .i64 row, .int .i64 ((m : Int) + 2)] w fun e w' => e = .returned (.int .i64 0) ∧ w = w'))
    (HS : Hid (∀ w, Calls Try.prog 42 #[t.val, .int .u64 total, .int .i64 0, .int .u64 A] w fun r w' => r = .returned (.tuple #[.agg #[.int .i64 0, .int .u64 A, .int .u64 F, .int .u64 T, .bool la, .bool ro], .int .i64 0]) ∧ Below w.heap.size w w'))
    (HH : Hid (∀ w, Calls Try.prog 47 #[t.val, .int .u64 total, .agg #[.int .i64 0, .int .u64 A, .int .u64 F, .int .u64 T, .bool la, .bool ro]] w fun r w' => r = .returned (.bool true) ∧ Below w.heap.size w w'))
    (HN : Hid (la = false → ∃ (v0 v1 v3 : Int) (v4 v5 : Bool), ∀ w, Calls Try.prog 42 #[t.val, .int .u64 total, .int .i64 0, .int .u64 ((A : Int) + 1)] w fun r w' => r = .returned (.tuple #[.agg #[.int .i64 v0, .int .u64 v1, .int .u64 T, .int .u64 v3, .bool v4, .bool v5], .int .i64 0]) ∧ Below w.heap.size w w'))
    (HA : Hid ((A : Int) = (near : Int) % (nth L 0 : Int))) (HX : Hid (nth L (m + 1) = 1)) (hp : (m : Int) + 2 ≤ t.p) (hm : (m : Int) ≤ 253)
    (h1 : 1 ≤ (nth L 0 : Int)) (h2 : (nth L 0 : Int) ≤ 18446744073709551615) (hA2 : (A : Int) < (nth L 0 : Int)) (hT : (T : Int) ≤ 18446744073709551615) (hFT : (F : Int) ≤ T)
    (hl0 : 0 ≤ t.l) (hlb : t.l ≤ 4294967295) (hf0 : 0 ≤ t.f) (hfb : t.f ≤ 255)
    (q0 : ((nth L 0 : Int) == 0) = false) (q1 : ((A : Int) == (nth L 0 : Int) - 1) = la) (q2 : (0 == (m : Int) + 1) = ro) (qA : ((A : Int) == 0) = bA) (qT : ((T : Int) == (F : Int)) = bT)
    (HC : Hid ((bA = true ∧ bT = true ∧ la = true) ∨ (bA = true ∧ bT = false ∧ la = true) ∨ (bA = true ∧ bT = false ∧ la = false) ∨ (bA = false ∧ bT = false ∧ la = true) ∨ (bA = false ∧ bT = false ∧ la = false)))
    (QF : Hid (bA = true → ((F : Int) != 0) = false)) (QT : Hid (bT = true → (0 < total) = False)) (NT : Hid ((T < F) = False)) (QL : Hid (la = true → ((T : Int) != (total : Int)) = false)) (QB : Hid (la = false → ((T : Int) - (F : Int) == t.l) = true)) (w : World) :
    Calls Try.prog 13 #[t.val, .int .u16 total, .int .i64 row, .int .u16 near] w (Trues w) := by
  unfold TreeV.val at *
  go_enter Try.func13, Try.ntmps13
  go_wp2_with fail
  refine (awake_any _).mono ?_; rintro e w0 ⟨rfl, hb0⟩
  obtain ⟨hc0, -⟩ := bcell hb0
  have hs0 := hb0.size
  simp at hs0
  have k0 : w.heap.size < w0.heap.size := by omega
  have hB0 : Below w.heap.size w w0 := below_alloc_then _ hb0
  clear hb0
  go_wp2_with fail
  refine (HR.out _).mono ?_; rintro e w1 ⟨v, rfl, hown, hb1⟩
  obtain ⟨g, cap, rfl, -, hg1, hg2, hcell⟩ := ownsRow_cells hown (by omega)
  clear hown
  have hs1 := hb1.size
  have k1 : w.heap.size < w1.heap.size := by omega
  have hB1 : Below w.heap.size w w1 := hB0.trans (hb1.mono (by omega))
  obtain ⟨hc1, -⟩ := bcell hb1
  clear hb1
  have hk := hcell 0 (by omega)
  have hx := hcell (m + 1) (by omega)
  rw [HX.out] at hx
  clear hcell
  go_wp2_with fail
  refine (HRest.out _).mono ?_; rintro e w2 ⟨rfl, rfl⟩
  go_wp2_with fail
  rw [← HA.out]
  refine (HS.out _).mono ?_; rintro e w3 ⟨rfl, hb3⟩
  have hs3 := hb3.size
  have k3 : w.heap.size < w3.heap.size := by omega
  have g3 : g < w3.heap.size := by omega
  have hB3 : Below w.heap.size w w3 := hB1.trans (hb3.mono (by omega))
  obtain ⟨hc3, -⟩ := bcell hb3
  clear hb3
  go_wp2_with fail
  refine region_tail 40 (by kernel_rfl) (by kernel_rfl) ?_
  intro W hcW hfW hbW
  simp only [List.take_succ_cons, List.take_zero, List.drop_succ_cons, List.drop_zero]
  have ix0 : (0 : Int) < (m : Int) + 2 := by omega
  have ix1 : (0 : Int) ≤ 0 := by omega
  have ix2 : 0 < (m : Int) + 2 := by omega
  have iw1 : IntKind.u64.wrap ((nth L 0 : Int) - 1) = (nth L 0 : Int) - 1 := by rw [wrap_u64]; omega
  have iw2 : IntKind.i64.wrap ((m : Int) + 2 - 1) = (m : Int) + 1 := by simp [IntKind.wrap, IntKind.bits, IntKind.signed]; omega
  repeat still_step
  refine wpStill_nil ?_
  go_wp2_with fail
  refine (HH.out _).mono ?_; rintro e w4 ⟨rfl, hb4⟩
  have hsW := hbW.size
  simp at hsW
  have hs4 := hb4.size
  have k4 : w.heap.size < w4.heap.size := by omega
  have m4 : w3.heap.size < w4.heap.size := by omega
  have g4 : g < w4.heap.size := by omega
  have kW : w.heap.size < W.heap.size := by omega
  have mW : w3.heap.size < W.heap.size := by omega
  have gW : g < W.heap.size := by omega
  have hB4 : Below w.heap.size w w4 := ((hB3.alloc (by omega) _).trans (hbW.mono (by simp; omega))).trans (hb4.mono (by omega))
  obtain ⟨hc4, -⟩ := bcell hb4
  clear hb4 hbW
  rcases HC.out with ⟨rfl, rfl, rfl⟩ | ⟨rfl, rfl, rfl⟩ | ⟨rfl, rfl, rfl⟩ | ⟨rfl, rfl, rfl⟩ | ⟨rfl, rfl, rfl⟩
  · have qf := QF.out rfl
    have qt := QT.out rfl
    have nt := NT.out
    have ql := QL.out rfl
    go_wp2_with fail
    go_ret
    exact ⟨rfl, hB4⟩
  · have qf := QF.out rfl
    have nt := NT.out
    have ql := QL.out rfl
    go_wp2_with fail
    go_ret
    exact ⟨rfl, hB4⟩
  · have qf := QF.out rfl
    have nt := NT.out
    obtain ⟨v0, v1, v3, v4, v5, HN'⟩ := HN.out rfl
    have HN' := Lib.hid HN'
    have qb := QB.out rfl
    go_wp2_with fail
    refine (HN'.out _).mono ?_; rintro e w5 ⟨rfl, hb5⟩
    have hs5 := hb5.size
    have k5 : w.heap.size < w5.heap.size := by omega
    have m5 : w3.heap.size < w5.heap.size := by omega
    obtain ⟨hc5, -⟩ := bcell hb5
    have hB5 : Below w.heap.size w w5 := hB4.trans (hb5.mono (by omega))
    clear hb5
    go_wp2_with fail
    go_ret
    exact ⟨rfl, by first | exact hB5 | exact hB5.alloc (by omega) _ | exact (hB5.alloc (by omega) _).drew⟩
  · have nt := NT.out
    have ql := QL.out rfl
    go_wp2_with fail
    go_ret
    exact ⟨rfl, hB4⟩
  · have nt := NT.out
    obtain ⟨v0, v1, v3, v4, v5, HN'⟩ := HN.out rfl
    have HN' := Lib.hid HN'
    have qb := QB.out rfl
    go_wp2_with fail
    refine (HN'.out _).mono ?_; rintro e w5 ⟨rfl, hb5⟩
    have hs5 := hb5.size
    have k5 : w.heap.size < w5.heap.size := by omega
    have m5 : w3.heap.size < w5.heap.size := by omega
    obtain ⟨hc5, -⟩ := bcell hb5
    have hB5 : Below w.heap.size w w5 := hB4.trans (hb5.mono (by omega))
    clear hb5
    go_wp2_with fail
    go_ret
    exact ⟨rfl, by first | exact hB5 | exact hB5.alloc (by omega) _ | exact (hB5.alloc (by omega) _).drew⟩
set_option maxRecDepth 100000 in
set_option maxHeartbeats 1000000 in
theorem tiles_s {L : List Nat} {m : Nat} (t : TreeV) (total near A F T : Nat) (row : Int) (la ro bA bT : Bool) (j : Nat) (hj : j ≤ m) (hjb : (j : Int) ≤ 253)
    (ht : (total : Int) ≤ 65535) (hn : (near : Int) ≤ 65535)
    (HR : Hid (∀ w, Calls Try.prog 36 #[t.val, .int .u64 total] w fun e w' => ∃ v, e = .returned (.tuple #[v, .int .i64 0]) ∧ w'.ownsRow w.heap.size 33 1 v (m + 2) (L.map encU) ∧ Below w.heap.size w w'))
    (HRest : Hid (∀ w, Calls Try.prog 46 #[.int .i64 row, .int .i64 ((m : Int) + 2)] w fun e w' => e = .returned (.int .i64 ((j : Int) + 1)) ∧ w = w'))
    (HS : Hid (∀ w, Calls Try.prog 42 #[t.val, .int .u64 total, .int .i64 ((j : Int) + 1), .int .u64 A] w fun r w' => r = .returned (.tuple #[.agg #[.int .i64 ((j : Int) + 1), .int .u64 A, .int .u64 F, .int .u64 T, .bool la, .bool ro], .int .i64 0]) ∧ Below w.heap.size w w'))
    (HH : Hid (∀ w, Calls Try.prog 47 #[t.val, .int .u64 total, .agg #[.int .i64 ((j : Int) + 1), .int .u64 A, .int .u64 F, .int .u64 T, .bool la, .bool ro]] w fun r w' => r = .returned (.bool true) ∧ Below w.heap.size w w'))
    (HN : Hid (la = false → ∃ (v0 v1 v3 : Int) (v4 v5 : Bool), ∀ w, Calls Try.prog 42 #[t.val, .int .u64 total, .int .i64 ((j : Int) + 1), .int .u64 ((A : Int) + 1)] w fun r w' => r = .returned (.tuple #[.agg #[.int .i64 v0, .int .u64 v1, .int .u64 T, .int .u64 v3, .bool v4, .bool v5], .int .i64 0]) ∧ Below w.heap.size w w'))
    (HA : Hid ((A : Int) = (near : Int) % (nth L (j + 1) : Int))) (HX : Hid (nth L (m + 1) = 1)) (hp : (m : Int) + 2 ≤ t.p) (hm : (m : Int) ≤ 253)
    (h1 : 1 ≤ (nth L (j + 1) : Int)) (h2 : (nth L (j + 1) : Int) ≤ 18446744073709551615) (hA2 : (A : Int) < (nth L (j + 1) : Int)) (hT : (T : Int) ≤ 18446744073709551615) (hFT : (F : Int) ≤ T)
    (hl0 : 0 ≤ t.l) (hlb : t.l ≤ 4294967295) (hf0 : 0 ≤ t.f) (hfb : t.f ≤ 255)
    (q0 : ((nth L (j + 1) : Int) == 0) = false) (q1 : ((A : Int) == (nth L (j + 1) : Int) - 1) = la) (q2 : (((j : Int) + 1) == (m : Int) + 1) = ro) (qA : ((A : Int) == 0) = bA) (qT : ((T : Int) == (F : Int)) = bT)
    (HC : Hid ((bA = true ∧ bT = true ∧ la = true) ∨ (bA = true ∧ bT = false ∧ la = true) ∨ (bA = true ∧ bT = false ∧ la = false) ∨ (bA = false ∧ bT = false ∧ la = true) ∨ (bA = false ∧ bT = false ∧ la = false)))
    (QF : Hid (bA = true → ((F : Int) != 0) = false)) (QT : Hid (bT = true → (0 < total) = False)) (NT : Hid ((T < F) = False)) (QL : Hid (la = true → ((T : Int) != (nth L j : Int)) = false)) (QB : Hid (la = false → ((T : Int) - (F : Int) == t.f) = true)) (w : World) :
    Calls Try.prog 13 #[t.val, .int .u16 total, .int .i64 row, .int .u16 near] w (Trues w) := by
  unfold TreeV.val at *
  go_enter Try.func13, Try.ntmps13
  go_wp2_with fail
  refine (awake_any _).mono ?_; rintro e w0 ⟨rfl, hb0⟩
  obtain ⟨hc0, -⟩ := bcell hb0
  have hs0 := hb0.size
  simp at hs0
  have k0 : w.heap.size < w0.heap.size := by omega
  have hB0 : Below w.heap.size w w0 := below_alloc_then _ hb0
  clear hb0
  go_wp2_with fail
  refine (HR.out _).mono ?_; rintro e w1 ⟨v, rfl, hown, hb1⟩
  obtain ⟨g, cap, rfl, -, hg1, hg2, hcell⟩ := ownsRow_cells hown (by omega)
  clear hown
  have hs1 := hb1.size
  have k1 : w.heap.size < w1.heap.size := by omega
  have hB1 : Below w.heap.size w w1 := hB0.trans (hb1.mono (by omega))
  obtain ⟨hc1, -⟩ := bcell hb1
  clear hb1
  have hk := hcell (j + 1) (by omega)
  have hj := hcell j (by omega)
  have hx := hcell (m + 1) (by omega)
  rw [HX.out] at hx
  clear hcell
  go_wp2_with fail
  refine (HRest.out _).mono ?_; rintro e w2 ⟨rfl, rfl⟩
  go_wp2_with fail
  rw [← HA.out]
  refine (HS.out _).mono ?_; rintro e w3 ⟨rfl, hb3⟩
  have hs3 := hb3.size
  have k3 : w.heap.size < w3.heap.size := by omega
  have g3 : g < w3.heap.size := by omega
  have hB3 : Below w.heap.size w w3 := hB1.trans (hb3.mono (by omega))
  obtain ⟨hc3, -⟩ := bcell hb3
  clear hb3
  go_wp2_with fail
  refine region_tail 40 (by kernel_rfl) (by kernel_rfl) ?_
  intro W hcW hfW hbW
  simp only [List.take_succ_cons, List.take_zero, List.drop_succ_cons, List.drop_zero]
  have ix0 : (0 : Int) < (m : Int) + 2 := by omega
  have ix1 : (0 : Int) ≤ ((j : Int) + 1) := by omega
  have ix2 : ((j : Int) + 1) < (m : Int) + 2 := by omega
  have iw1 : IntKind.u64.wrap ((nth L (j + 1) : Int) - 1) = (nth L (j + 1) : Int) - 1 := by rw [wrap_u64]; omega
  have iw2 : IntKind.i64.wrap ((m : Int) + 2 - 1) = (m : Int) + 1 := by simp [IntKind.wrap, IntKind.bits, IntKind.signed]; omega
  repeat still_step
  refine wpStill_nil ?_
  go_wp2_with fail
  refine (HH.out _).mono ?_; rintro e w4 ⟨rfl, hb4⟩
  have hsW := hbW.size
  simp at hsW
  have hs4 := hb4.size
  have k4 : w.heap.size < w4.heap.size := by omega
  have m4 : w3.heap.size < w4.heap.size := by omega
  have g4 : g < w4.heap.size := by omega
  have kW : w.heap.size < W.heap.size := by omega
  have mW : w3.heap.size < W.heap.size := by omega
  have gW : g < W.heap.size := by omega
  have hB4 : Below w.heap.size w w4 := ((hB3.alloc (by omega) _).trans (hbW.mono (by simp; omega))).trans (hb4.mono (by omega))
  obtain ⟨hc4, -⟩ := bcell hb4
  clear hb4 hbW
  rcases HC.out with ⟨rfl, rfl, rfl⟩ | ⟨rfl, rfl, rfl⟩ | ⟨rfl, rfl, rfl⟩ | ⟨rfl, rfl, rfl⟩ | ⟨rfl, rfl, rfl⟩
  · have qf := QF.out rfl
    have qt := QT.out rfl
    have nt := NT.out
    have ql := QL.out rfl
    go_wp2_with fail
    go_ret
    exact ⟨rfl, hB4⟩
  · have qf := QF.out rfl
    have nt := NT.out
    have ql := QL.out rfl
    go_wp2_with fail
    go_ret
    exact ⟨rfl, hB4⟩
  · have qf := QF.out rfl
    have nt := NT.out
    obtain ⟨v0, v1, v3, v4, v5, HN'⟩ := HN.out rfl
    have HN' := Lib.hid HN'
    have qb := QB.out rfl
    go_wp2_with fail
    refine (HN'.out _).mono ?_; rintro e w5 ⟨rfl, hb5⟩
    have hs5 := hb5.size
    have k5 : w.heap.size < w5.heap.size := by omega
    have m5 : w3.heap.size < w5.heap.size := by omega
    obtain ⟨hc5, -⟩ := bcell hb5
    have hB5 : Below w.heap.size w w5 := hB4.trans (hb5.mono (by omega))
    clear hb5
    go_wp2_with fail
    go_ret
    exact ⟨rfl, by first | exact hB5 | exact hB5.alloc (by omega) _ | exact (hB5.alloc (by omega) _).drew⟩
  · have nt := NT.out
    have ql := QL.out rfl
    go_wp2_with fail
    go_ret
    exact ⟨rfl, hB4⟩
  · have nt := NT.out
    obtain ⟨v0, v1, v3, v4, v5, HN'⟩ := HN.out rfl
    have HN' := Lib.hid HN'
    have qb := QB.out rfl
    go_wp2_with fail
    refine (HN'.out _).mono ?_; rintro e w5 ⟨rfl, hb5⟩
    have hs5 := hb5.size
    have k5 : w.heap.size < w5.heap.size := by omega
    have m5 : w3.heap.size < w5.heap.size := by omega
    obtain ⟨hc5, -⟩ := bcell hb5
    have hB5 : Below w.heap.size w w5 := hB4.trans (hb5.mono (by omega))
    clear hb5
    go_wp2_with fail
    go_ret
    exact ⟨rfl, by first | exact hB5 | exact hB5.alloc (by omega) _ | exact (hB5.alloc (by omega) _).drew⟩
end Go.Proofs.Ytcjmjmmajckjhaa
