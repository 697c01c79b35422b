/- The way of a leaf where there is none; the number of digests of a path. No condition. -/
import Derived.Test.YtkmgkeodmkfnpaaWayC
import Derived.BigQuiet
import Derived.Deep.QuietTactic
namespace Go.Proofs.Ytkmgkeodmkfnpaa
open Go.ChangeShapes Go.WideShapes Go.ChangeAt Go.RowKit Go.Joins Go.Shelf Go.Maps
attribute [local go_sem] Oper.semAt_some

set_option maxRecDepth 100000 in
theorem way_err (t : TreeV) (total leaf : Nat) {z0 z1 z2 z3 : Int} {z4 z5 : Bool} {e : Int}
    (HS : Hid (∀ w, Calls Try.prog 67 #[t.val, .int .u64 total, .int .i64 0, .int .u64 leaf] w fun r w' => r = .returned (.tuple #[.agg #[.int .i64 z0, .int .u64 z1, .int .u64 z2, .int .u64 z3, .bool z4, .bool z5], .int .i64 e]) ∧ Below w.heap.size w w')) (he : (e != 0) = true) (w : World) :
    Calls Try.prog 33 #[t.val, .int .u64 total, .int .u64 leaf] w fun r w' => r = .returned (.tuple #[.slice none 0 0, .int .i64 e]) ∧ Below w.heap.size w w' := by
  unfold TreeV.val at *
  go_enter Try.func33, Try.ntmps33
  go_wp2_with fail
  refine (HS.out _).mono ?_; rintro r w1 ⟨rfl, hb1⟩
  have hs1 := hb1.size
  simp at hs1
  have hB1 : Below w.heap.size w w1 := below_alloc_then _ hb1
  go_wp2
  refine bodyPost_ret (results_tmp2 (fn := Try.f33) (t := 6) (u := 7) rfl _ _ _) rfl ⟨rfl, ?_⟩
  first | exact hB1 | exact hB1.alloc (by omega) _
set_option maxRecDepth 100000 in
theorem refWay_err (t : TreeV) (total leaf : Nat) {z0 z1 z2 z3 : Int} {z4 z5 : Bool} {e : Int}
    (HS : Hid (∀ w, Calls Try.prog 69 #[t.val, .int .u64 total, .int .i64 0, .int .u64 leaf] w fun r w' => r = .returned (.tuple #[.agg #[.int .i64 z0, .int .u64 z1, .int .u64 z2, .int .u64 z3, .bool z4, .bool z5], .int .i64 e]) ∧ Below w.heap.size w w')) (he : (e != 0) = true) (w : World) :
    Calls Try.prog 34 #[t.val, .int .u64 total, .int .u64 leaf] w fun r w' => r = .returned (.tuple #[.slice none 0 0, .int .i64 e]) ∧ Below w.heap.size w w' := by
  unfold TreeV.val at *
  go_enter Try.func34, Try.ntmps34
  go_wp2_with fail
  refine (HS.out _).mono ?_; rintro r w1 ⟨rfl, hb1⟩
  have hs1 := hb1.size
  simp at hs1
  have hB1 : Below w.heap.size w w1 := below_alloc_then _ hb1
  go_wp2
  refine bodyPost_ret (results_tmp2 (fn := Try.f34) (t := 6) (u := 7) rfl _ _ _) rfl ⟨rfl, ?_⟩
  first | exact hB1 | exact hB1.alloc (by omega) _
theorem cellsL_length (s : SpotV) : s.cellsL.length = 6 := rfl
theorem stagesL_length (t : TreeV) (total leaf : Nat) : ∀ k, (stagesL t total leaf k).length = 7 * k
  | 0 => rfl
  | k + 1 => by
    have := stagesL_length t total leaf k
    simp only [stagesL, List.length_append, this, cellsL_length, List.length_cons, List.length_nil]; omega
theorem spotsL_length (t : TreeV) (total leaf : Nat) : ∀ k, (spotsL t total leaf k).length = 6 * k
  | 0 => rfl
  | k + 1 => by
    have := spotsL_length t total leaf k
    simp only [spotsL, List.length_append, this, cellsL_length]; omega
theorem stagesL_get (t : TreeV) (total leaf : Nat) : ∀ m i c, i < m → c < 6 → (stagesL t total leaf m)[7 * i + c]? = (wayS t total leaf (i + 1)).cellsL[c]?
  | m + 1, i, c, h, hc => by
    have hl := stagesL_length t total leaf m
    show (stagesL t total leaf m ++ _)[7 * i + c]? = _
    by_cases he : i = m
    · subst he
      rw [List.getElem?_append_right (by omega), hl, show 7 * i + c - 7 * i = c by omega, List.getElem?_append_left (by rw [cellsL_length]; exact hc)]
    · rw [List.getElem?_append_left (by omega)]
      exact stagesL_get t total leaf m i c (by omega) hc
theorem spotsL_get (t : TreeV) (total leaf : Nat) : ∀ m i c, i < m → c < 6 → (spotsL t total leaf m)[6 * i + c]? = (wayS t total leaf i).cellsL[c]?
  | m + 1, i, c, h, hc => by
    have hl := spotsL_length t total leaf m
    show (spotsL t total leaf m ++ _)[6 * i + c]? = _
    by_cases he : i = m
    · subst he
      rw [List.getElem?_append_right (by omega), hl, show 6 * i + c - 6 * i = c by omega]
    · rw [List.getElem?_append_left (by omega)]
      exact spotsL_get t total leaf m i c (by omega) hc
theorem stagesL_get6 (t : TreeV) (total leaf : Nat) : ∀ m i, i < m → (stagesL t total leaf m)[7 * i + 6]? = some (.int .u64 ((wayA t.fn (t.rowsOf total) leaf i : Int) - ((wayS t total leaf (i + 1)).frm : Int)))
  | m + 1, i, h => by
    have hl := stagesL_length t total leaf m
    show (stagesL t total leaf m ++ _)[7 * i + 6]? = _
    by_cases he : i = m
    · subst he
      rw [List.getElem?_append_right (by omega), hl, show 7 * i + 6 - 7 * i = 6 by omega, List.getElem?_append_right (by rw [cellsL_length]; omega), cellsL_length]
      rfl
    · rw [List.getElem?_append_left (by omega)]
      exact stagesL_get6 t total leaf m i (by omega)
/-- How many digests the first k steps of a path have. -/
def sizeW (t : TreeV) (total leaf : Nat) : Nat → Int
  | 0 => 0
  | k + 1 => IntKind.u64.wrap (sizeW t total leaf k + (((wayS t total leaf (k + 1)).to_ : Int) - ((wayS t total leaf (k + 1)).frm : Int) - 1))
set_option maxRecDepth 100000 in
set_option maxHeartbeats 800000 in
theorem refSize_ok (t : TreeV) (total leaf : Nat) {n : Nat} (hn : 2 ≤ n) (hn2 : n ≤ 255)
    (HW : Hid (∀ w, Calls Try.prog 34 #[t.val, .int .u64 total, .int .u64 leaf] w fun e w' => ∃ v, e = .returned (.tuple #[v, .int .i64 0]) ∧ w'.ownsRow w.heap.size 87 6 v n (spotsL t total leaf n) ∧ Below w.heap.size w w'))
    (HF : Hid (∀ k, 1 ≤ k → k < n → ((wayS t total leaf k).frm : Int) + 1 ≤ ((wayS t total leaf k).to_ : Int) ∧ ((wayS t total leaf k).to_ : Int) ≤ 18446744073709551615)) (w : World) :
    Calls Try.prog 8 #[t.val, .int .u64 total, .int .u64 leaf] w fun e w' => e = .returned (.tuple #[.int .u64 (sizeW t total leaf (n - 1)), .int .i64 0]) ∧ Below w.heap.size w w' := by
  unfold TreeV.val at *
  go_enter Try.func8, Try.ntmps8
  go_wp2_with fail
  refine (HW.out _).mono ?_; rintro r w1 ⟨v, rfl, hown, hb1⟩
  obtain ⟨g, cap, rfl⟩ := ownsRow_form hown (by omega)
  have hg := (hown.lt g (by simp [Value.ownBlock])).2
  have hB1 : Below w.heap.size w w1 := below_alloc_then _ hb1
  go_wp2_with fail
  have HO := Lib.hid hown
  clear hown
  have hs1 := hb1.size
  simp at hs1
  go_loopw [10, 11] (fun s i wr => ∃ j : Nat, j + 1 ≤ n ∧ s = .int .u64 (sizeW t total leaf j) ∧ i = .int .i64 ((j : Int) + 1) ∧ Below w1.heap.size w1 wr) (fun _ i _ => n - (intOf i).toNat)
  case atStart => exact ⟨0, by omega, rfl, rfl, Below.refl _ _⟩
  case round =>
    obtain ⟨j, hj, rfl, rfl, hb⟩ := hrel
    by_cases hlt : j + 1 < n
    · have e3 : wr.cell? ⟨g, 6 * (j + 1) + 3, none⟩ = some (.int .u64 (wayS t total leaf (j + 1)).to_) := (hb.cell (p := ⟨g, 6 * (j + 1) + 3, none⟩) hg).trans ((HO.out.cellAt (6 * (j + 1) + 3) (by omega)).trans (spotsL_get t total leaf n (j + 1) 3 hlt (by omega)))
      have e2 : wr.cell? ⟨g, 6 * (j + 1) + 2, none⟩ = some (.int .u64 (wayS t total leaf (j + 1)).frm) := (hb.cell (p := ⟨g, 6 * (j + 1) + 2, none⟩) hg).trans ((HO.out.cellAt (6 * (j + 1) + 2) (by omega)).trans (spotsL_get t total leaf n (j + 1) 2 hlt (by omega)))
      obtain ⟨f1, f2⟩ := HF.out (j + 1) (by omega) hlt
      have e3' : wr.cell? ⟨g, (j + 1) * 6 + 3, none⟩ = some (.int .u64 (wayS t total leaf (j + 1)).to_) := by rw [show (j + 1) * 6 + 3 = 6 * (j + 1) + 3 by omega]; exact e3
      have e2' : wr.cell? ⟨g, (j + 1) * 6 + 2, none⟩ = some (.int .u64 (wayS t total leaf (j + 1)).frm) := by rw [show (j + 1) * 6 + 2 = 6 * (j + 1) + 2 by omega]; exact e2
      go_wp2
      go_quiet (fail)
      go_wp2
      exact ⟨⟨j + 1, by omega, rfl, by simp, hb.trans (below_draws _ _ _)⟩, by simp [intOf]; omega⟩
    · go_wp2
      refine bodyPost_ret (results_tmp2 (fn := Try.f8) (t := 6) (u := 7) rfl _ _ _) rfl ⟨by rw [show n - 1 = j by omega]; rfl, hB1.trans (hb.mono (by omega))⟩
set_option maxRecDepth 100000 in
set_option maxHeartbeats 800000 in
theorem size_ok (t : TreeV) (total leaf : Nat) {n : Nat} (hn : 2 ≤ n) (hn2 : n ≤ 255)
    (HW : Hid (∀ w, Calls Try.prog 33 #[t.val, .int .u64 total, .int .u64 leaf] w fun e w' => ∃ v, e = .returned (.tuple #[v, .int .i64 0]) ∧ w'.ownsRow w.heap.size 89 7 v (n - 1) (stagesL t total leaf (n - 1)) ∧ Below w.heap.size w w'))
    (HF : Hid (∀ k, 1 ≤ k → k < n → ((wayS t total leaf k).frm : Int) + 1 ≤ ((wayS t total leaf k).to_ : Int) ∧ ((wayS t total leaf k).to_ : Int) ≤ 18446744073709551615)) (w : World) :
    Calls Try.prog 7 #[t.val, .int .u64 total, .int .u64 leaf] w fun e w' => e = .returned (.tuple #[.int .u64 (sizeW t total leaf (n - 1)), .int .i64 0]) ∧ Below w.heap.size w w' := by
  obtain ⟨m, rfl⟩ : ∃ m, n = m + 1 := ⟨n - 1, by omega⟩
  rw [Nat.add_sub_cancel] at HW ⊢
  unfold TreeV.val at *
  go_enter Try.func7, Try.ntmps7
  go_wp2_with fail
  refine (HW.out _).mono ?_; rintro r w1 ⟨v, rfl, hown, hb1⟩
  obtain ⟨g, cap, rfl⟩ := ownsRow_form hown (by omega)
  have hg := (hown.lt g (by simp [Value.ownBlock])).2
  have hB1 : Below w.heap.size w w1 := below_alloc_then _ hb1
  have HO := Lib.hid hown
  clear hown
  have hs1 := hb1.size
  simp at hs1
  go_wp2_with fail
  go_loopw [10, 22] (fun s i wr => ∃ j : Nat, j ≤ m ∧ s = .int .u64 (sizeW t total leaf j) ∧ i = .int .i64 (j : Nat) ∧ Below w1.heap.size w1 wr) (fun _ i _ => m - (intOf i).toNat)
  case atStart => exact ⟨0, by omega, rfl, rfl, Below.refl _ _⟩
  case round =>
    obtain ⟨j, hj, rfl, rfl, hb⟩ := hrel
    by_cases hlt : j < m
    · obtain ⟨f1, f2⟩ := HF.out (j + 1) (by omega) (by omega)
      have hsr := hb.size
      have e0 : wr.cell? ⟨g, j * 7, none⟩ = some (.int .i64 (wayS t total leaf (j + 1)).row) := by rw [show j * 7 = 7 * j + 0 by omega]; exact (hb.cell (p := ⟨g, 7 * j + 0, none⟩) hg).trans ((HO.out.cellAt (7 * j + 0) (by omega)).trans (stagesL_get t total leaf m j 0 hlt (by omega)))
      have e1 : wr.cell? ⟨g, j * 7 + 1, none⟩ = some (.int .u64 (wayS t total leaf (j + 1)).at_) := by rw [show j * 7 + 1 = 7 * j + 1 by omega]; exact (hb.cell (p := ⟨g, 7 * j + 1, none⟩) hg).trans ((HO.out.cellAt (7 * j + 1) (by omega)).trans (stagesL_get t total leaf m j 1 hlt (by omega)))
      have e2 : wr.cell? ⟨g, j * 7 + 2, none⟩ = some (.int .u64 (wayS t total leaf (j + 1)).frm) := by rw [show j * 7 + 2 = 7 * j + 2 by omega]; exact (hb.cell (p := ⟨g, 7 * j + 2, none⟩) hg).trans ((HO.out.cellAt (7 * j + 2) (by omega)).trans (stagesL_get t total leaf m j 2 hlt (by omega)))
      have e3 : wr.cell? ⟨g, j * 7 + 3, none⟩ = some (.int .u64 (wayS t total leaf (j + 1)).to_) := by rw [show j * 7 + 3 = 7 * j + 3 by omega]; exact (hb.cell (p := ⟨g, 7 * j + 3, none⟩) hg).trans ((HO.out.cellAt (7 * j + 3) (by omega)).trans (stagesL_get t total leaf m j 3 hlt (by omega)))
      have e4 : wr.cell? ⟨g, j * 7 + 4, none⟩ = some (.bool (wayS t total leaf (j + 1)).last) := by rw [show j * 7 + 4 = 7 * j + 4 by omega]; exact (hb.cell (p := ⟨g, 7 * j + 4, none⟩) hg).trans ((HO.out.cellAt (7 * j + 4) (by omega)).trans (stagesL_get t total leaf m j 4 hlt (by omega)))
      have e5 : wr.cell? ⟨g, j * 7 + 5, none⟩ = some (.bool (wayS t total leaf (j + 1)).root) := by rw [show j * 7 + 5 = 7 * j + 5 by omega]; exact (hb.cell (p := ⟨g, 7 * j + 5, none⟩) hg).trans ((HO.out.cellAt (7 * j + 5) (by omega)).trans (stagesL_get t total leaf m j 5 hlt (by omega)))
      have e6 : wr.cell? ⟨g, j * 7 + 6, none⟩ = some (.int .u64 ((wayA t.fn (t.rowsOf total) leaf j : Int) - ((wayS t total leaf (j + 1)).frm : Int))) := by rw [show j * 7 + 6 = 7 * j + 6 by omega]; exact (hb.cell (p := ⟨g, 7 * j + 6, none⟩) hg).trans ((HO.out.cellAt (7 * j + 6) (by omega)).trans (stagesL_get6 t total leaf m j hlt))
      go_wp2
      exact ⟨⟨j + 1, by omega, rfl, by simp, hb.alloc (by omega) _⟩, by simp [intOf]; omega⟩
    · go_wp2
      refine bodyPost_ret (results_tmp2 (fn := Try.f7) (t := 6) (u := 7) rfl _ _ _) rfl ⟨by rw [show m = j by omega]; rfl, hB1.trans (hb.mono (by omega))⟩
set_option maxRecDepth 100000 in
theorem size_err (t : TreeV) (total leaf : Nat) {e : Int}
    (HW : Hid (∀ w, Calls Try.prog 33 #[t.val, .int .u64 total, .int .u64 leaf] w fun r w' => r = .returned (.tuple #[.slice none 0 0, .int .i64 e]) ∧ Below w.heap.size w w')) (w : World) :
    Calls Try.prog 7 #[t.val, .int .u64 total, .int .u64 leaf] w fun r w' => r = .returned (.tuple #[.int .u64 0, .int .i64 e]) ∧ Below w.heap.size w w' := by
  unfold TreeV.val at *
  go_enter Try.func7, Try.ntmps7
  go_wp2_with fail
  refine (HW.out _).mono ?_; rintro r w1 ⟨rfl, hb1⟩
  have hB1 : Below w.heap.size w w1 := below_alloc_then _ hb1
  go_wp2_with fail
  go_loopw [10, 22] (fun s i wr => s = .int .u64 0 ∧ i = .int .i64 0 ∧ w1 = wr) (fun _ _ _ => 0)
  case atStart => exact ⟨rfl, rfl, rfl⟩
  case round =>
    obtain ⟨rfl, rfl, rfl⟩ := hrel
    go_wp2
    exact bodyPost_ret (results_tmp2 (fn := Try.f7) (t := 6) (u := 7) rfl _ _ _) rfl ⟨rfl, hB1⟩
set_option maxRecDepth 100000 in
theorem refSize_err (t : TreeV) (total leaf : Nat) {e : Int}
    (HW : Hid (∀ w, Calls Try.prog 34 #[t.val, .int .u64 total, .int .u64 leaf] w fun r w' => r = .returned (.tuple #[.slice none 0 0, .int .i64 e]) ∧ Below w.heap.size w w')) (w : World) :
    Calls Try.prog 8 #[t.val, .int .u64 total, .int .u64 leaf] w fun r w' => r = .returned (.tuple #[.int .u64 0, .int .i64 e]) ∧ Below w.heap.size w w' := by
  unfold TreeV.val at *
  go_enter Try.func8, Try.ntmps8
  go_wp2_with fail
  refine (HW.out _).mono ?_; rintro r w1 ⟨rfl, hb1⟩
  have hB1 : Below w.heap.size w w1 := below_alloc_then _ hb1
  go_wp2_with fail
  go_loopw [10, 11] (fun s i wr => s = .int .u64 0 ∧ i = .int .i64 1 ∧ w1 = wr) (fun _ _ _ => 0)
  case atStart => exact ⟨rfl, rfl, rfl⟩
  case round =>
    obtain ⟨rfl, rfl, rfl⟩ := hrel
    go_wp2
    exact bodyPost_ret (results_tmp2 (fn := Try.f8) (t := 6) (u := 7) rfl _ _ _) rfl ⟨rfl, hB1⟩
end Go.Proofs.Ytkmgkeodmkfnpaa
