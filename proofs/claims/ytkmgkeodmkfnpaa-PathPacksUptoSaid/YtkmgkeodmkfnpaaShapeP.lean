/- A node's place, by the reference. No condition. -/
import Derived.Test.YtkmgkeodmkfnpaaShapeM
namespace Go.Proofs.Ytkmgkeodmkfnpaa
open Go.ChangeShapes Go.WideShapes Go.ChangeAt Go.RowKit Go.Joins Go.Shelf Go.Maps
attribute [local go_sem] Oper.semAt_some

theorem spot_results2 {P : Program} {fn : Func} {tmps : Array Value} {W : World} {b : Nat} {v0 v1 v2 v3 v4 v5 e : Value} {T : TypeId} {fr : Nat × Nat}
    (hr : fn.results = #[.cell 8 87, .tmp 9]) (h8 : tmps[8]?.getD undef = .pointer (some ⟨b, 0, none⟩)) (h9 : tmps[9]?.getD undef = e)
    (hb : W.heap[b]? = some (Obj.cells #[v0, v1, v2, v3, v4, v5] T fr)) (hP : P = Try.prog) :
    (results fn tmps).run P W = .ok (.tuple #[.agg #[v0, v1, v2, v3, v4, v5], e]) W := by
  subst hP
  have c0 := cell_of_heap hb 0
  have c1 := cell_of_heap hb 1
  have c2 := cell_of_heap hb 2
  have c3 := cell_of_heap hb 3
  have c4 := cell_of_heap hb 4
  have c5 := cell_of_heap hb 5
  simp only [List.getElem?_toArray, List.getElem?_cons_zero, List.getElem?_cons_succ] at c0 c1 c2 c3 c4 c5
  simp [results, hr, h8, h9, go_sem, c0, c1, c2, c3, c4, c5]
/-- A node's place and the error. -/
def TreeV.spotR (t : TreeV) (total : Nat) (row : Int) (at_ : Nat) : SpotV := if t.err total = 0 ∧ t.there total row at_ then t.spot total row.toNat at_ else SpotV.zero
def TreeV.spotE (t : TreeV) (total : Nat) (row : Int) (at_ : Nat) : Int := if t.err total ≠ 0 then t.err total else if t.there total row at_ then 0 else 6
set_option maxRecDepth 100000 in
theorem refSpot_err (t : TreeV) (hl : 0 ≤ t.l ∧ t.l ≤ 4294967295) (total : Nat) (ht : (total : Int) ≤ 18446744073709551615) (h : t.err total ≠ 0) (row : Int) (at_ : Nat) (w : World) :
    Calls Try.prog 69 #[t.val, .int .u64 total, .int .i64 row, .int .u64 at_] w fun e w' => e = .returned (.tuple #[SpotV.zero.val, .int .i64 (t.err total)]) ∧ Below w.heap.size w w' := by
  have e1 : (t.err total != 0) = true := by rw [bne_iff_ne]; exact h
  have H := Lib.hid h
  clear h
  unfold TreeV.val
  go_enter Try.func69, Try.ntmps69
  go_wp2_with fail
  refine (refRows_err t hl total ht H.out _).mono ?_; rintro e w1 ⟨rfl, hb1⟩
  obtain ⟨hc, hf⟩ := bcell hb1
  have hs1 := hb1.size
  simp at hs1
  have k0 : w.heap.size < w1.heap.size := by omega
  have k1 : w.heap.size + 1 < w1.heap.size := by omega
  have b1 : w1.heap[w.heap.size + 1]? = some (Obj.cells #[.int .i64 0, .int .u64 0, .int .u64 0, .int .u64 0, .bool false, .bool false] 87 (0, 0)) := by
    rw [hb1.block _ (by simp)]
    exact World.alloc_heap_new_at _ _ (by simp)
  have B1 := Lib.hid b1
  clear b1
  go_wp2
  refine bodyPost_ret (spot_results2 rfl rfl rfl (b := w.heap.size + 1) (T := 87) (fr := (0, 0)) (block_set6 B1.out _ _ _ _ _ _) rfl) rfl ⟨rfl, below_set6 (below_alloc_then _ (Below.trans ((Below.refl _ _).alloc (Nat.le_refl _) _) (hb1.mono (by simp)))) (by omega) _ _ _ _ _ _⟩
set_option maxHeartbeats 1000000 in
set_option maxRecDepth 100000 in
theorem refSpot_no' {L : List Nat} (t : TreeV) (total : Nat) (hN0 : 1 ≤ L.length)
    (HR : Hid (∀ w, Calls Try.prog 95 #[t.val, .int .u64 total] w fun e w' => ∃ v, e = .returned (.tuple #[v, .int .i64 0]) ∧ w'.ownsRow w.heap.size 27 1 v L.length (L.map encU) ∧ Below w.heap.size w w'))
    (HLe : Hid (∀ k, k < L.length → (nth L k : Int) ≤ 18446744073709551615)) (row : Int) (at_ : Nat) (HT : Hid (¬ (0 ≤ row ∧ row.toNat < L.length ∧ at_ < nth L row.toNat))) (w : World) :
    Calls Try.prog 69 #[t.val, .int .u64 total, .int .i64 row, .int .u64 at_] w fun e w' => e = .returned (.tuple #[SpotV.zero.val, .int .i64 6]) ∧ Below w.heap.size w w' := by
  unfold TreeV.val
  go_enter Try.func69, Try.ntmps69
  go_wp2_with fail
  refine (HR.out _).mono ?_; rintro e w1 ⟨v, rfl, hown, hb1⟩
  obtain ⟨g, cap, rfl, -, hg1, hg2, hcell⟩ := ownsRow_cells hown hN0
  clear hown
  have HCL := Lib.hid hcell
  clear hcell
  obtain ⟨hc, hf⟩ := bcell hb1
  have hs1 := hb1.size
  simp at hs1
  have k0 : w.heap.size < w1.heap.size := by omega
  have k1 : w.heap.size + 1 < w1.heap.size := by omega
  have b1 : w1.heap[w.heap.size + 1]? = some (Obj.cells #[.int .i64 0, .int .u64 0, .int .u64 0, .int .u64 0, .bool false, .bool false] 87 (0, 0)) := by
    rw [hb1.block _ (by simp)]
    exact World.alloc_heap_new_at _ _ (by simp)
  have B1 := Lib.hid b1
  have hBW : Below w.heap.size w w1 := below_alloc_then _ (Below.trans ((Below.refl _ _).alloc (Nat.le_refl _) _) (hb1.mono (by simp)))
  clear b1 hb1
  by_cases hA : row < 0
  · go_wp2
    refine bodyPost_ret (spot_results2 rfl rfl rfl (b := w.heap.size + 1) (T := 87) (fr := (0, 0)) (block_set6 B1.out _ _ _ _ _ _) rfl) rfl ⟨rfl, below_set6 hBW (by omega) _ _ _ _ _ _⟩
  · by_cases hA2 : (L.length : Int) ≤ row
    · go_wp2
      refine bodyPost_ret (spot_results2 rfl rfl rfl (b := w.heap.size + 1) (T := 87) (fr := (0, 0)) (block_set6 B1.out _ _ _ _ _ _) rfl) rfl ⟨rfl, below_set6 hBW (by omega) _ _ _ _ _ _⟩
    · obtain ⟨k, rfl⟩ : ∃ k : Nat, row = k := ⟨row.toNat, by omega⟩
      have hx := HCL.out k (by omega)
      have hx2 := HLe.out k (by omega)
      have q1 : ((nth L k : Int) ≤ (at_ : Int)) := by
        have := HT.out
        rw [Int.toNat_natCast] at this
        omega
      go_wp2
      refine bodyPost_ret (spot_results2 rfl rfl rfl (b := w.heap.size + 1) (T := 87) (fr := (0, 0)) (block_set6 B1.out _ _ _ _ _ _) rfl) rfl ⟨rfl, below_set6 hBW (by omega) _ _ _ _ _ _⟩
end Go.Proofs.Ytkmgkeodmkfnpaa
