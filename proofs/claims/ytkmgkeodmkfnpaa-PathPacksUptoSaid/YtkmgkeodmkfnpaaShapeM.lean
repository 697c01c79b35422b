/- The walk of shape.Spot. No condition. -/
import Derived.Test.YtkmgkeodmkfnpaaShapeL
import Derived.BigQuiet
import Derived.Deep.QuietTactic
import Derived.WalkMore
import Derived.Scope
namespace Go.Proofs.Ytkmgkeodmkfnpaa
open Go.ChangeShapes Go.WideShapes Go.ChangeAt Go.RowKit Go.Joins Go.Shelf Go.Maps
attribute [local go_sem] Oper.semAt_some

theorem wpIn_scope_wide {n : Nat} {P : Program} {c : Code} {Q : Exit → Act → World → Prop} {a : Act} {w : World} (h : c.wpIn Fence.wide n P (Exit.noGoto Q) a w) : (Code.scope c).wpIn Fence.wide n P Q a w :=
  wpIn_wide.2 (wp_scope_straight (wpIn_wide.1 h))

theorem block_set6 {W : World} {b : Nat} {a0 a1 a2 a3 a4 a5 : Value} {T : TypeId} {fr : Nat × Nat} (h : W.heap[b]? = some (Obj.cells #[a0, a1, a2, a3, a4, a5] T fr)) (v0 v1 v2 v3 v4 v5 : Value) :
    ((((((W.setCell ⟨b, 0, none⟩ v0).setCell ⟨b, 1, none⟩ v1).setCell ⟨b, 2, none⟩ v2).setCell ⟨b, 3, none⟩ v3).setCell ⟨b, 4, none⟩ v4).setCell ⟨b, 5, none⟩ v5).heap[b]? = some (Obj.cells #[v0, v1, v2, v3, v4, v5] T fr) :=
  block_setCell (block_setCell (block_setCell (block_setCell (block_setCell (block_setCell h v0) v1) v2) v3) v4) v5
theorem other_set6 {W : World} {b c : Nat} (h : c ≠ b) (v0 v1 v2 v3 v4 v5 : Value) :
    ((((((W.setCell ⟨b, 0, none⟩ v0).setCell ⟨b, 1, none⟩ v1).setCell ⟨b, 2, none⟩ v2).setCell ⟨b, 3, none⟩ v3).setCell ⟨b, 4, none⟩ v4).setCell ⟨b, 5, none⟩ v5).heap[c]? = W.heap[c]? :=
  (Below.heap_setCell _ _ _ _ h).trans ((Below.heap_setCell _ _ _ _ h).trans ((Below.heap_setCell _ _ _ _ h).trans ((Below.heap_setCell _ _ _ _ h).trans ((Below.heap_setCell _ _ _ _ h).trans (Below.heap_setCell _ _ _ _ h)))))
theorem below_set6 {B : Nat} {a W : World} (h : Below B a W) {b : Nat} (hb : B ≤ b) (v0 v1 v2 v3 v4 v5 : Value) :
    Below B a ((((((W.setCell ⟨b, 0, none⟩ v0).setCell ⟨b, 1, none⟩ v1).setCell ⟨b, 2, none⟩ v2).setCell ⟨b, 3, none⟩ v3).setCell ⟨b, 4, none⟩ v4).setCell ⟨b, 5, none⟩ v5) :=
  (((((h.setCell (p := ⟨b, 0, none⟩) hb v0).setCell (p := ⟨b, 1, none⟩) hb v1).setCell (p := ⟨b, 2, none⟩) hb v2).setCell (p := ⟨b, 3, none⟩) hb v3).setCell (p := ⟨b, 4, none⟩) hb v4).setCell (p := ⟨b, 5, none⟩) hb v5
theorem World.alloc_heap_new_at (w : World) (o : Obj) {n : Nat} (hn : n = w.heap.size) : (w.alloc o).heap[n]? = some o := by subst hn; exact World.alloc_heap_new w o
/-- What a function with a place and an error as its results hands back, out of their two blocks. -/
theorem spot_results {P : Program} {fn : Func} {tmps : Array Value} {W : World} {b c : Nat} {v0 v1 v2 v3 v4 v5 e : Value} {T T' : TypeId} {fr fr' : Nat × Nat}
    (hr : fn.results = #[.cell 8 87, .cell 9 28]) (h8 : tmps[8]?.getD undef = .pointer (some ⟨b, 0, none⟩)) (h9 : tmps[9]?.getD undef = .pointer (some ⟨c, 0, none⟩))
    (hb : W.heap[b]? = some (Obj.cells #[v0, v1, v2, v3, v4, v5] T fr)) (hc : W.heap[c]? = some (Obj.cells #[e] T' fr')) (hP : P = Try.prog) :
    (results fn tmps).run P W = .ok (.tuple #[.agg #[v0, v1, v2, v3, v4, v5], e]) W := by
  subst hP
  have c0 := cell_of_heap hb 0
  have c1 := cell_of_heap hb 1
  have c2 := cell_of_heap hb 2
  have c3 := cell_of_heap hb 3
  have c4 := cell_of_heap hb 4
  have c5 := cell_of_heap hb 5
  have d0 := cell_of_heap hc 0
  simp only [List.getElem?_toArray, List.getElem?_cons_zero, List.getElem?_cons_succ] at c0 c1 c2 c3 c4 c5 d0
  simp [results, hr, h8, h9, go_sem, c0, c1, c2, c3, c4, c5, d0]
set_option maxRecDepth 100000 in
set_option maxHeartbeats 1000000 in
theorem spot_err (t : TreeV) (hl : 0 ≤ t.l ∧ t.l ≤ 4294967295) (total : Nat) (ht : (total : Int) ≤ 18446744073709551615) (h : t.err total ≠ 0) (row : Int) (at_ : Nat) (w : World) :
    Calls Try.prog 67 #[t.val, .int .u64 total, .int .i64 row, .int .u64 at_] w fun e w' => e = .returned (.tuple #[SpotV.zero.val, .int .i64 (t.err total)]) ∧ Below w.heap.size w w' := by
  have e1 : (t.err total != 0) = true := by rw [bne_iff_ne]; exact h
  clear h
  unfold TreeV.val
  go_enter Try.func67, Try.ntmps67
  go_wp2_with fail
  go_step3
  go_wp2_with fail
  refine (svalid_any t hl total ht _).mono ?_; rintro e w1 ⟨rfl, hb1⟩
  obtain ⟨hc, hf⟩ := bcell hb1
  have hs1 := hb1.size
  simp at hs1
  go_wp2
  rw [Exit.noGoto_ret]
  have hB : Below w.heap.size w w1 := by
    refine Below.trans ?_ (hb1.mono (by simp; omega))
    repeat (first | exact Below.refl _ _ | (refine Below.alloc ?_ (by simp; omega) _) | (refine Below.alloc ?_ (by simp) _))
  have b4 : w1.heap[w.heap.size + 1 + 1 + 1 + 1]? = some (Obj.cells #[.int .i64 0, .int .u64 0, .int .u64 0, .int .u64 0, .bool false, .bool false] 87 (0, 0)) := by
    rw [hb1.block _ (by simp)]
    rw [Below.heap_alloc _ _ _ (by simp)]
    exact World.alloc_heap_new_at _ _ (by simp)
  have b5 : w1.heap[w.heap.size + 1 + 1 + 1 + 1 + 1]? = some (Obj.cells #[.int .i64 0] 28 (0, 0)) := by
    rw [hb1.block _ (by simp)]
    exact World.alloc_heap_new_at _ _ (by simp)
  refine bodyPost_ret (spot_results rfl rfl rfl (b := w.heap.size + 1 + 1 + 1 + 1) (c := w.heap.size + 1 + 1 + 1 + 1 + 1) (T := 87) (fr := (0, 0)) (T' := 28) (fr' := (0, 0)) ?_ ?_ rfl) rfl ⟨rfl, ?_⟩
  · rw [Below.heap_setCell _ _ _ _ (by simp)]
    exact block_set6 b4 _ _ _ _ _ _
  · exact block_setCell ((other_set6 (by omega) _ _ _ _ _ _).trans b5) _
  · exact (below_set6 hB (by omega) _ _ _ _ _ _).setCell (by simp; omega) _
end Go.Proofs.Ytkmgkeodmkfnpaa
