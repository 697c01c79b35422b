/- The orders and places of the rounds, by the program. No condition. -/
import Derived.Test.YtahenngmaoellaaN11
import Derived.Laws.Rows
import Derived.Deep.Cut
import Derived.Great.BuildSlice
import Derived.Great.Frames
import Derived.RangeFuncRecord
set_option linter.all false
set_option maxRecDepth 100000
set_option maxHeartbeats 8000000
namespace Go.Proofs.Ytahenngmaoellaa
open Go.ChangeShapes Go.WideShapes Go.ChangeAt Go.RowKit Go.Joins
open Go.Lib (hid)
attribute [local go_sem] Oper.semAt_some
theorem World.alloc_new_at (w : World) (o : Obj) {n : Nat} (hn : n = w.heap.size) : (w.alloc o).heap[n]? = some o := by subst hn; exact World.alloc_heap_new w o
def natV (l : List Nat) : Array Value := (l.map fun (n : Nat) => Value.int .i64 (n : Int)).toArray
def sigR (r : Nat) : List Nat := sigT.getD (r % 10) []
def sigTab : Array Value := natV sigT.flatten
def plaR (i : Nat) : List Nat := [plA i, plB i, plC i, plD i]
def plaTab : Array Value := natV ((List.range 8).flatMap plaR)
theorem sigTab_at (r j : Nat) (hr : r < 10) (hj : j < 16) : sigTab[16 * r + j]? = some (.int .i64 (sigN r j : Nat)) := by
 have h : ∀ r < 10, ∀ j < 16, sigT.flatten[16 * r + j]? = some (sigN r j) := by decide +kernel
 unfold sigTab natV
 rw [List.getElem?_toArray, List.getElem?_map, h r hr j hj]
 rfl
theorem sigma_any (r : Nat) (hr : r < 12) (w : World) : Calls Try.prog 78 #[.int .i64 r] w fun e w' => e = .returned (.agg (natV (sigR r))) ∧ Below w.heap.size w w' := by
 go_enter Try.func78, Try.ntmps78
 go_upto_region 1 with (fail)
 apply wp_region_lit
 refine wpList_buildTo rfl 159 _ rfl (some 4) rfl (natV (sigR 0)) (by kernel_rfl) ?_
 simp only [Act.put, List.setIfInBounds_toArray, List.set_cons_zero, List.set_cons_succ]
 refine wpList_buildTo rfl 159 _ rfl (some 5) rfl (natV (sigR 1)) (by kernel_rfl) ?_
 simp only [Act.put, List.setIfInBounds_toArray, List.set_cons_zero, List.set_cons_succ]
 refine wpList_buildTo rfl 159 _ rfl (some 6) rfl (natV (sigR 2)) (by kernel_rfl) ?_
 simp only [Act.put, List.setIfInBounds_toArray, List.set_cons_zero, List.set_cons_succ]
 refine wpList_buildTo rfl 159 _ rfl (some 7) rfl (natV (sigR 3)) (by kernel_rfl) ?_
 simp only [Act.put, List.setIfInBounds_toArray, List.set_cons_zero, List.set_cons_succ]
 refine wpList_buildTo rfl 159 _ rfl (some 8) rfl (natV (sigR 4)) (by kernel_rfl) ?_
 simp only [Act.put, List.setIfInBounds_toArray, List.set_cons_zero, List.set_cons_succ]
 refine wpList_buildTo rfl 159 _ rfl (some 9) rfl (natV (sigR 5)) (by kernel_rfl) ?_
 simp only [Act.put, List.setIfInBounds_toArray, List.set_cons_zero, List.set_cons_succ]
 refine wpList_buildTo rfl 159 _ rfl (some 10) rfl (natV (sigR 6)) (by kernel_rfl) ?_
 simp only [Act.put, List.setIfInBounds_toArray, List.set_cons_zero, List.set_cons_succ]
 refine wpList_buildTo rfl 159 _ rfl (some 11) rfl (natV (sigR 7)) (by kernel_rfl) ?_
 simp only [Act.put, List.setIfInBounds_toArray, List.set_cons_zero, List.set_cons_succ]
 refine wpList_buildTo rfl 159 _ rfl (some 12) rfl (natV (sigR 8)) (by kernel_rfl) ?_
 simp only [Act.put, List.setIfInBounds_toArray, List.set_cons_zero, List.set_cons_succ]
 refine wpList_buildTo rfl 159 _ rfl (some 13) rfl (natV (sigR 9)) (by kernel_rfl) ?_
 simp only [Act.put, List.setIfInBounds_toArray, List.set_cons_zero, List.set_cons_succ]
 refine wpList_buildTo rfl 166 _ rfl (some 14) rfl sigTab (by kernel_rfl) ?_
 simp only [Act.put, List.setIfInBounds_toArray, List.set_cons_zero, List.set_cons_succ]
 refine wpList_plain rfl fun _ hK => ?_
 go_simp
 refine hK _ _ ?_
 clear hK
 refine wpList_store_row rfl 166 _ _ rfl (w.heap.size + 1) sigTab rfl rfl 166 _ (World.alloc_new_at _ _ (by simp)) (by kernel_rfl) (by kernel_rfl) (by kernel_rfl) ?_
 simp only [Act.put, List.setIfInBounds_toArray, List.set_cons_zero, List.set_cons_succ]
 go_upto_region 2 with (fail)
 refine letterW ?_
 intro W hW
 have hT : W.heap[w.heap.size + 1]? = some (.cells sigTab 166 (0, 0)) := by
  rw [hW]; exact setRow_heap _ _ _ _ _ _ (World.alloc_new_at _ _ (by simp))
 have hR : W.heap[w.heap.size]? = some (.cells (Array.replicate 16 (.int .i64 0)) 159 (0, 0)) := by
  rw [hW]; exact (setRow_other _ _ _ _ (by omega)).trans ((Below.heap_alloc _ _ _ (by simp)).trans (World.alloc_heap_new _ _))
 have HB : Below w.heap.size w W := by
  rw [hW]
  have h2 := ((Below.refl w.heap.size w).alloc (Nat.le_refl _) (.cells (Array.replicate 16 (.int .i64 0)) 159 (0, 0))).alloc (by simp) (.cells (Array.replicate 160 (.int .i64 0)) 166 (0, 0))
  exact h2.trans ⟨rfl, rfl, rfl, by simp, fun g hg => setRow_other _ _ _ _ (by omega)⟩
 clear hW
 have hc : ∀ j, j < 16 → W.cell? ⟨w.heap.size + 1, r % 10 * 16 + j, none⟩ = some (.int .i64 (sigN r j : Nat)) := fun j hj => by
  rw [cellOfRow hT, Nat.mul_comm, sigTab_at (r % 10) j (Nat.mod_lt _ (by decide)) hj]
  unfold sigN
  rw [Nat.mod_mod]
 have hf : ∀ o, W.frozen? ⟨w.heap.size + 1, o, none⟩ = false := (rowFacts hT).2
 have hc0 : W.cell? ⟨w.heap.size + 1, r % 10 * 16, none⟩ = some (.int .i64 (sigN r 0 : Nat)) := hc 0 (by decide)
 have H := hid hc
 have HR := hid hR
 clear hT hc hR
 have hlt := Nat.mod_lt r (show 0 < 10 by decide)
 have hcs : ∀ j, 0 < j → j < 16 → W.cell? ⟨w.heap.size + 1, r % 10 * 16 + j, none⟩ = some (.int .i64 (sigN r j : Nat)) := fun j _ hj => H.out j hj
 have c1 := hcs 1 (by decide) (by decide)
 have c2 := hcs 2 (by decide) (by decide)
 have c3 := hcs 3 (by decide) (by decide)
 have c4 := hcs 4 (by decide) (by decide)
 have c5 := hcs 5 (by decide) (by decide)
 have c6 := hcs 6 (by decide) (by decide)
 have c7 := hcs 7 (by decide) (by decide)
 have c8 := hcs 8 (by decide) (by decide)
 have c9 := hcs 9 (by decide) (by decide)
 have c10 := hcs 10 (by decide) (by decide)
 have c11 := hcs 11 (by decide) (by decide)
 have c12 := hcs 12 (by decide) (by decide)
 have c13 := hcs 13 (by decide) (by decide)
 have c14 := hcs 14 (by decide) (by decide)
 have c15 := hcs 15 (by decide) (by decide)
 clear hcs H
 have hE1 : ((r : Nat) : Int).tmod 10 = ((r % 10 : Nat) : Int) := by rw [Int.tmod_eq_emod_of_nonneg (by omega)]; omega
 have hE2 : IntKind.i64.wrap (((r % 10 : Nat) : Int) + 10) = ((r % 10 : Nat) : Int) + 10 := by rw [IntKind.wrap_i64]; omega
 have hE3 : (((r % 10 : Nat) : Int) + 10).tmod 10 = ((r % 10 : Nat) : Int) := by rw [Int.tmod_eq_emod_of_nonneg (by omega)]; omega
 have hltI : ((r % 10 : Nat) : Int) < 10 := by omega
 generalize r % 10 = p at *
 apply wp_region_lit
 iterate 6
  refine wpList_plain rfl fun _ hK => ?_
  go_simp
  refine hK _ _ ?_
  clear hK
 refine wpList_store_row rfl 159 _ _ rfl w.heap.size _ rfl rfl 159 _ HR.out (by kernel_rfl) (by kernel_rfl) (by kernel_rfl) ?_
 simp only [Act.put, List.setIfInBounds_toArray, List.set_cons_zero, List.set_cons_succ]
 go_wp2_with fail
 have hl : ∀ r < 12, [sigN r 0, sigN r 1, sigN r 2, sigN r 3, sigN r 4, sigN r 5, sigN r 6, sigN r 7, sigN r 8, sigN r 9, sigN r 10, sigN r 11, sigN r 12, sigN r 13, sigN r 14, sigN r 15] = sigR r := by decide +kernel
 exact bodyPost_ret (results_cell_row rfl _ _ _ _ _ _ _ rfl (setRow_heap _ _ _ _ _ _ HR.out) Try.underlying159 rfl (by kernel_rfl)) rfl ⟨by rw [← hl r hr]; rfl, HB.trans ⟨rfl, rfl, rfl, by simp, fun g hg => setRow_other _ _ _ _ (by omega)⟩⟩
theorem places_any (w : World) : Calls Try.prog 79 #[] w fun e w' => e = .returned (.agg plaTab) ∧ Below w.heap.size w w' := by
 go_enter Try.func79, Try.ntmps79
 go_upto_region 1 with (fail)
 apply wp_region_lit
 refine wpList_buildTo rfl 161 _ rfl (some 1) rfl (natV (plaR 0)) (by kernel_rfl) ?_
 simp only [Act.put, List.setIfInBounds_toArray, List.set_cons_zero, List.set_cons_succ]
 refine wpList_buildTo rfl 161 _ rfl (some 2) rfl (natV (plaR 1)) (by kernel_rfl) ?_
 simp only [Act.put, List.setIfInBounds_toArray, List.set_cons_zero, List.set_cons_succ]
 refine wpList_buildTo rfl 161 _ rfl (some 3) rfl (natV (plaR 2)) (by kernel_rfl) ?_
 simp only [Act.put, List.setIfInBounds_toArray, List.set_cons_zero, List.set_cons_succ]
 refine wpList_buildTo rfl 161 _ rfl (some 4) rfl (natV (plaR 3)) (by kernel_rfl) ?_
 simp only [Act.put, List.setIfInBounds_toArray, List.set_cons_zero, List.set_cons_succ]
 refine wpList_buildTo rfl 161 _ rfl (some 5) rfl (natV (plaR 4)) (by kernel_rfl) ?_
 simp only [Act.put, List.setIfInBounds_toArray, List.set_cons_zero, List.set_cons_succ]
 refine wpList_buildTo rfl 161 _ rfl (some 6) rfl (natV (plaR 5)) (by kernel_rfl) ?_
 simp only [Act.put, List.setIfInBounds_toArray, List.set_cons_zero, List.set_cons_succ]
 refine wpList_buildTo rfl 161 _ rfl (some 7) rfl (natV (plaR 6)) (by kernel_rfl) ?_
 simp only [Act.put, List.setIfInBounds_toArray, List.set_cons_zero, List.set_cons_succ]
 refine wpList_buildTo rfl 161 _ rfl (some 8) rfl (natV (plaR 7)) (by kernel_rfl) ?_
 simp only [Act.put, List.setIfInBounds_toArray, List.set_cons_zero, List.set_cons_succ]
 refine wpList_buildTo rfl 162 _ rfl (some 9) rfl plaTab (by kernel_rfl) ?_
 simp only [Act.put, List.setIfInBounds_toArray, List.set_cons_zero, List.set_cons_succ]
 refine wpList_store_row rfl 162 _ _ rfl w.heap.size plaTab rfl rfl 162 _ (World.alloc_heap_new _ _) (by kernel_rfl) (by kernel_rfl) (by kernel_rfl) ?_
 simp only [Act.put, List.setIfInBounds_toArray, List.set_cons_zero, List.set_cons_succ]
 go_wp2_with fail
 exact bodyPost_ret (results_cell_row rfl _ _ _ _ _ _ _ rfl (setRow_heap _ _ _ _ _ _ (World.alloc_heap_new _ _)) Try.underlying162 rfl (by kernel_rfl)) rfl ⟨rfl, ((Below.refl w.heap.size w).alloc (Nat.le_refl _) _).trans ⟨rfl, rfl, rfl, by simp, fun g hg => setRow_other _ _ _ _ (by omega)⟩⟩
end Go.Proofs.Ytahenngmaoellaa
