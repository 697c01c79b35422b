/- The walk of shape.Spot. No condition. -/
import Derived.Test.YtjogmckaakkomaaGreatB34
import Derived.BigQuiet
import Derived.Deep.QuietTactic
import Derived.WalkMore
import Derived.Scope
set_option linter.all false
set_option maxRecDepth 100000
set_option maxHeartbeats 8000000
namespace Go.Proofs.YtjogmckaakkomaaGreat
open Go.ChangeShapes Go.WideShapes Go.ChangeAt Go.RowKit Go.Joins Go.Shelf Go.Maps
open Go.Lib (hid)
attribute [local go_sem] Oper.semAt_some
theorem block_set6 {W : World} {b : Nat} {a0 a1 a2 a3 a4 a5 : Value} {T : TypeId} {fr : Nat × Nat} (h : W.heap[b]? = some (Obj.cells #[a0, a1, a2, a3, a4, a5] T fr)) (v0 v1 v2 v3 v4 v5 : Value) :
  ((((((W.setCell ⟨b, 0, none⟩ v0).setCell ⟨b, 1, none⟩ v1).setCell ⟨b, 2, none⟩ v2).setCell ⟨b, 3, none⟩ v3).setCell ⟨b, 4, none⟩ v4).setCell ⟨b, 5, none⟩ v5).heap[b]? = some (Obj.cells #[v0, v1, v2, v3, v4, v5] T fr) :=
 block_setCell (block_setCell (block_setCell (block_setCell (block_setCell (block_setCell h v0) v1) v2) v3) v4) v5
theorem below_set6 {B : Nat} {a W : World} (h : Below B a W) {b : Nat} (hb : B ≤ b) (v0 v1 v2 v3 v4 v5 : Value) :
  Below B a ((((((W.setCell ⟨b, 0, none⟩ v0).setCell ⟨b, 1, none⟩ v1).setCell ⟨b, 2, none⟩ v2).setCell ⟨b, 3, none⟩ v3).setCell ⟨b, 4, none⟩ v4).setCell ⟨b, 5, none⟩ v5) :=
 (((((h.setCell (p := ⟨b, 0, none⟩) hb v0).setCell (p := ⟨b, 1, none⟩) hb v1).setCell (p := ⟨b, 2, none⟩) hb v2).setCell (p := ⟨b, 3, none⟩) hb v3).setCell (p := ⟨b, 4, none⟩) hb v4).setCell (p := ⟨b, 5, none⟩) hb v5
theorem World.alloc_heap_new_at (w : World) (o : Obj) {n : Nat} (hn : n = w.heap.size) : (w.alloc o).heap[n]? = some o := by subst hn; exact World.alloc_heap_new w o
theorem spot_results2 {P : Program} {fn : Func} {tmps : Array Value} {W : World} {b : Nat} {v0 v1 v2 v3 v4 v5 e : Value} {T : TypeId} {fr : Nat × Nat}
  (hr : fn.results = #[.cell 8 97, .tmp 9]) (h8 : tmps[8]?.getD undef = .pointer (some ⟨b, 0, none⟩)) (h9 : tmps[9]?.getD undef = e)
  (hb : W.heap[b]? = some (Obj.cells #[v0, v1, v2, v3, v4, v5] T fr)) (hP : P = Tryz.prog) :
  (results fn tmps).run P W = .ok (.tuple #[.agg #[v0, v1, v2, v3, v4, v5], e]) W := by
 subst hP
 have c0 := cell_of_heap hb 0
 have c1 := cell_of_heap hb 1
 have c2 := cell_of_heap hb 2
 have c3 := cell_of_heap hb 3
 have c4 := cell_of_heap hb 4
 have c5 := cell_of_heap hb 5
 simp only [List.getElem?_toArray, List.getElem?_cons_zero, List.getElem?_cons_succ] at c0 c1 c2 c3 c4 c5
 simp [results, hr, h8, h9, go_sem, c0, c1, c2, c3, c4, c5]
/-- A node's place and the error. -/
def TreeV.spotR (t : TreeV) (total : Nat) (row : Int) (at_ : Nat) : SpotV := if t.err total = 0 ∧ t.there total row at_ then t.spot total row.toNat at_ else SpotV.zero
def TreeV.spotE (t : TreeV) (total : Nat) (row : Int) (at_ : Nat) : Int := if t.err total ≠ 0 then t.err total else if t.there total row at_ then 0 else 6
theorem refSpot_err (t : TreeV) (hl : 0 ≤ t.l ∧ t.l ≤ 4294967295) (total : Nat) (ht : (total : Int) ≤ 18446744073709551615) (h : t.err total ≠ 0) (row : Int) (at_ : Nat) (w : World) :
  Calls Tryz.prog 51 #[t.val, .int .u64 total, .int .i64 row, .int .u64 at_] w fun e w' => e = .returned (.tuple #[SpotV.zero.val, .int .i64 (t.err total)]) ∧ Below w.heap.size w w' := by
 have e1 : (t.err total != 0) = true := by rw [bne_iff_ne]; exact h
 have H := hid h
 clear h
 unfold TreeV.val
 go_enter Tryz.func51, Tryz.ntmps51
 go_wp2_with fail
 refine (refRows_err t hl total ht H.out _).mono ?_; rintro e w1 ⟨rfl, hb1⟩
 obtain ⟨hc, hf⟩ := bcell hb1
 have hs1 := hb1.size
 simp at hs1
 have k0 : w.heap.size < w1.heap.size := by omega
 have k1 : w.heap.size + 1 < w1.heap.size := by omega
 have b1 : w1.heap[w.heap.size + 1]? = some (Obj.cells #[.int .i64 0, .int .u64 0, .int .u64 0, .int .u64 0, .bool false, .bool false] 97 (0, 0)) := by
  rw [hb1.block _ (by simp)]
  exact World.alloc_heap_new_at _ _ (by simp)
 have B1 := hid b1
 clear b1
 go_wp2
 refine bodyPost_ret (spot_results2 rfl rfl rfl (b := w.heap.size + 1) (T := 97) (fr := (0, 0)) (block_set6 B1.out _ _ _ _ _ _) rfl) rfl ⟨rfl, below_set6 (below_alloc_then _ (Below.trans ((Below.refl _ _).alloc (Nat.le_refl _) _) (hb1.mono (by simp)))) (by omega) _ _ _ _ _ _⟩
theorem refSpot_no' {L : List Nat} (t : TreeV) (total : Nat) (hN0 : 1 ≤ L.length)
  (HR : Hid (∀ w, Calls Tryz.prog 53 #[t.val, .int .u64 total] w fun e w' => ∃ v, e = .returned (.tuple #[v, .int .i64 0]) ∧ w'.ownsRow w.heap.size 73 1 v L.length (L.map encU) ∧ Below w.heap.size w w'))
  (HLe : Hid (∀ k, k < L.length → (nth L k : Int) ≤ 18446744073709551615)) (row : Int) (at_ : Nat) (HT : Hid (¬ (0 ≤ row ∧ row.toNat < L.length ∧ at_ < nth L row.toNat))) (w : World) :
  Calls Tryz.prog 51 #[t.val, .int .u64 total, .int .i64 row, .int .u64 at_] w fun e w' => e = .returned (.tuple #[SpotV.zero.val, .int .i64 6]) ∧ Below w.heap.size w w' := by
 unfold TreeV.val
 go_enter Tryz.func51, Tryz.ntmps51
 go_wp2_with fail
 refine (HR.out _).mono ?_; rintro e w1 ⟨v, rfl, hown, hb1⟩
 obtain ⟨g, cap, rfl, -, hg1, hg2, hcell⟩ := ownsRow_cells hown hN0
 clear hown
 have HCL := hid hcell
 clear hcell
 obtain ⟨hc, hf⟩ := bcell hb1
 have hs1 := hb1.size
 simp at hs1
 have k0 : w.heap.size < w1.heap.size := by omega
 have k1 : w.heap.size + 1 < w1.heap.size := by omega
 have b1 : w1.heap[w.heap.size + 1]? = some (Obj.cells #[.int .i64 0, .int .u64 0, .int .u64 0, .int .u64 0, .bool false, .bool false] 97 (0, 0)) := by
  rw [hb1.block _ (by simp)]
  exact World.alloc_heap_new_at _ _ (by simp)
 have B1 := hid b1
 have hBW : Below w.heap.size w w1 := below_alloc_then _ (Below.trans ((Below.refl _ _).alloc (Nat.le_refl _) _) (hb1.mono (by simp)))
 clear b1 hb1
 by_cases hA : row < 0
 ·go_wp2
  refine bodyPost_ret (spot_results2 rfl rfl rfl (b := w.heap.size + 1) (T := 97) (fr := (0, 0)) (block_set6 B1.out _ _ _ _ _ _) rfl) rfl ⟨rfl, below_set6 hBW (by omega) _ _ _ _ _ _⟩
 ·by_cases hA2 : (L.length : Int) ≤ row
  ·go_wp2
   refine bodyPost_ret (spot_results2 rfl rfl rfl (b := w.heap.size + 1) (T := 97) (fr := (0, 0)) (block_set6 B1.out _ _ _ _ _ _) rfl) rfl ⟨rfl, below_set6 hBW (by omega) _ _ _ _ _ _⟩
  ·obtain ⟨k, rfl⟩ : ∃ k : Nat, row = k := ⟨row.toNat, by omega⟩
   have hx := HCL.out k (by omega)
   have hx2 := HLe.out k (by omega)
   have q1 : ((nth L k : Int) ≤ (at_ : Int)) := by
    have := HT.out
    rw [Int.toNat_natCast] at this
    omega
   go_wp2
   refine bodyPost_ret (spot_results2 rfl rfl rfl (b := w.heap.size + 1) (T := 97) (fr := (0, 0)) (block_set6 B1.out _ _ _ _ _ _) rfl) rfl ⟨rfl, below_set6 hBW (by omega) _ _ _ _ _ _⟩
/-- The fields that the reference lays down. -/
def refF (f l : Int) (total k at_ n b : Nat) (root : Bool) : Array Value :=
 if root = true then #[.int .i64 k, .int .u64 at_, .int .u64 0, .int .u64 b, .bool ((at_ : Int) == (n : Int) - 1), .bool true]
 else if (at_ : Int) = (n : Int) - 1 then #[.int .i64 k, .int .u64 at_, .int .u64 (IntKind.u64.wrap (at_ * (if k = 0 then l else f))), .int .u64 (if k = 0 then total else b : Nat), .bool true, .bool false]
 else #[.int .i64 k, .int .u64 at_, .int .u64 (IntKind.u64.wrap (at_ * (if k = 0 then l else f))), .int .u64 (IntKind.u64.wrap (IntKind.u64.wrap (at_ * (if k = 0 then l else f)) + (if k = 0 then l else f))), .bool false, .bool false]
/-- What the reference lays down is this. -/
def IsRef (t : TreeV) (L : List Nat) (total k at_ : Nat) (A : Array Value) : Prop := A = refF t.f t.l total k at_ (nth L k) (nth L (k - 1)) (decide (k = L.length - 1))
/-- The reference's end where the node is. -/
theorem ref_leaf {t : TreeV} {L : List Nat} {total k at_ : Nat} {fn : Func} {tmps : Array Value} {w w1 : World} {a0 a1 a2 a3 a4 a5 v0 v1 v2 v3 v4 v5 : Value} {o : Obj}
  (hr : fn.results = #[.cell 8 97, .tmp 9]) (h8 : tmps[8]?.getD undef = .pointer (some ⟨w.heap.size + 1, 0, none⟩)) (h9 : tmps[9]?.getD undef = .int .i64 0)
  (hb : w1.heap[w.heap.size + 1]? = some (Obj.cells #[a0, a1, a2, a3, a4, a5] 97 (0, 0))) (hB : Below w.heap.size w w1) (k1 : w.heap.size + 1 < w1.heap.size)
  (hA : IsRef t L total k at_ #[v0, v1, v2, v3, v4, v5]) :
  bodyPost Tryz.prog fn (fun e w' => (∃ A, e = Ending.returned (.tuple #[.agg A, .int .i64 0]) ∧ IsRef t L total k at_ A) ∧ Below w.heap.size w w') Exit.ret ⟨tmps, []⟩
   (((((((w1.setCell ⟨w.heap.size + 1, 0, none⟩ v0).setCell ⟨w.heap.size + 1, 1, none⟩ v1).setCell ⟨w.heap.size + 1, 2, none⟩ v2).setCell ⟨w.heap.size + 1, 3, none⟩ v3).setCell ⟨w.heap.size + 1, 4, none⟩ v4).setCell ⟨w.heap.size + 1, 5, none⟩ v5).alloc o) := by
 refine bodyPost_ret (spot_results2 hr h8 h9 (b := w.heap.size + 1) (T := 97) (fr := (0, 0)) ?_ rfl) rfl ⟨⟨_, rfl, hA⟩, (below_set6 hB (by omega) _ _ _ _ _ _).alloc (by simp; omega) _⟩
 rw [Below.heap_alloc _ _ _ (by simp; omega)]
 exact block_set6 hb _ _ _ _ _ _
theorem refSpot_yes' {L : List Nat} (t : TreeV) (total : Nat) (hN0 : 1 ≤ L.length) (hN2 : 2 ≤ L.length)
  (HR : Hid (∀ w, Calls Tryz.prog 53 #[t.val, .int .u64 total] w fun e w' => ∃ v, e = .returned (.tuple #[v, .int .i64 0]) ∧ w'.ownsRow w.heap.size 73 1 v L.length (L.map encU) ∧ Below w.heap.size w w'))
  (HLe : Hid (∀ k, k < L.length → (nth L k : Int) ≤ 18446744073709551615)) (hf0 : 0 ≤ t.f) (hfb : t.f ≤ 18446744073709551615) (hl0 : 0 ≤ t.l) (hlb : t.l ≤ 4294967295) (hN3 : (L.length : Int) ≤ 9223372036854775807)
  (k : Nat) (at_ : Nat) (z1 : k < L.length) (z2 : at_ < nth L k) (w : World) :
  Calls Tryz.prog 51 #[t.val, .int .u64 total, .int .i64 k, .int .u64 at_] w fun e w' => (∃ A, e = .returned (.tuple #[.agg A, .int .i64 0]) ∧ IsRef t L total k at_ A) ∧ Below w.heap.size w w' := by
 unfold TreeV.val
 go_enter Tryz.func51, Tryz.ntmps51
 go_wp2_with fail
 refine (HR.out _).mono ?_; rintro e w1 ⟨v, rfl, hown, hb1⟩
 obtain ⟨g, cap, rfl, -, hg1, hg2, hcell⟩ := ownsRow_cells hown hN0
 clear hown
 have HCL := hid hcell
 clear hcell
 obtain ⟨hc, hf⟩ := bcell hb1
 have hs1 := hb1.size
 simp at hs1
 have k0 : w.heap.size < w1.heap.size := by omega
 have k1 : w.heap.size + 1 < w1.heap.size := by omega
 have b1 : w1.heap[w.heap.size + 1]? = some (Obj.cells #[.int .i64 0, .int .u64 0, .int .u64 0, .int .u64 0, .bool false, .bool false] 97 (0, 0)) := by
  rw [hb1.block _ (by simp)]
  exact World.alloc_heap_new_at _ _ (by simp)
 have B1 := hid b1
 have hBW : Below w.heap.size w w1 := below_alloc_then _ (Below.trans ((Below.refl _ _).alloc (Nat.le_refl _) _) (hb1.mono (by simp)))
 clear b1 hb1
 have hx := HCL.out k z1
 have hx2 := HLe.out k z1
 have q0 : ((L.length : Int) ≤ (k : Int)) = False := eq_false (by omega)
 have q1 : ((nth L k : Int) ≤ (at_ : Int)) = False := eq_false (by omega)
 by_cases hR : k = L.length - 1
 ·have q2 : ((k : Int) == (L.length : Int) - 1) = true := by rw [beq_iff_eq]; omega
  obtain ⟨j, rfl⟩ : ∃ j, k = j + 1 := ⟨k - 1, by omega⟩
  have hy := HCL.out j (by omega)
  have hy2 := HLe.out j (by omega)
  have HR2 := hid hR
  clear hR
  go_wp2
  refine ref_leaf (t := t) (L := L) (total := total) (k := j + 1) (at_ := at_) (fn := Tryz.f51) ?_ ?_ ?_ B1.out hBW k1 ?_
  ·rfl
  ·rfl
  ·rfl
  unfold IsRef refF; rw [if_pos (decide_eq_true HR2.out)]; rfl
 ·have q2 : ((k : Int) == (L.length : Int) - 1) = false := by rw [beq_eq_false_iff_ne]; omega
  have HR2 := hid hR
  clear hR
  by_cases hZ : (at_ : Int) = (nth L k : Int) - 1
  ·have q4 : ((at_ : Int) == (nth L k : Int) - 1) = true := by rw [beq_iff_eq]; exact hZ
   have HZ := hid hZ
   clear hZ
   cases k with
   | zero =>
    have hnil : (L = []) = False := eq_false (by intro h; rw [h] at hN0; simp at hN0)
    go_wp2
    refine ref_leaf (t := t) (L := L) (total := total) (k := 0) (at_ := at_) (fn := Tryz.f51) ?_ ?_ ?_ B1.out hBW k1 ?_
    ·rfl
    ·rfl
    ·rfl
    unfold IsRef refF; rw [if_neg (by simp; exact HR2.out), if_pos HZ.out]; simp
   | succ j =>
    have hy := HCL.out j (by omega)
    have hy2 := HLe.out j (by omega)
    go_wp2
    refine ref_leaf (t := t) (L := L) (total := total) (k := j + 1) (at_ := at_) (fn := Tryz.f51) ?_ ?_ ?_ B1.out hBW k1 ?_
    ·rfl
    ·rfl
    ·rfl
    unfold IsRef refF; rw [if_neg (by simp; exact HR2.out), if_pos HZ.out]; simp
  ·have q4 : ((at_ : Int) == (nth L k : Int) - 1) = false := by rw [beq_eq_false_iff_ne]; exact hZ
   have HZ := hid hZ
   clear hZ
   cases k with
   | zero =>
    have hnil : (L = []) = False := eq_false (by intro h; rw [h] at hN0; simp at hN0)
    go_wp2
    refine ref_leaf (t := t) (L := L) (total := total) (k := 0) (at_ := at_) (fn := Tryz.f51) ?_ ?_ ?_ B1.out hBW k1 ?_
    ·rfl
    ·rfl
    ·rfl
    unfold IsRef refF; rw [if_neg (by simp; exact HR2.out), if_neg HZ.out]; simp
   | succ j =>
    have hy := HCL.out j (by omega)
    have hy2 := HLe.out j (by omega)
    go_wp2
    refine ref_leaf (t := t) (L := L) (total := total) (k := j + 1) (at_ := at_) (fn := Tryz.f51) ?_ ?_ ?_ B1.out hBW k1 ?_
    ·rfl
    ·rfl
    ·rfl
    unfold IsRef refF; rw [if_neg (by simp; exact HR2.out), if_neg HZ.out]; simp
end Go.Proofs.YtjogmckaakkomaaGreat
