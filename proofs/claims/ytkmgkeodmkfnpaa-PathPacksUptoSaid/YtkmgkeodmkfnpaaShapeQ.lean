/- A node's place by the reference, where there is one. No condition. -/
import Derived.Test.YtkmgkeodmkfnpaaShapeP
namespace Go.Proofs.Ytkmgkeodmkfnpaa
open Go.ChangeShapes Go.WideShapes Go.ChangeAt Go.RowKit Go.Joins Go.Shelf Go.Maps
attribute [local go_sem] Oper.semAt_some

/-- The fields that the reference lays down. -/
def refF (f l : Int) (total k at_ n b : Nat) (root : Bool) : Array Value :=
  if root = true then #[.int .i64 k, .int .u64 at_, .int .u64 0, .int .u64 b, .bool ((at_ : Int) == (n : Int) - 1), .bool true]
  else if (at_ : Int) = (n : Int) - 1 then #[.int .i64 k, .int .u64 at_, .int .u64 (IntKind.u64.wrap (at_ * (if k = 0 then l else f))), .int .u64 (if k = 0 then total else b : Nat), .bool true, .bool false]
  else #[.int .i64 k, .int .u64 at_, .int .u64 (IntKind.u64.wrap (at_ * (if k = 0 then l else f))), .int .u64 (IntKind.u64.wrap (IntKind.u64.wrap (at_ * (if k = 0 then l else f)) + (if k = 0 then l else f))), .bool false, .bool false]
/-- What the reference lays down is this. -/
def IsRef (t : TreeV) (L : List Nat) (total k at_ : Nat) (A : Array Value) : Prop := A = refF t.f t.l total k at_ (nth L k) (nth L (k - 1)) (decide (k = L.length - 1))
/-- The reference's end where the node is. -/
theorem ref_leaf {t : TreeV} {L : List Nat} {total k at_ : Nat} {fn : Func} {tmps : Array Value} {w w1 : World} {a0 a1 a2 a3 a4 a5 v0 v1 v2 v3 v4 v5 : Value} {o : Obj}
    (hr : fn.results = #[.cell 8 87, .tmp 9]) (h8 : tmps[8]?.getD undef = .pointer (some ⟨w.heap.size + 1, 0, none⟩)) (h9 : tmps[9]?.getD undef = .int .i64 0)
    (hb : w1.heap[w.heap.size + 1]? = some (Obj.cells #[a0, a1, a2, a3, a4, a5] 87 (0, 0))) (hB : Below w.heap.size w w1) (k1 : w.heap.size + 1 < w1.heap.size)
    (hA : IsRef t L total k at_ #[v0, v1, v2, v3, v4, v5]) :
    bodyPost Try.prog fn (fun e w' => (∃ A, e = Ending.returned (.tuple #[.agg A, .int .i64 0]) ∧ IsRef t L total k at_ A) ∧ Below w.heap.size w w') Exit.ret ⟨tmps, []⟩
      (((((((w1.setCell ⟨w.heap.size + 1, 0, none⟩ v0).setCell ⟨w.heap.size + 1, 1, none⟩ v1).setCell ⟨w.heap.size + 1, 2, none⟩ v2).setCell ⟨w.heap.size + 1, 3, none⟩ v3).setCell ⟨w.heap.size + 1, 4, none⟩ v4).setCell ⟨w.heap.size + 1, 5, none⟩ v5).alloc o) := by
  refine bodyPost_ret (spot_results2 hr h8 h9 (b := w.heap.size + 1) (T := 87) (fr := (0, 0)) ?_ rfl) rfl ⟨⟨_, rfl, hA⟩, (below_set6 hB (by omega) _ _ _ _ _ _).alloc (by simp; omega) _⟩
  rw [Below.heap_alloc _ _ _ (by simp; omega)]
  exact block_set6 hb _ _ _ _ _ _
set_option maxHeartbeats 4000000 in
set_option maxRecDepth 100000 in
theorem refSpot_yes' {L : List Nat} (t : TreeV) (total : Nat) (hN0 : 1 ≤ L.length) (hN2 : 2 ≤ L.length)
    (HR : Hid (∀ w, Calls Try.prog 95 #[t.val, .int .u64 total] w fun e w' => ∃ v, e = .returned (.tuple #[v, .int .i64 0]) ∧ w'.ownsRow w.heap.size 27 1 v L.length (L.map encU) ∧ Below w.heap.size w w'))
    (HLe : Hid (∀ k, k < L.length → (nth L k : Int) ≤ 18446744073709551615)) (hf0 : 0 ≤ t.f) (hfb : t.f ≤ 18446744073709551615) (hl0 : 0 ≤ t.l) (hlb : t.l ≤ 4294967295) (hN3 : (L.length : Int) ≤ 9223372036854775807)
    (k : Nat) (at_ : Nat) (z1 : k < L.length) (z2 : at_ < nth L k) (w : World) :
    Calls Try.prog 69 #[t.val, .int .u64 total, .int .i64 k, .int .u64 at_] w fun e w' => (∃ A, e = .returned (.tuple #[.agg A, .int .i64 0]) ∧ IsRef t L total k at_ A) ∧ Below w.heap.size w w' := by
  unfold TreeV.val
  go_enter Try.func69, Try.ntmps69
  go_wp2_with fail
  refine (HR.out _).mono ?_; rintro e w1 ⟨v, rfl, hown, hb1⟩
  obtain ⟨g, cap, rfl, -, hg1, hg2, hcell⟩ := ownsRow_cells hown hN0
  clear hown
  have HCL := Lib.hid hcell
  clear hcell
  obtain ⟨hc, hf⟩ := bcell hb1
  have hs1 := hb1.size
  simp at hs1
  have k0 : w.heap.size < w1.heap.size := by omega
  have k1 : w.heap.size + 1 < w1.heap.size := by omega
  have b1 : w1.heap[w.heap.size + 1]? = some (Obj.cells #[.int .i64 0, .int .u64 0, .int .u64 0, .int .u64 0, .bool false, .bool false] 87 (0, 0)) := by
    rw [hb1.block _ (by simp)]
    exact World.alloc_heap_new_at _ _ (by simp)
  have B1 := Lib.hid b1
  have hBW : Below w.heap.size w w1 := below_alloc_then _ (Below.trans ((Below.refl _ _).alloc (Nat.le_refl _) _) (hb1.mono (by simp)))
  clear b1 hb1
  have hx := HCL.out k z1
  have hx2 := HLe.out k z1
  have q0 : ((L.length : Int) ≤ (k : Int)) = False := eq_false (by omega)
  have q1 : ((nth L k : Int) ≤ (at_ : Int)) = False := eq_false (by omega)
  by_cases hR : k = L.length - 1
  · have q2 : ((k : Int) == (L.length : Int) - 1) = true := by rw [beq_iff_eq]; omega
    obtain ⟨j, rfl⟩ : ∃ j, k = j + 1 := ⟨k - 1, by omega⟩
    have hy := HCL.out j (by omega)
    have hy2 := HLe.out j (by omega)
    have HR2 := Lib.hid hR
    clear hR
    go_wp2
    refine ref_leaf (t := t) (L := L) (total := total) (k := j + 1) (at_ := at_) (fn := Try.f69) ?_ ?_ ?_ B1.out hBW k1 ?_
    · rfl
    · rfl
    · rfl
    unfold IsRef refF; rw [if_pos (decide_eq_true HR2.out)]; rfl
  · have q2 : ((k : Int) == (L.length : Int) - 1) = false := by rw [beq_eq_false_iff_ne]; omega
    have HR2 := Lib.hid hR
    clear hR
    by_cases hZ : (at_ : Int) = (nth L k : Int) - 1
    · have q4 : ((at_ : Int) == (nth L k : Int) - 1) = true := by rw [beq_iff_eq]; exact hZ
      have HZ := Lib.hid hZ
      clear hZ
      cases k with
      | zero =>
        have hnil : (L = []) = False := eq_false (by intro h; rw [h] at hN0; simp at hN0)
        go_wp2
        refine ref_leaf (t := t) (L := L) (total := total) (k := 0) (at_ := at_) (fn := Try.f69) ?_ ?_ ?_ B1.out hBW k1 ?_
        · rfl
        · rfl
        · rfl
        unfold IsRef refF; rw [if_neg (by simp; exact HR2.out), if_pos HZ.out]; simp
      | succ j =>
        have hy := HCL.out j (by omega)
        have hy2 := HLe.out j (by omega)
        go_wp2
        refine ref_leaf (t := t) (L := L) (total := total) (k := j + 1) (at_ := at_) (fn := Try.f69) ?_ ?_ ?_ B1.out hBW k1 ?_
        · rfl
        · rfl
        · rfl
        unfold IsRef refF; rw [if_neg (by simp; exact HR2.out), if_pos HZ.out]; simp
    · have q4 : ((at_ : Int) == (nth L k : Int) - 1) = false := by rw [beq_eq_false_iff_ne]; exact hZ
      have HZ := Lib.hid hZ
      clear hZ
      cases k with
      | zero =>
        have hnil : (L = []) = False := eq_false (by intro h; rw [h] at hN0; simp at hN0)
        go_wp2
        refine ref_leaf (t := t) (L := L) (total := total) (k := 0) (at_ := at_) (fn := Try.f69) ?_ ?_ ?_ B1.out hBW k1 ?_
        · rfl
        · rfl
        · rfl
        unfold IsRef refF; rw [if_neg (by simp; exact HR2.out), if_neg HZ.out]; simp
      | succ j =>
        have hy := HCL.out j (by omega)
        have hy2 := HLe.out j (by omega)
        go_wp2
        refine ref_leaf (t := t) (L := L) (total := total) (k := j + 1) (at_ := at_) (fn := Try.f69) ?_ ?_ ?_ B1.out hBW k1 ?_
        · rfl
        · rfl
        · rfl
        unfold IsRef refF; rw [if_neg (by simp; exact HR2.out), if_neg HZ.out]; simp
end Go.Proofs.Ytkmgkeodmkfnpaa
