/- The way of a leaf, by the program. No condition. -/
import Derived.Test.YtkmgkeodmkfnpaaWayB
namespace Go.Proofs.Ytkmgkeodmkfnpaa
open Go.ChangeShapes Go.WideShapes Go.ChangeAt Go.RowKit Go.Joins Go.Shelf Go.Maps
attribute [local go_sem] Oper.semAt_some

/-- The first k stages of a leaf's way, cell by cell. -/
def stagesL (t : TreeV) (total leaf : Nat) : Nat → List Value
  | 0 => []
  | k + 1 => stagesL t total leaf k ++ ((wayS t total leaf (k + 1)).cellsL ++ [.int .u64 ((wayA t.fn (t.rowsOf total) leaf k : Int) - ((wayS t total leaf (k + 1)).frm : Int))])
theorem info_stage : (Try.prog.info? 89).map (fun i => (i.zero, i.size, i.bytes)) = some (some (.agg #[.int .i64 0, .int .u64 0, .int .u64 0, .int .u64 0, .bool false, .bool false, .int .u64 0]), 7, 48) := by kernel_rfl
theorem cells_new7 (W : World) (a0 a1 a2 a3 a4 a5 a6 : Value) (T : TypeId) (n : Nat) (hn : n = W.heap.size) : ∀ j u, [a0, a1, a2, a3, a4, a5, a6][j]? = some u → (W.alloc (.cells #[a0, a1, a2, a3, a4, a5, a6] T)).cell? (Addr.add ⟨n, 0, none⟩ j) = some u := by
  subst hn
  intro j u hj
  have h := cell_of_heap (World.alloc_heap_new W (.cells #[a0, a1, a2, a3, a4, a5, a6] T)) j
  rw [show Addr.add ⟨W.heap.size, 0, none⟩ j = ⟨W.heap.size, j, none⟩ by first | (simp [Addr.add]; done) | (simp [Addr.add]; omega), h]
  rw [← Array.getElem?_toList]; exact hj
/-- What the loop of way knows. -/
def StageRel (t : TreeV) (total leaf n : Nat) (w1 : World) (v : Value) (wr : World) : Prop :=
  ∃ k, k < n ∧ sliceLen v = k ∧ wr.ownsRow (w1.heap.size + 1) 89 7 v k (stagesL t total leaf k) ∧ Below w1.heap.size w1 wr ∧
    wr.heap[w1.heap.size]? = some (Obj.cells #[.int .i64 (k : Nat), .int .u64 (wayA t.fn (t.rowsOf total) leaf k : Nat), .int .u64 (wayS t total leaf k).frm, .int .u64 (wayS t total leaf k).to_, .bool (wayS t total leaf k).last, .bool (decide (k = n - 1))] 87 (0, 0))
theorem ownsRow_any {w : World} {base size n : Nat} {e : TypeId} {v : Value} {xs : List Value} (h : w.ownsRow base e size v n xs) : ∃ a c, v = .slice a n c := by
  rcases ownsRow_forms h with ⟨h, h2⟩ | ⟨g, cap, h⟩
  · exact ⟨none, 0, by rw [h, h2]⟩
  · exact ⟨_, _, h⟩
set_option maxRecDepth 100000 in
set_option maxHeartbeats 800000 in
theorem way_ok (t : TreeV) (total leaf : Nat) {n : Nat} (hn : 2 ≤ n) (hn2 : n ≤ 255)
    (HS : Hid (∀ k, k < n → ∀ w, Calls Try.prog 67 #[t.val, .int .u64 total, .int .i64 (k : Nat), .int .u64 (wayA t.fn (t.rowsOf total) leaf k : Nat)] w fun r w' => r = .returned (.tuple #[.agg #[.int .i64 (k : Nat), .int .u64 (wayA t.fn (t.rowsOf total) leaf k : Nat), .int .u64 (wayS t total leaf k).frm, .int .u64 (wayS t total leaf k).to_, .bool (wayS t total leaf k).last, .bool (decide (k = n - 1))], .int .i64 0]) ∧ Below w.heap.size w w'))
    (HP : Hid (∀ k, k + 1 < n → ∀ w, Calls Try.prog 68 #[t.val, .int .u64 total, .int .i64 (k : Nat), .int .u64 (wayA t.fn (t.rowsOf total) leaf k : Nat)] w fun r w' => r = .returned (.tuple #[.int .u64 (wayA t.fn (t.rowsOf total) leaf (k + 1) : Nat), .int .i64 0]) ∧ Below w.heap.size w w'))
    (HW : Hid (∀ k, k < n → (wayS t total leaf k).cellsL = [.int .i64 (k : Nat), .int .u64 (wayA t.fn (t.rowsOf total) leaf k : Nat), .int .u64 (wayS t total leaf k).frm, .int .u64 (wayS t total leaf k).to_, .bool (wayS t total leaf k).last, .bool (decide (k = n - 1))]))
    (HF : Hid (∀ k, k + 1 < n → ((wayS t total leaf (k + 1)).frm : Int) ≤ (wayA t.fn (t.rowsOf total) leaf k : Int) ∧ (wayA t.fn (t.rowsOf total) leaf k : Int) ≤ 18446744073709551615)) (w : World) :
    Calls Try.prog 33 #[t.val, .int .u64 total, .int .u64 leaf] w fun e w' => ∃ v, e = .returned (.tuple #[v, .int .i64 0]) ∧ w'.ownsRow w.heap.size 89 7 v (n - 1) (stagesL t total leaf (n - 1)) ∧ Below w.heap.size w w' := by
  obtain ⟨i0, hi, hz0, hz1, hz2⟩ := info_parts info_stage
  have S0 := Lib.hid (HS.out 0 (by omega))
  have W0 := Lib.hid (HW.out 0 (by omega))
  unfold TreeV.val at *
  have q0 : decide (0 = n - 1) = false := decide_eq_false (by omega)
  rw [q0] at S0 W0
  simp only [wayA, Int.natCast_zero] at S0 W0
  go_enter Try.func33, Try.ntmps33
  go_wp2_with fail
  refine (S0.out _).mono ?_; rintro r w1 ⟨rfl, hb1⟩
  have hs1 := hb1.size
  simp at hs1
  have k1 : w.heap.size < w1.heap.size := by omega
  have hB1 : Below w.heap.size w w1 := below_alloc_then _ hb1
  obtain ⟨hc1, hf1⟩ := bcell hb1
  clear hb1
  go_wp2_with fail
  go_loopw [10] (fun v wr => StageRel t total leaf n w1 v wr) (fun v _ => n - sliceLen v)
  case atStart =>
    refine ⟨0, by omega, rfl, World.ownsRow_nil _ _ _ _, (Below.refl _ w1).alloc (Nat.le_refl _) _, ?_⟩
    rw [q0]
    exact World.alloc_heap_new _ _
  case round =>
    obtain ⟨k, hk, hlen, hown, hb, hbox⟩ := hrel
    have hsr := hb.size
    obtain ⟨hcr, hfr⟩ := bcell hb
    have hbs : w1.heap.size < wr.heap.size := (Array.getElem?_eq_some_iff.1 hbox).1
    have BX := Lib.hid hbox
    obtain ⟨c0, c1, c2, c3, c4, c5, cf⟩ := cells6 hbox
    clear hbox
    obtain ⟨ga, gc, rfl⟩ := ownsRow_any hown
    by_cases hroot : k = n - 1
    · have q1 : decide (k = n - 1) = true := decide_eq_true hroot
      rw [q1] at c5
      go_wp2
      refine bodyPost_ret (results_tmp2 (fn := Try.f33) (t := 6) (u := 7) rfl _ _ _) rfl ⟨_, rfl, ?_, hB1.trans (hb.mono (by omega))⟩
      rw [← hroot]
      exact ownsRow_le hown (by omega)
    · have q1 : decide (k = n - 1) = false := decide_eq_false hroot
      rw [q1] at c5
      obtain ⟨hf1', hf2'⟩ := HF.out k (by omega)
      go_wp2_with fail
      refine (HP.out k (by omega) _).mono ?_; rintro r w3 ⟨rfl, hb3⟩
      have hs3 := hb3.size
      obtain ⟨d0, d1, d2, d3, d4, d5, df⟩ := cells6 ((hb3.block _ (by omega)).trans BX.out)
      have hB3 : Below w1.heap.size w1 w3 := hb.trans (hb3.mono (by omega))
      obtain ⟨hc3, hf3⟩ := bcell hB3
      have S1 := HS.out (k + 1) (by omega)
      simp only [Int.natCast_add, Int.natCast_one] at S1
      have S1 := Lib.hid S1
      go_wp2_with fail
      refine (S1.out _).mono ?_; rintro r w4 ⟨rfl, hb4⟩
      have hs4 := hb4.size
      have hws : w1.heap.size < w4.heap.size := by omega
      have E4 := (hb4.block _ (by omega)).trans ((hb3.block _ (by omega)).trans BX.out)
      have E4' := Lib.hid E4
      obtain ⟨e0, e1, e2, e3, e4, e5, ef⟩ := cells6 E4
      have hB4 : Below w1.heap.size w1 w4 := hB3.trans (hb4.mono (by omega))
      have hown4 := ownsRow_same' hown (fun g _ g2 => (hb3.trans (hb4.mono hs3)).block g g2)
      have HO4 := Lib.hid hown4
      clear E4 hown4 hown
      go_wp2_with (at_builtin; refine wpList_append_own _ rfl _ _ 83 rfl (w1.heap.size + 1) 89 i0 _ 7 48 Try.underlying83 hi hz0 hz1 hz2 rfl (by decide) (.slice ga k gc) k (stagesL t total leaf k) rfl ?_ ⟨w4.heap.size + 1, 0, none⟩ 1 1 [.int .i64 ((k : Int) + 1), .int .u64 (wayA t.fn (t.rowsOf total) leaf (k + 1) : Nat), .int .u64 (wayS t total leaf (k + 1)).frm, .int .u64 (wayS t total leaf (k + 1)).to_, .bool (wayS t total leaf (k + 1)).last, .bool (decide (k + 1 = n - 1)), .int .u64 ((wayA t.fn (t.rowsOf total) leaf k : Int) - ((wayS t total leaf (k + 1)).frm : Int))] rfl rfl ?_ (by simp [Value.oneCell']) (by unfold maxLen; omega) (by omega) (by simp; omega) ?_; exact (HO4.out.alloc _).alloc _; exact cells_new7 _ _ _ _ _ _ _ _ _ _ (by simp); intro v' w5 hown' hgrow _; have U5 : w5.heap[w4.heap.size]? = some (Obj.cells #[.int .i64 ((k : Int) + 1), .int .u64 (wayA t.fn (t.rowsOf total) leaf (k + 1) : Nat), .int .u64 (wayS t total leaf (k + 1)).frm, .int .u64 (wayS t total leaf (k + 1)).to_, .bool (wayS t total leaf (k + 1)).last, .bool (decide (k + 1 = n - 1))] 87 (0, 0)) := (hgrow.block w4.heap.size (by simp; omega) (fun e => absurd ((HO4.out.lt _ e.symm).2) (Nat.lt_irrefl _))).trans ((Below.heap_alloc _ _ _ (by simp)).trans (World.alloc_heap_new _ _)); have S5 := (hgrow.block w1.heap.size (by simp; omega) (fun e => absurd ((HO4.out.lt _ e.symm).1) (by omega))).trans ((Below.heap_alloc _ _ _ (by simp; omega)).trans ((Below.heap_alloc _ _ _ hws).trans E4'.out)); obtain ⟨u0, u1, u2, u3, u4, u5, uf⟩ := cells6 U5; obtain ⟨s0, s1, s2, s3, s4, s5, sf⟩ := cells6 S5; have S5' := Lib.hid S5; clear U5 S5)
      obtain ⟨g2, cap2, rfl⟩ := ownsRow_form hown' (by omega)
      have hW := HW.out (k + 1) (by omega)
      simp only [Int.natCast_add, Int.natCast_one] at hW
      have hbB : Below w1.heap.size w1 w5 := ((hB4.alloc (by omega) _).alloc (by simp; omega) _).grown hgrow (by simp; omega) (fun j e => by have := (HO4.out.lt j e).1; omega)
      have hset := block_set6 S5'.out (.int .i64 ((k : Int) + 1)) (.int .u64 (wayA t.fn (t.rowsOf total) leaf (k + 1) : Nat)) (.int .u64 (wayS t total leaf (k + 1)).frm) (.int .u64 (wayS t total leaf (k + 1)).to_) (.bool (wayS t total leaf (k + 1)).last) (.bool (decide (k + 1 = n - 1)))
      refine ⟨⟨k + 1, by omega, rfl, ?_, below_set6 hbB (Nat.le_refl _) (.int .i64 ((k : Int) + 1)) (.int .u64 (wayA t.fn (t.rowsOf total) leaf (k + 1) : Nat)) (.int .u64 (wayS t total leaf (k + 1)).frm) (.int .u64 (wayS t total leaf (k + 1)).to_) (.bool (wayS t total leaf (k + 1)).last) (.bool (decide (k + 1 = n - 1))), ?_⟩, by simp [sliceLen]; omega⟩
      · have hown'' : w5.ownsRow (w1.heap.size + 1) 89 7 (.slice (some ⟨g2, 0, none⟩) (k + 1) cap2) (k + 1) (stagesL t total leaf (k + 1)) := by
          show w5.ownsRow _ _ 7 _ _ (stagesL t total leaf k ++ ((wayS t total leaf (k + 1)).cellsL ++ _))
          rw [hW]; exact hown'
        exact (ownsRow_setCell_below (ownsRow_setCell_below (ownsRow_setCell_below (ownsRow_setCell_below (ownsRow_setCell_below (ownsRow_setCell_below hown'' (a := ⟨w1.heap.size, 0, none⟩) (Nat.lt_succ_self _) _) (a := ⟨w1.heap.size, 1, none⟩) (Nat.lt_succ_self _) _) (a := ⟨w1.heap.size, 2, none⟩) (Nat.lt_succ_self _) _) (a := ⟨w1.heap.size, 3, none⟩) (Nat.lt_succ_self _) _) (a := ⟨w1.heap.size, 4, none⟩) (Nat.lt_succ_self _) _) (a := ⟨w1.heap.size, 5, none⟩) (Nat.lt_succ_self _) _)
      · simp only [Int.natCast_add, Int.natCast_one]
        exact hset
end Go.Proofs.Ytkmgkeodmkfnpaa
