/- The way of a leaf, by the reference. No condition. -/
import Derived.Test.YtkmgkeodmkfnpaaWayA
import Derived.Lib.SmallJoins
import Derived.Maps.AppendAt
namespace Go.Proofs.Ytkmgkeodmkfnpaa
open Go.ChangeShapes Go.WideShapes Go.ChangeAt Go.RowKit Go.Joins Go.Shelf Go.Maps
attribute [local go_sem] Oper.semAt_some

def SpotV.cellsL (s : SpotV) : List Value := [.int .i64 s.row, .int .u64 s.at_, .int .u64 s.frm, .int .u64 s.to_, .bool s.last, .bool s.root]
/-- The first k spots of a leaf's way, cell by cell. -/
def spotsL (t : TreeV) (total leaf : Nat) : Nat → List Value
  | 0 => []
  | k + 1 => spotsL t total leaf k ++ (wayS t total leaf k).cellsL
def sliceLen : Value → Nat
  | .slice _ n _ => n
  | _ => 0
theorem info_spot : (Try.prog.info? 87).map (fun i => (i.zero, i.size, i.bytes)) = some (some (.agg #[.int .i64 0, .int .u64 0, .int .u64 0, .int .u64 0, .bool false, .bool false]), 6, 40) := by kernel_rfl
theorem ownsRow_same' {W W' : World} {base : Nat} {e : TypeId} {size : Nat} {v : Value} {n : Nat} {xs : List Value} (h : W.ownsRow base e size v n xs) (hb : ∀ g, base ≤ g → g < W.heap.size → W'.heap[g]? = W.heap[g]?) : W'.ownsRow base e size v n xs := by
  refine ⟨h.1, ?_⟩
  rcases h.2 with h2 | ⟨g, cap, cur, h1, h2, h3, h4⟩
  · exact .inl h2
  · exact .inr ⟨g, cap, cur, h1, h2, (hb g h2 (Array.getElem?_eq_some_iff.1 h3).1).trans h3, h4⟩
theorem cells_new6 (W : World) (a0 a1 a2 a3 a4 a5 : Value) (T : TypeId) : ∀ j u, [a0, a1, a2, a3, a4, a5][j]? = some u → (W.alloc (.cells #[a0, a1, a2, a3, a4, a5] T)).cell? (Addr.add ⟨W.heap.size, 0, none⟩ j) = some u := by
  intro j u hj
  have h := cell_of_heap (World.alloc_heap_new W (.cells #[a0, a1, a2, a3, a4, a5] T)) j
  rw [show Addr.add ⟨W.heap.size, 0, none⟩ j = ⟨W.heap.size, j, none⟩ by first | (simp [Addr.add]; done) | (simp [Addr.add]; omega), h]
  rw [← Array.getElem?_toList]; exact hj
theorem cells_new6' (W : World) (a0 a1 a2 a3 a4 a5 : Value) (T : TypeId) (n : Nat) (hn : n = W.heap.size) : ∀ j u, [a0, a1, a2, a3, a4, a5][j]? = some u → (W.alloc (.cells #[a0, a1, a2, a3, a4, a5] T)).cell? (Addr.add ⟨n, 0, none⟩ j) = some u := by
  subst hn; exact cells_new6 W a0 a1 a2 a3 a4 a5 T
theorem cells6 {W : World} {b : Nat} {a0 a1 a2 a3 a4 a5 : Value} {T : TypeId} (h : W.heap[b]? = some (Obj.cells #[a0, a1, a2, a3, a4, a5] T (0, 0))) :
    W.cell? ⟨b, 0, none⟩ = some a0 ∧ W.cell? ⟨b, 1, none⟩ = some a1 ∧ W.cell? ⟨b, 2, none⟩ = some a2 ∧ W.cell? ⟨b, 3, none⟩ = some a3 ∧ W.cell? ⟨b, 4, none⟩ = some a4 ∧ W.cell? ⟨b, 5, none⟩ = some a5 ∧ ∀ i, W.frozen? ⟨b, i, none⟩ = false := by
  have c0 := cell_of_heap h 0
  have c1 := cell_of_heap h 1
  have c2 := cell_of_heap h 2
  have c3 := cell_of_heap h 3
  have c4 := cell_of_heap h 4
  have c5 := cell_of_heap h 5
  simp only [List.getElem?_toArray, List.getElem?_cons_zero, List.getElem?_cons_succ] at c0 c1 c2 c3 c4 c5
  exact ⟨c0, c1, c2, c3, c4, c5, fun i => by simp [World.frozen?, h]⟩
/-- What the loop of the reference's way knows. -/
def WayRel (t : TreeV) (total leaf n : Nat) (w1 : World) (v : Value) (wr : World) : Prop :=
  ∃ k, k < n ∧ sliceLen v = k + 1 ∧ wr.ownsRow (w1.heap.size + 1) 87 6 v (k + 1) (spotsL t total leaf (k + 1)) ∧ Below w1.heap.size w1 wr ∧
    wr.heap[w1.heap.size]? = some (Obj.cells #[.int .i64 (k : Nat), .int .u64 (wayA t.fn (t.rowsOf total) leaf k : Nat), .int .u64 (wayS t total leaf k).frm, .int .u64 (wayS t total leaf k).to_, .bool (wayS t total leaf k).last, .bool (decide (k = n - 1))] 87 (0, 0))
set_option maxRecDepth 100000 in
set_option maxHeartbeats 800000 in
theorem refWay_ok (t : TreeV) (total leaf : Nat) {n : Nat} (hn : 2 ≤ n) (hn2 : n ≤ 255)
    (HS : Hid (∀ k, k < n → ∀ w, Calls Try.prog 69 #[t.val, .int .u64 total, .int .i64 (k : Nat), .int .u64 (wayA t.fn (t.rowsOf total) leaf k : Nat)] w fun r w' => r = .returned (.tuple #[.agg #[.int .i64 (k : Nat), .int .u64 (wayA t.fn (t.rowsOf total) leaf k : Nat), .int .u64 (wayS t total leaf k).frm, .int .u64 (wayS t total leaf k).to_, .bool (wayS t total leaf k).last, .bool (decide (k = n - 1))], .int .i64 0]) ∧ Below w.heap.size w w'))
    (HP : Hid (∀ k, k + 1 < n → ∀ w, Calls Try.prog 70 #[t.val, .int .u64 total, .int .i64 (k : Nat), .int .u64 (wayA t.fn (t.rowsOf total) leaf k : Nat)] w fun r w' => r = .returned (.tuple #[.int .u64 (wayA t.fn (t.rowsOf total) leaf (k + 1) : Nat), .int .i64 0]) ∧ Below w.heap.size w w'))
    (HW : Hid (∀ k, k < n → (wayS t total leaf k).cellsL = [.int .i64 (k : Nat), .int .u64 (wayA t.fn (t.rowsOf total) leaf k : Nat), .int .u64 (wayS t total leaf k).frm, .int .u64 (wayS t total leaf k).to_, .bool (wayS t total leaf k).last, .bool (decide (k = n - 1))])) (w : World) :
    Calls Try.prog 34 #[t.val, .int .u64 total, .int .u64 leaf] w fun e w' => ∃ v, e = .returned (.tuple #[v, .int .i64 0]) ∧ w'.ownsRow w.heap.size 87 6 v n (spotsL t total leaf n) ∧ Below w.heap.size w w' := by
  obtain ⟨i0, hi, hz0, hz1, hz2⟩ := info_parts info_spot
  have S0 := Lib.hid (HS.out 0 (by omega))
  have W0 := Lib.hid (HW.out 0 (by omega))
  unfold TreeV.val at *
  have q0 : decide (0 = n - 1) = false := decide_eq_false (by omega)
  rw [q0] at S0 W0
  simp only [wayA, Int.natCast_zero] at S0 W0
  go_enter Try.func34, Try.ntmps34
  go_wp2_with fail
  refine (S0.out _).mono ?_; rintro r w1 ⟨rfl, hb1⟩
  have hs1 := hb1.size
  simp at hs1
  have k1 : w.heap.size < w1.heap.size := by omega
  have hB1 : Below w.heap.size w w1 := below_alloc_then _ hb1
  obtain ⟨hc1, hf1⟩ := bcell hb1
  clear hb1
  go_wp2_with (at_builtin; refine wpList_append_own _ rfl _ _ 90 rfl (w1.heap.size + 1) 87 i0 _ 6 40 Try.underlying90 hi hz0 hz1 hz2 rfl (by decide) _ _ _ rfl (World.ownsRow_nil _ _ _ _) ⟨w1.heap.size + 1, 0, none⟩ 1 1 [.int .i64 0, .int .u64 leaf, .int .u64 (wayS t total leaf 0).frm, .int .u64 (wayS t total leaf 0).to_, .bool (wayS t total leaf 0).last, .bool false] rfl rfl ?_ (by simp [Value.oneCell']) (by unfold maxLen; omega) (by omega) (by simp) ?_; exact (by have h := cells_new6 (w1.alloc (Obj.cells #[.int .i64 0, .int .u64 leaf, .int .u64 (wayS t total leaf 0).frm, .int .u64 (wayS t total leaf 0).to_, .bool (wayS t total leaf 0).last, .bool false] 87)) (.int .i64 0) (.int .u64 leaf) (.int .u64 (wayS t total leaf 0).frm) (.int .u64 (wayS t total leaf 0).to_) (.bool (wayS t total leaf 0).last) (.bool false) 87; simp only [World.size_alloc] at h; exact h); intro v' w2 hown' hgrow _)
  have hbA : Below (w1.heap.size + 1) (w1.alloc (Obj.cells #[.int .i64 0, .int .u64 leaf, .int .u64 (wayS t total leaf 0).frm, .int .u64 (wayS t total leaf 0).to_, .bool (wayS t total leaf 0).last, .bool false] 87)) w2 :=
    ((Below.refl _ _).alloc (by simp) _).grown hgrow (by simp) (fun k e => by cases e)
  go_loopw [8] (fun v wr => WayRel t total leaf n w1 v wr) (fun v _ => n - sliceLen v)
  case atStart =>
    obtain ⟨g, cap, rfl⟩ := ownsRow_form hown' (by omega)
    refine ⟨0, by omega, rfl, ?_, ((Below.refl _ w1).alloc (Nat.le_refl _) _).trans (hbA.mono (by omega)), ?_⟩
    · show w2.ownsRow _ _ 6 _ _ ([] ++ (wayS t total leaf 0).cellsL)
      rw [W0.out]; exact hown'
    · rw [q0]
      exact (hbA.block _ (by omega)).trans (World.alloc_heap_new _ _)
  case round =>
    obtain ⟨k, hk, hlen, hown, hb, hbox⟩ := hrel
    have hsr := hb.size
    obtain ⟨hcr, hfr⟩ := bcell hb
    have hbs : w1.heap.size < wr.heap.size := (Array.getElem?_eq_some_iff.1 hbox).1
    have BX := Lib.hid hbox
    obtain ⟨c0, c1, c2, c3, c4, c5, cf⟩ := cells6 hbox
    clear hbox
    by_cases hroot : k = n - 1
    · have q1 : decide (k = n - 1) = true := decide_eq_true hroot
      rw [q1] at c5
      obtain ⟨g, cap, rfl⟩ := ownsRow_form hown (by omega)
      go_wp2
      refine bodyPost_ret (results_tmp2 (fn := Try.f34) (t := 6) (u := 7) rfl _ _ _) rfl ⟨_, rfl, ?_, hB1.trans (hb.mono (by omega))⟩
      rw [show n = k + 1 by omega]
      exact ownsRow_le hown (by omega)
    · have q1 : decide (k = n - 1) = false := decide_eq_false hroot
      rw [q1] at c5
      obtain ⟨g, cap, rfl⟩ := ownsRow_form hown (by omega)
      go_wp2_with fail
      refine (HP.out k (by omega) _).mono ?_; rintro r w3 ⟨rfl, hb3⟩
      have hs3 := hb3.size
      obtain ⟨d0, d1, d2, d3, d4, d5, df⟩ := cells6 ((hb3.block _ (by omega)).trans BX.out)
      have hB3 : Below w1.heap.size w1 w3 := hb.trans (hb3.mono (by omega))
      obtain ⟨hc3, hf3⟩ := bcell hB3
      have S1 := HS.out (k + 1) (by omega)
      simp only [Int.natCast_add, Int.natCast_one] at S1
      have S1 := Lib.hid S1
      go_wp2_with fail
      refine (S1.out _).mono ?_; rintro r w4 ⟨rfl, hb4⟩
      have hs4 := hb4.size
      have E4 := (hb4.block _ (by omega)).trans ((hb3.block _ (by omega)).trans BX.out)
      have E4' := Lib.hid E4
      obtain ⟨e0, e1, e2, e3, e4, e5, ef⟩ := cells6 E4
      have hB4 : Below w1.heap.size w1 w4 := hB3.trans (hb4.mono (by omega))
      have hown4 := ownsRow_same' hown (fun g _ g2 => (hb3.trans (hb4.mono hs3)).block g g2)
      have HO4 := Lib.hid hown4
      have HOR := Lib.hid hown
      clear E4 hown4 hown
      go_wp2_with (at_builtin; refine wpList_append_own _ rfl _ _ 90 rfl (w1.heap.size + 1) 87 i0 _ 6 40 Try.underlying90 hi hz0 hz1 hz2 rfl (by decide) (.slice (some ⟨g, 0, none⟩) (k + 1) cap) (k + 1) (spotsL t total leaf (k + 1)) rfl ?_ ⟨w4.heap.size, 0, none⟩ 1 1 [.int .i64 ((k : Int) + 1), .int .u64 (wayA t.fn (t.rowsOf total) leaf (k + 1) : Nat), .int .u64 (wayS t total leaf (k + 1)).frm, .int .u64 (wayS t total leaf (k + 1)).to_, .bool (wayS t total leaf (k + 1)).last, .bool (decide (k + 1 = n - 1))] rfl rfl ?_ (by simp [Value.oneCell']) (by unfold maxLen; omega) (by omega) (by simp; omega) ?_; (have hown4 := HO4.out; exact (ownsRow_setCell_below (ownsRow_setCell_below (ownsRow_setCell_below (ownsRow_setCell_below (ownsRow_setCell_below (ownsRow_setCell_below hown4 (a := ⟨w1.heap.size, 0, none⟩) (Nat.lt_succ_self _) _) (a := ⟨w1.heap.size, 1, none⟩) (Nat.lt_succ_self _) _) (a := ⟨w1.heap.size, 2, none⟩) (Nat.lt_succ_self _) _) (a := ⟨w1.heap.size, 3, none⟩) (Nat.lt_succ_self _) _) (a := ⟨w1.heap.size, 4, none⟩) (Nat.lt_succ_self _) _) (a := ⟨w1.heap.size, 5, none⟩) (Nat.lt_succ_self _) _).alloc _); exact cells_new6' _ _ _ _ _ _ _ _ _ (by simp); intro v' w5 hown' hgrow _)
      obtain ⟨g2, cap2, rfl⟩ := ownsRow_form hown' (by omega)
      have hW := HW.out (k + 1) (by omega)
      simp only [Int.natCast_add, Int.natCast_one] at hW
      have hbB := ((Below.refl (w1.heap.size + 1) _).alloc (by simp; omega) _).grown hgrow (by simp; omega) (fun k e => (HOR.out.lt k e).1)
      have hset := block_set6 E4'.out (.int .i64 ((k : Int) + 1)) (.int .u64 (wayA t.fn (t.rowsOf total) leaf (k + 1) : Nat)) (.int .u64 (wayS t total leaf (k + 1)).frm) (.int .u64 (wayS t total leaf (k + 1)).to_) (.bool (wayS t total leaf (k + 1)).last) (.bool (decide (k + 1 = n - 1)))
      refine ⟨⟨k + 1, by omega, rfl, ?_, (below_set6 hB4 (Nat.le_refl _) (.int .i64 ((k : Int) + 1)) (.int .u64 (wayA t.fn (t.rowsOf total) leaf (k + 1) : Nat)) (.int .u64 (wayS t total leaf (k + 1)).frm) (.int .u64 (wayS t total leaf (k + 1)).to_) (.bool (wayS t total leaf (k + 1)).last) (.bool (decide (k + 1 = n - 1)))).trans (hbB.mono (by omega)), ?_⟩, by simp [sliceLen]; omega⟩
      · show w5.ownsRow _ _ 6 _ _ (spotsL t total leaf (k + 1) ++ (wayS t total leaf (k + 1)).cellsL)
        rw [hW]; exact hown'
      · simp only [Int.natCast_add, Int.natCast_one]
        exact (hbB.block _ (by omega)).trans hset
end Go.Proofs.Ytkmgkeodmkfnpaa
