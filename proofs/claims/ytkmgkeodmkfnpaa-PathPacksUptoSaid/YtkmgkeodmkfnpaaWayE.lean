/- The number of digests of every path, by the program and by the reference. No condition. -/
import Derived.Test.YtkmgkeodmkfnpaaWayD
namespace Go.Proofs.Ytkmgkeodmkfnpaa
open Go.ChangeShapes Go.WideShapes Go.ChangeAt Go.RowKit Go.Joins Go.Shelf Go.Maps

theorem spotIn_root' {f l total : Nat} {L : List Nat} {row at_ : Nat} (h : 1 ≤ row ∧ nth L row = 1) : spotIn f l total L row at_ = ⟨row, at_, 0, nth L (row - 1), decide (at_ = nth L row - 1), true⟩ := by
  unfold spotIn; rw [if_pos h]
theorem spotIn_last' {f l total : Nat} {L : List Nat} {row at_ : Nat} (h : ¬ (1 ≤ row ∧ nth L row = 1)) (h2 : at_ = nth L row - 1) : spotIn f l total L row at_ = ⟨row, at_, at_ * (if row = 0 then l else f), if row = 0 then total else nth L (row - 1), true, false⟩ := by
  unfold spotIn; rw [if_neg h, if_pos h2]
theorem spotIn_mid' {f l total : Nat} {L : List Nat} {row at_ : Nat} (h : ¬ (1 ≤ row ∧ nth L row = 1)) (h2 : ¬ at_ = nth L row - 1) : spotIn f l total L row at_ = ⟨row, at_, at_ * (if row = 0 then l else f), (at_ + 1) * (if row = 0 then l else f), false, false⟩ := by
  unfold spotIn; rw [if_neg h, if_neg h2]
/-- A node's parent is there, and has the node among its children. -/
theorem child_of' {f p total l : Nat} {L : List Nat} (h : RowsIs f p (lvs total l) L) {k at_ : Nat} (hk : k + 1 < L.length) (ha : at_ < nth L k) :
    (if nth L (k + 1) = 1 then 0 else at_ / f) < nth L (k + 1) ∧ (spotIn f l total L (k + 1) (if nth L (k + 1) = 1 then 0 else at_ / f)).frm ≤ at_ ∧ at_ < (spotIn f l total L (k + 1) (if nth L (k + 1) = 1 then 0 else at_ / f)).to_ := by
  by_cases h1 : nth L (k + 1) = 1
  · rw [if_pos h1, spotIn_root' ⟨by omega, h1⟩]
    refine ⟨by omega, Nat.zero_le _, ?_⟩
    rw [Nat.add_sub_cancel]; exact ha
  · rw [if_neg h1]
    obtain ⟨e, hf⟩ := h.next_or hk h1
    have hf1 : 0 < f := by omega
    have d1 := Nat.div_add_mod at_ f
    have d2 := Nat.mod_lt at_ hf1
    have d3 : at_ / f < cdiv (nth L k) f := by
      rcases Nat.lt_or_ge (at_ / f) (cdiv (nth L k) f) with h' | h'
      · exact h'
      · have := cdiv_ge (by omega) h'
        rw [Nat.mul_comm] at this
        omega
    have hn : ¬ (1 ≤ k + 1 ∧ nth L (k + 1) = 1) := fun h => h1 h.2
    have d4 : at_ / f * f ≤ at_ := Nat.div_mul_le_self _ _
    refine ⟨by rw [e]; exact d3, ?_⟩
    by_cases h2 : at_ / f = nth L (k + 1) - 1
    · rw [spotIn_last' hn h2]
      simp only [Nat.succ_ne_zero, if_false, Nat.add_sub_cancel]
      exact ⟨d4, ha⟩
    · rw [spotIn_mid' hn h2]
      simp only [Nat.succ_ne_zero, if_false]
      refine ⟨d4, ?_⟩
      rw [Nat.add_mul, Nat.one_mul, Nat.mul_comm (at_ / f) f]; omega
theorem spotIn_to_le {f p total l : Nat} {L : List Nat} (hl : 1 ≤ l) (h : RowsIs f p (lvs total l) L) {k A : Nat} (hk : k < L.length) (hk1 : 1 ≤ k) (ha : A < nth L k) : (spotIn f l total L k A).to_ ≤ nth L (k - 1) := by
  by_cases h1 : 1 ≤ k ∧ nth L k = 1
  · rw [spotIn_root' h1]; exact Nat.le_refl _
  · obtain ⟨b1, b2, b3⟩ := spot_bounds hl h hk ha h1
    rw [if_neg (show ¬ k = 0 by omega), if_neg (show ¬ k = 0 by omega)] at b1 b2
    by_cases h2 : A = nth L k - 1
    · rw [spotIn_last' h1 h2]
      show (if k = 0 then total else nth L (k - 1)) ≤ _
      rw [if_neg (by omega)]; exact Nat.le_refl _
    · rw [spotIn_mid' h1 h2]
      show (A + 1) * (if k = 0 then l else f) ≤ _
      rw [if_neg (by omega)]; exact b2 h2
/-- How many digests a path has. -/
def TreeV.sizeR (t : TreeV) (total leaf : Nat) : Int := if t.spotE total 0 leaf ≠ 0 then 0 else sizeW t total leaf ((t.rowsOf total).length - 1)
structure WayFacts (t : TreeV) (total leaf n : Nat) : Prop where
  two : 2 ≤ n
  most : n ≤ 255
  cells : ∀ k, k < n → (wayS t total leaf k).cellsL = [.int .i64 (k : Nat), .int .u64 (wayA t.fn (t.rowsOf total) leaf k : Nat), .int .u64 (wayS t total leaf k).frm, .int .u64 (wayS t total leaf k).to_, .bool (wayS t total leaf k).last, .bool (decide (k = n - 1))]
  child : ∀ k, k + 1 < n → ((wayS t total leaf (k + 1)).frm : Int) ≤ (wayA t.fn (t.rowsOf total) leaf k : Int) ∧ (wayA t.fn (t.rowsOf total) leaf k : Int) ≤ 18446744073709551615
  wide : ∀ k, 1 ≤ k → k < n → ((wayS t total leaf k).frm : Int) + 1 ≤ ((wayS t total leaf k).to_ : Int) ∧ ((wayS t total leaf k).to_ : Int) ≤ 18446744073709551615
  par : ∀ k, k + 1 < n → t.parE total k (wayA t.fn (t.rowsOf total) leaf k) = 0 ∧ t.parV total k (wayA t.fn (t.rowsOf total) leaf k) = wayA t.fn (t.rowsOf total) leaf (k + 1)
  spot : ∀ k, k < n → t.spotE total k (wayA t.fn (t.rowsOf total) leaf k) = 0 ∧ (t.spotR total k (wayA t.fn (t.rowsOf total) leaf k)).val = .agg #[.int .i64 (k : Nat), .int .u64 (wayA t.fn (t.rowsOf total) leaf k : Nat), .int .u64 (wayS t total leaf k).frm, .int .u64 (wayS t total leaf k).to_, .bool (wayS t total leaf k).last, .bool (decide (k = n - 1))]
  at_ : ∀ k, k < n → (wayA t.fn (t.rowsOf total) leaf k : Int) ≤ 18446744073709551615
theorem way_facts {t : TreeV} (hl : 0 ≤ t.l ∧ t.l ≤ 4294967295) {total : Nat} (ht : (total : Int) ≤ 18446744073709551615) {leaf : Nat} (h : t.spotE total 0 leaf = 0) : WayFacts t total leaf (t.rowsOf total).length := by
  have her : t.err total = 0 := by
    by_cases h' : t.err total = 0
    · exact h'
    · unfold TreeV.spotE at h; rw [if_pos h'] at h; exact absurd h h'
  have hleaf : leaf < nth (t.rowsOf total) 0 := by
    unfold TreeV.spotE at h
    rw [if_neg (by simp [her])] at h
    by_cases hth : t.there total 0 leaf
    · exact hth.2.2
    · rw [if_neg hth] at h; omega
  obtain ⟨hl1, hl2, hln, h0⟩ := TreeV.ok_facts hl her
  have hvf := TreeV.valid_facts h0
  have hR := TreeV.rows_is her
  have hm := hR.most
  have hpp : (t.pn : Int) ≤ 255 := by unfold TreeV.pn; omega
  have hA : ∀ k, k < (t.rowsOf total).length → (wayA t.fn (t.rowsOf total) leaf k : Int) ≤ 18446744073709551615 := fun k hk => by
    have := wayA_lt hR hleaf k hk
    have := rows_le hl1 ht hR k hk
    omega
  have hch : ∀ k, k + 1 < (t.rowsOf total).length → (wayS t total leaf (k + 1)).frm ≤ wayA t.fn (t.rowsOf total) leaf k ∧ wayA t.fn (t.rowsOf total) leaf k < (wayS t total leaf (k + 1)).to_ := fun k hk =>
    (child_of' (l := t.ln) hR hk (wayA_lt hR hleaf k (by omega))).2
  refine ⟨hR.len, by omega, fun k hk => ?_, fun k hk => ?_, fun k hk1 hk => ?_, fun k hk => ?_, fun k hk => ?_, hA⟩
  · obtain ⟨-, -, r1, r2, r3, -⟩ := way_step her hleaf hk
    unfold SpotV.cellsL
    rw [r1, r2, r3]
  · have := (hch k hk).1
    have := hA k (by omega)
    omega
  · obtain ⟨j, rfl⟩ : ∃ j, k = j + 1 := ⟨k - 1, by omega⟩
    have h1 := hch j hk
    have h2 : (wayS t total leaf (j + 1)).to_ ≤ nth (t.rowsOf total) j := spotIn_to_le hl1 hR hk (by omega) (wayA_lt hR hleaf _ hk)
    have h3 := rows_le hl1 ht hR j (by omega)
    omega
  · obtain ⟨s1, s2, r1, r2, r3, r4⟩ := way_step her hleaf (show k < (t.rowsOf total).length by omega)
    refine ⟨?_, r4 (by omega)⟩
    unfold TreeV.parE
    rw [if_neg (by simp [s1]), s2, r3, if_neg (by simp; omega)]
  · obtain ⟨s1, s2, r1, r2, r3, -⟩ := way_step her hleaf hk
    refine ⟨s1, ?_⟩
    rw [s2, SpotV.val_is, r1, r2, r3]
theorem size_any (t : TreeV) (hl : 0 ≤ t.l ∧ t.l ≤ 4294967295) (total : Nat) (ht : (total : Int) ≤ 18446744073709551615) (leaf : Nat) (w : World) :
    Calls Try.prog 7 #[t.val, .int .u64 total, .int .u64 leaf] w fun e w' => e = .returned (.tuple #[.int .u64 (t.sizeR total leaf), .int .i64 (t.spotE total 0 leaf)]) ∧ Below w.heap.size w w' := by
  unfold TreeV.sizeR
  by_cases he : t.spotE total 0 leaf = 0
  · rw [if_neg (by simp [he]), he]
    have F := way_facts hl ht he
    refine size_ok t total leaf F.two F.most (Lib.hid fun w => way_ok t total leaf F.two F.most (Lib.hid fun k hk w => ?_) (Lib.hid fun k hk w => ?_) (Lib.hid F.cells) (Lib.hid F.child) w) (Lib.hid F.wide) w
    · have := spot_any t hl total ht (k : Nat) (wayA t.fn (t.rowsOf total) leaf k) w
      rw [(F.spot k hk).1, (F.spot k hk).2] at this
      exact this
    · have := parent_any t hl total ht (k : Nat) (wayA t.fn (t.rowsOf total) leaf k) (F.at_ k (by omega)) w
      rw [(F.par k hk).1, (F.par k hk).2] at this
      exact this
  · rw [if_pos he]
    have A1 := spot_any t hl total ht 0 leaf
    simp only [SpotV.val_is] at A1
    exact size_err t total leaf (Lib.hid fun w => way_err t total leaf (Lib.hid A1) (by rw [bne_iff_ne]; exact he) w) w
theorem refSize_any (t : TreeV) (hl : 0 ≤ t.l ∧ t.l ≤ 4294967295) (total : Nat) (ht : (total : Int) ≤ 18446744073709551615) (leaf : Nat) (w : World) :
    Calls Try.prog 8 #[t.val, .int .u64 total, .int .u64 leaf] w fun e w' => e = .returned (.tuple #[.int .u64 (t.sizeR total leaf), .int .i64 (t.spotE total 0 leaf)]) ∧ Below w.heap.size w w' := by
  unfold TreeV.sizeR
  by_cases he : t.spotE total 0 leaf = 0
  · rw [if_neg (by simp [he]), he]
    have F := way_facts hl ht he
    refine refSize_ok t total leaf F.two F.most (Lib.hid fun w => refWay_ok t total leaf F.two F.most (Lib.hid fun k hk w => ?_) (Lib.hid fun k hk w => ?_) (Lib.hid F.cells) w) (Lib.hid F.wide) w
    · have := refSpot_any t hl total ht (k : Nat) (wayA t.fn (t.rowsOf total) leaf k) w
      rw [(F.spot k hk).1, (F.spot k hk).2] at this
      exact this
    · have := refParent_any t hl total ht (k : Nat) (wayA t.fn (t.rowsOf total) leaf k) (F.at_ k (by omega)) w
      rw [(F.par k hk).1, (F.par k hk).2] at this
      exact this
  · rw [if_pos he]
    have A1 := refSpot_any t hl total ht 0 leaf
    simp only [SpotV.val_is] at A1
    exact refSize_err t total leaf (Lib.hid fun w => refWay_err t total leaf (Lib.hid A1) (by rw [bne_iff_ne]; exact he) w) w
end Go.Proofs.Ytkmgkeodmkfnpaa
