/- The way of a leaf up to the root, in plain words. No condition. -/
import Derived.Test.YtkmgkeodmkfnpaaShapeSpots
namespace Go.Proofs.Ytkmgkeodmkfnpaa
open Go.ChangeShapes Go.WideShapes Go.ChangeAt Go.RowKit Go.Joins Go.Shelf Go.Maps

/-- A node that is there. -/
theorem spot_there' {t : TreeV} {total k at_ : Nat} (he : t.err total = 0) (hk : k < (t.rowsOf total).length) (ha : at_ < nth (t.rowsOf total) k) :
    t.spotE total k at_ = 0 ∧ t.spotR total k at_ = spotIn t.fn t.ln total (t.rowsOf total) k at_ := by
  have hth : t.there total k at_ := ⟨by omega, by rw [Int.toNat_natCast]; exact hk, by rw [Int.toNat_natCast]; exact ha⟩
  unfold TreeV.spotE TreeV.spotR
  rw [if_neg (by simp [he]), if_pos hth, if_pos ⟨he, hth⟩, Int.toNat_natCast]
  exact ⟨rfl, rfl⟩
/-- The place, in each row, of what lies above a leaf. -/
def wayA (f : Nat) (L : List Nat) (leaf : Nat) : Nat → Nat
  | 0 => leaf
  | k + 1 => if nth L (k + 1) = 1 then 0 else wayA f L leaf k / f
theorem parent_lt {f p total l : Nat} {L : List Nat} (h : RowsIs f p (lvs total l) L) {k at_ : Nat} (hk : k + 1 < L.length) (ha : at_ < nth L k) : (if nth L (k + 1) = 1 then 0 else at_ / f) < nth L (k + 1) := by
  by_cases h1 : nth L (k + 1) = 1
  · rw [if_pos h1]; omega
  · rw [if_neg h1]
    obtain ⟨e, hf⟩ := h.next_or hk h1
    rw [e]
    rcases Nat.lt_or_ge (at_ / f) (cdiv (nth L k) f) with h' | h'
    · exact h'
    · have := cdiv_ge (by omega) h'
      have d1 := Nat.div_add_mod at_ f
      rw [Nat.mul_comm] at this
      omega
theorem wayA_lt {f p total l : Nat} {L : List Nat} (h : RowsIs f p (lvs total l) L) {leaf : Nat} (hl : leaf < nth L 0) : ∀ k, k < L.length → wayA f L leaf k < nth L k
  | 0, _ => hl
  | k + 1, hk => parent_lt h hk (wayA_lt h hl k (by omega))
/-- The spot of row k on a leaf's way. -/
def wayS (t : TreeV) (total leaf k : Nat) : SpotV := spotIn t.fn t.ln total (t.rowsOf total) k (wayA t.fn (t.rowsOf total) leaf k)
theorem spotIn_rowat (f l total : Nat) (L : List Nat) (row at_ : Nat) : (spotIn f l total L row at_).row = row ∧ (spotIn f l total L row at_).at_ = at_ ∧ (spotIn f l total L row at_).root = decide (1 ≤ row ∧ nth L row = 1) := by
  unfold spotIn
  by_cases h1 : 1 ≤ row ∧ nth L row = 1
  · rw [if_pos h1]; exact ⟨rfl, rfl, (decide_eq_true h1).symm⟩
  · rw [if_neg h1]
    split <;> exact ⟨rfl, rfl, (decide_eq_false h1).symm⟩
/-- All of the way's steps at once: what Spot and Parent answer on it. -/
theorem way_step {t : TreeV} {total : Nat} {leaf : Nat} (he : t.err total = 0) (hl : leaf < nth (t.rowsOf total) 0) {k : Nat} (hk : k < (t.rowsOf total).length) :
    t.spotE total k (wayA t.fn (t.rowsOf total) leaf k) = 0 ∧ t.spotR total k (wayA t.fn (t.rowsOf total) leaf k) = wayS t total leaf k ∧ (wayS t total leaf k).row = k ∧ (wayS t total leaf k).at_ = wayA t.fn (t.rowsOf total) leaf k ∧
      (wayS t total leaf k).root = decide (k = (t.rowsOf total).length - 1) ∧ (k ≠ (t.rowsOf total).length - 1 → t.parV total k (wayA t.fn (t.rowsOf total) leaf k) = wayA t.fn (t.rowsOf total) leaf (k + 1)) := by
  have hR := TreeV.rows_is he
  have ha := wayA_lt hR hl k hk
  obtain ⟨s1, s2⟩ := spot_there' he hk ha
  obtain ⟨r1, r2, r3⟩ := spotIn_rowat t.fn t.ln total (t.rowsOf total) k (wayA t.fn (t.rowsOf total) leaf k)
  have hroot : decide (1 ≤ k ∧ nth (t.rowsOf total) k = 1) = decide (k = (t.rowsOf total).length - 1) := by
    rw [decide_eq_decide]; exact hR.root_iff hk
  refine ⟨s1, s2, r1, r2, r3.trans hroot, fun hne => ?_⟩
  have hr0 : (t.spotR total k (wayA t.fn (t.rowsOf total) leaf k)).root = false := by
    rw [s2, r3, hroot, decide_eq_false hne]
  unfold TreeV.parV
  rw [Int.toNat_natCast]
  by_cases h1 : nth (t.rowsOf total) (k + 1) = 1
  · rw [if_pos (.inr (.inr h1))]
    show 0 = if nth (t.rowsOf total) (k + 1) = 1 then 0 else _
    rw [if_pos h1]
  · rw [if_neg (by simp [s1, hr0, h1])]
    show _ = if nth (t.rowsOf total) (k + 1) = 1 then 0 else _
    rw [if_neg h1]
end Go.Proofs.Ytkmgkeodmkfnpaa
