/- Every node's place, by the program and by the reference. No condition. -/
import Derived.Test.YtkmgkeodmkfnpaaShapeO
import Derived.Test.YtkmgkeodmkfnpaaShapeQ
namespace Go.Proofs.Ytkmgkeodmkfnpaa
open Go.ChangeShapes Go.WideShapes Go.ChangeAt Go.RowKit Go.Joins Go.Shelf Go.Maps

theorem refF_val {t : TreeV} {p total : Nat} {L : List Nat} (hfe : t.f = (t.fn : Int)) (hle : t.l = (t.ln : Int)) (hl : 1 ≤ t.ln) (ht : (total : Int) ≤ 18446744073709551615) (h : RowsIs t.fn p (lvs total t.ln) L) {row at_ : Nat} (hr : row < L.length) (ha : at_ < nth L row) :
    refF t.f t.l total row at_ (nth L row) (nth L (row - 1)) (decide (row = L.length - 1)) = (spotIn t.fn t.ln total L row at_).val.cells := by
  have hla : ((at_ : Int) == (nth L row : Int) - 1) = decide (at_ = nth L row - 1) := by
    rw [Bool.eq_iff_iff, beq_iff_eq, decide_eq_true_iff]; omega
  rw [hfe, hle]
  generalize t.fn = f at *
  generalize t.ln = l at *
  unfold refF spotIn
  by_cases hn : 1 ≤ row ∧ nth L row = 1
  · rw [if_pos (decide_eq_true ((h.root_iff hr).1 hn)), if_pos hn, hla]; rfl
  · have hn' : ¬ row = L.length - 1 := fun e => hn ((h.root_iff hr).2 e)
    obtain ⟨b1, b2, -⟩ := spot_bounds hl h hr ha hn
    have hto : ((if row = 0 then total else nth L (row - 1) : Nat) : Int) ≤ 18446744073709551615 := by
      by_cases h0 : row = 0
      · rw [if_pos h0]; exact ht
      · rw [if_neg h0]; exact rows_le hl ht h _ (by omega)
    have e0 : (if row = 0 then (l : Int) else (f : Int)) = ((if row = 0 then l else f : Nat) : Int) := by split <;> rfl
    have w1 : IntKind.u64.wrap ((at_ : Int) * ((if row = 0 then l else f : Nat) : Int)) = ((at_ * (if row = 0 then l else f) : Nat) : Int) := by
      rw [wrap_u64, ← Int.natCast_mul]; omega
    rw [e0, if_neg (by simp; exact hn'), if_neg hn, w1]
    by_cases hz : at_ = nth L row - 1
    · rw [if_pos (show (at_ : Int) = (nth L row : Int) - 1 by omega), if_pos hz]; rfl
    · have b2' := b2 hz
      have w2 : IntKind.u64.wrap (((at_ * (if row = 0 then l else f) : Nat) : Int) + ((if row = 0 then l else f : Nat) : Int)) = (((at_ + 1) * (if row = 0 then l else f) : Nat) : Int) := by
        rw [Nat.add_mul, Nat.one_mul] at b2' ⊢
        rw [wrap_u64, ← Int.natCast_add]; omega
      rw [if_neg (show ¬ (at_ : Int) = (nth L row : Int) - 1 by omega), if_neg hz, w2]; rfl
theorem refSpot_any (t : TreeV) (hl : 0 ≤ t.l ∧ t.l ≤ 4294967295) (total : Nat) (ht : (total : Int) ≤ 18446744073709551615) (row : Int) (at_ : Nat) (w : World) :
    Calls Try.prog 69 #[t.val, .int .u64 total, .int .i64 row, .int .u64 at_] w fun e w' => e = .returned (.tuple #[(t.spotR total row at_).val, .int .i64 (t.spotE total row at_)]) ∧ Below w.heap.size w w' := by
  by_cases he : t.err total = 0
  · obtain ⟨hl1, hl2, hln, h0⟩ := TreeV.ok_facts hl he
    have hvf := TreeV.valid_facts h0
    have hfn : t.f = (t.fn : Int) := by unfold TreeV.fn; omega
    have hR := TreeV.rows_is he
    have hrl := rows_le hl1 ht hR
    have hrc := hR.len
    have hp : (t.pn : Int) ≤ 255 := by unfold TreeV.pn; omega
    have hrm := hR.most
    have HR := Lib.hid (fun w => refRows_ok t hl total ht he w)
    by_cases hth : t.there total row at_
    · unfold TreeV.spotR TreeV.spotE
      rw [if_pos ⟨he, hth⟩, if_neg (by simp [he]), if_pos hth]
      obtain ⟨z0, z1, z2⟩ := hth
      obtain ⟨k, rfl⟩ : ∃ k : Nat, row = k := ⟨row.toNat, by omega⟩
      rw [Int.toNat_natCast] at z1 z2 ⊢
      refine (refSpot_yes' (L := t.rowsOf total) t total (by omega) (by omega) HR (Lib.hid hrl) (by omega) (by omega) (by omega) (by omega) (by omega) k at_ z1 z2 w).mono ?_
      rintro e w' ⟨⟨A, rfl, hA⟩, hb⟩
      refine ⟨?_, hb⟩
      unfold IsRef at hA
      rw [hA, refF_val hfn hln hl1 ht hR z1 z2]
      rfl
    · unfold TreeV.spotR TreeV.spotE
      rw [if_neg (fun h => hth h.2), if_neg (by simp [he]), if_neg hth]
      exact refSpot_no' (L := t.rowsOf total) t total (by omega) HR (Lib.hid hrl) row at_ (Lib.hid hth) w
  · unfold TreeV.spotR TreeV.spotE
    rw [if_neg (fun h => he h.1), if_pos he]
    exact refSpot_err t hl total ht he row at_ w
theorem spot_any (t : TreeV) (hl : 0 ≤ t.l ∧ t.l ≤ 4294967295) (total : Nat) (ht : (total : Int) ≤ 18446744073709551615) (row : Int) (at_ : Nat) (w : World) :
    Calls Try.prog 67 #[t.val, .int .u64 total, .int .i64 row, .int .u64 at_] w fun e w' => e = .returned (.tuple #[(t.spotR total row at_).val, .int .i64 (t.spotE total row at_)]) ∧ Below w.heap.size w w' := by
  by_cases he : t.err total = 0
  · refine (spot_ok t hl total ht he row at_ w).mono ?_
    rintro e w' ⟨rfl, hb⟩
    refine ⟨?_, hb⟩
    unfold TreeV.spotR TreeV.spotE
    by_cases hth : t.there total row at_
    · rw [if_pos (show t.err total = 0 ∧ t.there total row at_ from ⟨he, hth⟩), if_neg (show ¬ (t.err total ≠ 0) by simp [he]), if_pos hth, if_pos hth]
    · rw [if_neg (show ¬ (t.err total = 0 ∧ t.there total row at_) from fun h => hth h.2), if_neg (show ¬ (t.err total ≠ 0) by simp [he]), if_neg hth, if_neg hth]
  · unfold TreeV.spotR TreeV.spotE
    rw [if_neg (fun h => he h.1), if_pos he]
    exact spot_err t hl total ht he row at_ w
end Go.Proofs.Ytkmgkeodmkfnpaa
