/- ShapeSpots: for every tree, total and place the law returns true. No condition. -/
import Derived.Test.YtkmgkeodmkfnpaaShapeS
namespace Go.Proofs.Ytkmgkeodmkfnpaa
open Go.ChangeShapes Go.WideShapes Go.ChangeAt Go.RowKit Go.Joins Go.Shelf Go.Maps
attribute [local go_sem] Oper.semAt_some

theorem rows_pos {f p total l : Nat} {L : List Nat} (h : RowsIs f p (lvs total l) L) : ∀ k, k < L.length → 1 ≤ nth L k
  | 0, _ => by rw [h.first]; unfold lvs; omega
  | k + 1, hk => by
    have ih := rows_pos h k (by omega)
    rw [h.next k hk]
    unfold rowNext
    split
    · omega
    · exact cdiv_pos ih
/-- A node's parent. -/
def TreeV.parV (t : TreeV) (total : Nat) (row : Int) (at_ : Nat) : Nat := if t.spotE total row at_ ≠ 0 ∨ (t.spotR total row at_).root = true ∨ nth (t.rowsOf total) (row.toNat + 1) = 1 then 0 else at_ / t.fn
def TreeV.parE (t : TreeV) (total : Nat) (row : Int) (at_ : Nat) : Int := if t.spotE total row at_ ≠ 0 then t.spotE total row at_ else if (t.spotR total row at_).root = true then 6 else 0
theorem SpotV.val_is (s : SpotV) : s.val = .agg #[.int .i64 s.row, .int .u64 s.at_, .int .u64 s.frm, .int .u64 s.to_, .bool s.last, .bool s.root] := rfl
/-- What a node that is there and no root comes to. -/
theorem spot_facts {t : TreeV} (hl : 0 ≤ t.l ∧ t.l ≤ 4294967295) {total : Nat} {row : Int} {at_ : Nat} (h : t.spotE total row at_ = 0) (hr : (t.spotR total row at_).root = false) :
    t.err total = 0 ∧ ∃ k : Nat, row = k ∧ k + 1 < (t.rowsOf total).length ∧ (t.rowsOf total).length ≤ 255 ∧ (nth (t.rowsOf total) (k + 1) ≠ 1 → 2 ≤ t.f ∧ t.f ≤ 255) ∧
      t.spotE total ((k : Int) + 1) 0 = 0 ∧ (t.spotR total ((k : Int) + 1) 0).root = decide (nth (t.rowsOf total) (k + 1) = 1) := by
  by_cases he : t.err total = 0
  · refine ⟨he, ?_⟩
    obtain ⟨hl1, hl2, hln, h0⟩ := TreeV.ok_facts hl he
    have hvf := TreeV.valid_facts h0
    have hR := TreeV.rows_is he
    have hm := hR.most
    have hfn : t.f = (t.fn : Int) := by unfold TreeV.fn; omega
    have hpp : (t.pn : Int) ≤ 255 := by unfold TreeV.pn; omega
    unfold TreeV.spotE at h
    rw [if_neg (by simp [he])] at h
    by_cases hth : t.there total row at_
    · unfold TreeV.spotR at hr
      rw [if_pos ⟨he, hth⟩] at hr
      obtain ⟨z0, z1, z2⟩ := hth
      obtain ⟨k, rfl⟩ : ∃ k : Nat, row = k := ⟨row.toNat, by omega⟩
      rw [Int.toNat_natCast] at hr z1 z2
      have hnr : ¬ (1 ≤ k ∧ nth (t.rowsOf total) k = 1) := by
        intro hc
        unfold TreeV.spot spotIn at hr
        rw [if_pos hc] at hr
        simp at hr
      have hk : k + 1 < (t.rowsOf total).length := by
        have : ¬ k = (t.rowsOf total).length - 1 := fun e => hnr ((hR.root_iff z1).2 e)
        omega
      have hth2 : t.there total ((k : Int) + 1) 0 := by
        have e : ((k : Int) + 1).toNat = k + 1 := by omega
        refine ⟨by omega, by rw [e]; exact hk, by rw [e]; exact rows_pos hR _ hk⟩
      refine ⟨k, rfl, hk, by omega, ?_, ?_, ?_⟩
      · intro h1
        have := (hR.next_or hk h1).2
        omega
      · unfold TreeV.spotE
        rw [if_neg (by simp [he]), if_pos hth2]
      · unfold TreeV.spotR
        rw [if_pos ⟨he, hth2⟩, show ((k : Int) + 1).toNat = k + 1 by omega]
        unfold TreeV.spot spotIn
        by_cases h1 : nth (t.rowsOf total) (k + 1) = 1
        · rw [if_pos ⟨by omega, h1⟩]; simp [h1]
        · rw [if_neg (fun h => h1 h.2)]; split <;> simp [h1]
    · rw [if_neg hth] at h; omega
  · unfold TreeV.spotE at h
    rw [if_pos he] at h; exact absurd h he
theorem parent_any (t : TreeV) (hl : 0 ≤ t.l ∧ t.l ≤ 4294967295) (total : Nat) (ht : (total : Int) ≤ 18446744073709551615) (row : Int) (at_ : Nat) (ha : (at_ : Int) ≤ 18446744073709551615) (w : World) :
    Calls Try.prog 68 #[t.val, .int .u64 total, .int .i64 row, .int .u64 at_] w fun r w' => r = .returned (.tuple #[.int .u64 (t.parV total row at_), .int .i64 (t.parE total row at_)]) ∧ Below w.heap.size w w' := by
  have A1 := Lib.hid (fun w => spot_any t hl total ht row at_ w)
  simp only [SpotV.val_is] at A1
  unfold TreeV.parV TreeV.parE
  by_cases he : t.spotE total row at_ = 0
  · rw [he] at A1
    cases hr : (t.spotR total row at_).root with
    | true =>
      rw [hr] at A1
      rw [if_pos (.inr (.inl rfl)), if_neg (by simp [he]), if_pos rfl]
      exact parent_root t total row at_ A1 w
    | false =>
      rw [hr] at A1
      obtain ⟨he0, k, rfl, hk, hk2, hf, e1, e2⟩ := spot_facts hl he hr
      have A2 := Lib.hid (fun w => spot_any t hl total ht ((k : Int) + 1) 0 w)
      simp only [SpotV.val_is] at A2
      rw [e2] at A2
      rw [Int.toNat_natCast]
      by_cases h1 : nth (t.rowsOf total) (k + 1) = 1
      · rw [decide_eq_true h1] at A2
        rw [if_pos (.inr (.inr h1)), if_neg (by simp [he]), if_neg (by simp)]
        exact parent_none t total k at_ A1 A2 (by omega) w
      · rw [decide_eq_false h1] at A2
        rw [if_neg (by simp [he, h1]), if_neg (by simp [he]), if_neg (by simp)]
        exact parent_ok t total k at_ A1 A2 (by omega) (hf h1) ha w
  · rw [if_pos (.inl he), if_pos he]
    exact parent_err t total row at_ A1 (by rw [bne_iff_ne]; exact he) w
theorem refParent_any (t : TreeV) (hl : 0 ≤ t.l ∧ t.l ≤ 4294967295) (total : Nat) (ht : (total : Int) ≤ 18446744073709551615) (row : Int) (at_ : Nat) (ha : (at_ : Int) ≤ 18446744073709551615) (w : World) :
    Calls Try.prog 70 #[t.val, .int .u64 total, .int .i64 row, .int .u64 at_] w fun r w' => r = .returned (.tuple #[.int .u64 (t.parV total row at_), .int .i64 (t.parE total row at_)]) ∧ Below w.heap.size w w' := by
  have A1 := Lib.hid (fun w => refSpot_any t hl total ht row at_ w)
  simp only [SpotV.val_is] at A1
  unfold TreeV.parV TreeV.parE
  by_cases he : t.spotE total row at_ = 0
  · rw [he] at A1
    cases hr : (t.spotR total row at_).root with
    | true =>
      rw [hr] at A1
      rw [if_pos (.inr (.inl rfl)), if_neg (by simp [he]), if_pos rfl]
      exact refParent_root t total row at_ A1 w
    | false =>
      rw [hr] at A1
      obtain ⟨he0, k, rfl, hk, hk2, hf, -, -⟩ := spot_facts hl he hr
      have HR := Lib.hid (fun w => refRows_ok t hl total ht he0 w)
      rw [Int.toNat_natCast]
      by_cases h1 : nth (t.rowsOf total) (k + 1) = 1
      · rw [if_pos (.inr (.inr h1)), if_neg (by simp [he]), if_neg (by simp)]
        exact refParent_none (L := t.rowsOf total) t total k at_ A1 HR hk hk2 (by rw [h1]; rfl) w
      · rw [if_neg (by simp [he, h1]), if_neg (by simp [he]), if_neg (by simp)]
        exact refParent_ok (L := t.rowsOf total) t total k at_ A1 HR hk hk2 (by rw [beq_eq_false_iff_ne]; omega) (hf h1) ha w
  · rw [if_pos (.inl he), if_pos he]
    exact refParent_err t total row at_ A1 (by rw [bne_iff_ne]; exact he) w
end Go.Proofs.Ytkmgkeodmkfnpaa
