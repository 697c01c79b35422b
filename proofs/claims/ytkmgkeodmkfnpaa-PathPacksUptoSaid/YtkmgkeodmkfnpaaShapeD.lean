/- The walks of Leaves on both sides, and of the reference's Rows. No condition. -/
import Derived.Test.YtkmgkeodmkfnpaaShapeC
namespace Go.Proofs.Ytkmgkeodmkfnpaa
open Go.ChangeShapes Go.WideShapes Go.ChangeAt Go.RowKit

theorem below_alloc_then {w w1 : World} (o : Obj) (hb : Below (w.alloc o).heap.size (w.alloc o) w1) : Below w.heap.size w w1 :=
  (Below.alloc (Below.refl _ _) (Nat.le_refl _) o).trans (hb.mono (by simp))

theorem ret_t2 {k : IntKind} {a b : Int} {v : Value} (h : a = b) : Ending.returned (.tuple #[.int k a, v]) = .returned (.tuple #[.int k b, v]) := by rw [h]
theorem TreeV.ok_facts {t : TreeV} {total : Nat} (hl : 0 ≤ t.l ∧ t.l ≤ 4294967295) (h : t.err total = 0) : 1 ≤ t.ln ∧ (t.ln : Int) ≤ 4294967295 ∧ t.l = (t.ln : Int) ∧ t.validE = 0 := by
  have h0 := TreeV.err_valid h
  have hv := TreeV.valid_facts h0
  unfold TreeV.ln
  omega
theorem lvs_le (total l : Nat) (hl : 1 ≤ l) (ht : (total : Int) ≤ 18446744073709551615) : (lvs total l : Int) ≤ 18446744073709551615 := by
  have := cdiv_le (n := total) hl
  unfold lvs
  omega
set_option maxRecDepth 100000 in
theorem refLeaves_err (t : TreeV) (hl : 0 ≤ t.l ∧ t.l ≤ 4294967295) (total : Nat) (ht : (total : Int) ≤ 18446744073709551615) (h : t.err total ≠ 0) (w : World) :
    Calls Try.prog 121 #[t.val, .int .u64 total] w fun e w' => e = .returned (.tuple #[.int .u64 0, .int .i64 (t.err total)]) ∧ Below w.heap.size w w' := by
  by_cases h0 : t.validE = 0
  · have hv := TreeV.valid_facts h0
    have H0 := Lib.hid h0
    obtain ⟨-, -, -, -, -, -, -, -, hl0, -, -, -⟩ := hv
    have hl1 : 1 ≤ t.ln := by unfold TreeV.ln; omega
    have hl2 : (t.ln : Int) ≤ 18446744073709551615 := by unfold TreeV.ln; omega
    have HL := Lib.hid (show t.l = (t.ln : Int) by unfold TreeV.ln; omega)
    have h3 : t.k = 2 ∧ 281474976710656 < cdiv total t.ln := by
      unfold TreeV.err at h
      rw [if_neg (by omega)] at h
      by_cases hc : t.k = 2 ∧ 281474976710656 < cdiv total t.ln
      · exact hc
      · rw [if_neg hc] at h; exact absurd rfl h
    have HE : Hid (t.err total = 2) := by show _ = _; simp [TreeV.err, h0, h3]
    obtain ⟨hk, hcd⟩ := h3
    have ek : (t.k == 2) = true := by simpa using hk
    have en : ((cdiv total t.ln : Int) == 0) = false := by rw [beq_eq_false_iff_ne]; omega
    clear hk hl0 h0 h
    unfold TreeV.val
    go_enter Try.func121, Try.ntmps121
    go_wp2_with fail
    refine (refValid_any t _).mono ?_; rintro e w1 ⟨rfl, hb1⟩
    obtain ⟨hc, -⟩ := bcell hb1
    rw [H0.out]
    go_wp2_with (go_at_call 122; rw [HL.out]; refine (up_any total t.ln ht hl1 hl2 _).mono ?_; rintro e w2 ⟨rfl, rfl⟩)
    go_ret2
    exact ⟨by rw [HE.out]; rfl, below_alloc_then _ hb1⟩
  · have e1 : (t.validE != 0) = true := by rw [bne_iff_ne]; exact h0
    have HE : Hid (t.err total = t.validE) := by show _ = _; simp [TreeV.err, h0]
    clear h0 h
    unfold TreeV.val
    go_enter Try.func121, Try.ntmps121
    go_wp2_with fail
    refine (refValid_any t _).mono ?_; rintro e w1 ⟨rfl, hb1⟩
    go_wp2
    go_ret2
    exact ⟨by rw [HE.out]; rfl, below_alloc_then _ hb1⟩
set_option maxRecDepth 100000 in
theorem refLeaves_ok (t : TreeV) (hl : 0 ≤ t.l ∧ t.l ≤ 4294967295) (total : Nat) (ht : (total : Int) ≤ 18446744073709551615) (h : t.err total = 0) (w : World) :
    Calls Try.prog 121 #[t.val, .int .u64 total] w fun e w' => e = .returned (.tuple #[.int .u64 (lvs total t.ln), .int .i64 0]) ∧ Below w.heap.size w w' := by
  obtain ⟨hl1, hl2, HL0, h0⟩ := TreeV.ok_facts hl h
  have HL := Lib.hid HL0
  have H0 := Lib.hid h0
  have hl3 : (t.ln : Int) ≤ 18446744073709551615 := by omega
  have hcd := cdiv_le (n := total) hl1
  by_cases hn : cdiv total t.ln = 0
  · have en : ((cdiv total t.ln : Int) == 0) = true := by rw [beq_iff_eq]; omega
    have hm : Hid ((lvs total t.ln : Int) = 1) := by show _ = _; unfold lvs; omega
    clear h HL0 h0 hn
    by_cases hk : t.k = 2
    · have ek : (t.k == 2) = true := by simpa using hk
      clear hk
      unfold TreeV.val
      go_enter Try.func121, Try.ntmps121
      go_wp2_with fail
      refine (refValid_any t _).mono ?_; rintro e w1 ⟨rfl, hb1⟩
      obtain ⟨hc, -⟩ := bcell hb1
      rw [H0.out]
      go_wp2_with (go_at_call 122; rw [HL.out]; refine (up_any total t.ln ht hl1 hl3 _).mono ?_; rintro e w2 ⟨rfl, rfl⟩)
      go_ret2
      exact ⟨ret_t2 (by rw [hm.out]), below_alloc_then _ hb1⟩
    · have ek : (t.k == 2) = false := by simpa using hk
      clear hk
      unfold TreeV.val
      go_enter Try.func121, Try.ntmps121
      go_wp2_with fail
      refine (refValid_any t _).mono ?_; rintro e w1 ⟨rfl, hb1⟩
      obtain ⟨hc, -⟩ := bcell hb1
      rw [H0.out]
      go_wp2_with (go_at_call 122; rw [HL.out]; refine (up_any total t.ln ht hl1 hl3 _).mono ?_; rintro e w2 ⟨rfl, rfl⟩)
      go_ret2
      exact ⟨ret_t2 (by rw [hm.out]), below_alloc_then _ hb1⟩
  · have en : ((cdiv total t.ln : Int) == 0) = false := by rw [beq_eq_false_iff_ne]; omega
    have hm : Hid ((lvs total t.ln : Int) = cdiv total t.ln) := by show _ = _; unfold lvs; omega
    by_cases hk : t.k = 2
    · have ek : (t.k == 2) = true := by simpa using hk
      have hle : cdiv total t.ln ≤ 281474976710656 := by
        unfold TreeV.err at h
        rw [if_neg (by omega)] at h
        by_cases hc : 281474976710656 < cdiv total t.ln
        · rw [if_pos ⟨hk, hc⟩] at h; cases h
        · omega
      clear hk h HL0 h0 hn
      unfold TreeV.val
      go_enter Try.func121, Try.ntmps121
      go_wp2_with fail
      refine (refValid_any t _).mono ?_; rintro e w1 ⟨rfl, hb1⟩
      obtain ⟨hc, -⟩ := bcell hb1
      rw [H0.out]
      go_wp2_with (go_at_call 122; rw [HL.out]; refine (up_any total t.ln ht hl1 hl3 _).mono ?_; rintro e w2 ⟨rfl, rfl⟩)
      go_ret2
      exact ⟨ret_t2 (by rw [hm.out]), below_alloc_then _ hb1⟩
    · have ek : (t.k == 2) = false := by simpa using hk
      clear hk h HL0 h0 hn
      unfold TreeV.val
      go_enter Try.func121, Try.ntmps121
      go_wp2_with fail
      refine (refValid_any t _).mono ?_; rintro e w1 ⟨rfl, hb1⟩
      obtain ⟨hc, -⟩ := bcell hb1
      rw [H0.out]
      go_wp2_with (go_at_call 122; rw [HL.out]; refine (up_any total t.ln ht hl1 hl3 _).mono ?_; rintro e w2 ⟨rfl, rfl⟩)
      go_ret2
      exact ⟨ret_t2 (by rw [hm.out]), below_alloc_then _ hb1⟩
end Go.Proofs.Ytkmgkeodmkfnpaa
