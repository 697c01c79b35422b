/- The walks of Most on both sides, of every tree and number of rows. No condition. -/
import Derived.Test.YtcjmjmmajckjhaaShapeJ
namespace Go.Proofs.Ytcjmjmmajckjhaa
open Go.ChangeShapes Go.WideShapes Go.ChangeAt Go.RowKit Go.Joins

set_option maxRecDepth 100000 in
theorem most_any (t : TreeV) (hl : 0 ≤ t.l ∧ t.l ≤ 4294967295) (r : Int) (hr : -9223372036854775808 ≤ r ∧ r ≤ 9223372036854775807) (hfr : -9223372036854775808 ≤ t.f ∧ t.f ≤ 9223372036854775807) (w : World) :
    Calls Try.prog 40 #[t.val, .int .i64 r] w fun e w' => e = .returned (.tuple #[.int .u64 (t.most r).1, .bool (t.most r).2.1, .int .i64 (t.most r).2.2]) ∧ Below w.heap.size w w' := by
  by_cases h0 : t.validE = 0
  · have hv := TreeV.valid_facts h0
    have H0 := Lib.hid h0
    obtain ⟨-, -, -, -, -, hf, hp2, hp3, hl0, -, -, -⟩ := hv
    by_cases h1 : r < 2 ∨ t.p < r
    · have HE : Hid (t.most r = (0, false, 1)) := by show _ = _; simp only [TreeV.most, h0]; rw [if_neg (by simp), if_pos h1]
      by_cases h2 : r < 2
      · clear h1 hf h0 hl0
        unfold TreeV.val
        go_enter Try.func40, Try.ntmps40
        go_wp2_with fail
        refine (valid_any t _).mono ?_; rintro e w1 ⟨rfl, hb1⟩
        rw [H0.out]
        obtain ⟨hc, -⟩ := bcell hb1
        go_wp2
        go_ret3
        exact ⟨by rw [HE.out]; rfl, below_alloc_then _ hb1⟩
      · have h3 : t.p < r := by omega
        clear h1 hf h0 hl0
        unfold TreeV.val
        go_enter Try.func40, Try.ntmps40
        go_wp2_with fail
        refine (valid_any t _).mono ?_; rintro e w1 ⟨rfl, hb1⟩
        rw [H0.out]
        obtain ⟨hc, -⟩ := bcell hb1
        go_wp2
        go_ret3
        exact ⟨by rw [HE.out]; rfl, below_alloc_then _ hb1⟩
    · by_cases h2 : t.f = 0
      · have HE : Hid (t.most r = (0, false, 0)) := by show _ = _; simp only [TreeV.most, h0]; rw [if_neg (by simp), if_neg h1, if_pos (.inl h2)]
        have e1 : (t.f == 0) = true := by simpa using h2
        have h4 : 2 ≤ r := by omega
        have h5 : r ≤ t.p := by omega
        clear h1 hf h0 h2 hl0
        unfold TreeV.val
        go_enter Try.func40, Try.ntmps40
        go_wp2_with fail
        refine (valid_any t _).mono ?_; rintro e w1 ⟨rfl, hb1⟩
        rw [H0.out]
        obtain ⟨hc, -⟩ := bcell hb1
        go_wp2
        go_ret3
        exact ⟨by rw [HE.out]; rfl, below_alloc_then _ hb1⟩
      have e1 : (t.f == 0) = false := by simpa using h2
      by_cases h3 : r = t.p
      · have HE : Hid (t.most r = (0, false, 0)) := by show _ = _; simp only [TreeV.most, h0]; rw [if_neg (by simp), if_neg h1, if_pos (.inr h3)]
        have e2 : (r == t.p) = true := by simpa using h3
        have h4 : 2 ≤ r := by omega
        have h5 : r ≤ t.p := by omega
        clear h1 hf h0 h2 h3 hl0
        unfold TreeV.val
        go_enter Try.func40, Try.ntmps40
        go_wp2_with fail
        refine (valid_any t _).mono ?_; rintro e w1 ⟨rfl, hb1⟩
        rw [H0.out]
        obtain ⟨hc, -⟩ := bcell hb1
        go_wp2
        go_ret3
        exact ⟨by rw [HE.out]; rfl, below_alloc_then _ hb1⟩
      have e2 : (r == t.p) = false := by simpa using h3
      obtain ⟨rn, rfl⟩ := Int.eq_ofNat_of_zero_le (show 0 ≤ r by omega)
      have h4 : 2 ≤ (rn : Int) := by omega
      have h5 : (rn : Int) ≤ t.p := by omega
      have h6 : rn ≤ 255 := by omega
      have hfn : t.f = (t.fn : Int) := by unfold TreeV.fn; omega
      have hln : t.l = (t.ln : Int) := by unfold TreeV.ln; omega
      have hfn2 : t.fn ≤ 255 := by omega
      have hfn1 : 1 ≤ t.fn := by omega
      have hlF : Fits t.ln := by unfold Fits; omega
      have hfF : Fits t.fn := by unfold Fits; omega
      have HE : Hid (t.most rn = if Fits (pw t.ln t.fn (rn - 1)) then (pw t.ln t.fn (rn - 1), true, 0) else (0, false, 0)) := by
        show _ = _
        simp only [TreeV.most, h0]; rw [if_neg (by simp), if_neg h1, if_neg (fun h => h.elim h2 h3)]; rfl
      have HF := Lib.hid hfn
      have HL := Lib.hid hln
      clear h1 hf h0 h2 h3 hfn hln hl0
      unfold TreeV.val
      go_enter Try.func40, Try.ntmps40
      go_wp2_with fail
      refine (valid_any t _).mono ?_; rintro e w1 ⟨rfl, hb1⟩
      rw [H0.out]
      have gcf : w1.cell? ⟨w.heap.size, 2, none⟩ = some (.int .i64 t.fn) := by rw [← HF.out]; exact (hb1.cell (p := ⟨w.heap.size, 2, none⟩) (by simp)).trans (by simp [go_sem])
      have gcl : w1.cell? ⟨w.heap.size, 4, none⟩ = some (.int .u32 t.ln) := by rw [← HL.out]; exact (hb1.cell (p := ⟨w.heap.size, 4, none⟩) (by simp)).trans (by simp [go_sem])
      have gcp : w1.cell? ⟨w.heap.size, 3, none⟩ = some (.int .i64 t.p) := (hb1.cell (p := ⟨w.heap.size, 3, none⟩) (by simp)).trans (by simp [go_sem])
      have e1' : ((t.fn : Int) == 0) = false := by rw [beq_eq_false_iff_ne]; omega
      have hl4 : (t.ln : Int) ≤ 4294967295 := by have := HL.out; omega
      go_wp2
      go_loop [8, 38] (fun n i => ∃ k : Nat, k ≤ rn - 1 ∧ i = .int .i64 k ∧ n = .int .u64 (pw t.ln t.fn k : Nat) ∧ Fits (pw t.ln t.fn k)) (fun _ i => (rn - 1) - (intOf i).toNat)
      case atStart => exact ⟨0, Nat.zero_le _, rfl, by rw [pw_zero], by rw [pw_zero]; exact hlF⟩
      case round =>
        obtain ⟨k, hk, rfl, rfl, hfit⟩ := hrel
        have hfl := hfit.le
        by_cases hlt : k < rn - 1
        · by_cases hm : Fits (pw t.ln t.fn (k + 1))
          · go_wp2_with (go_at_call 70; refine (mul64_small _ _ _ hfit hfF (pw_succ _ _ _) hm _).mono ?_; rintro e w2 ⟨rfl, rfl⟩)
            go_round
            case rel => exact ⟨k + 1, by omega, by go_num, rfl, hm⟩
            case measure => simp [intOf]; omega
          · go_wp2_with (go_at_call 70; refine (mul64_big _ _ _ hfit hfF (pw_succ _ _ _) hm _).mono ?_; rintro e w2 ⟨a, b, rfl, hne, rfl⟩)
            go_ret3
            have hno : ¬ Fits (pw t.ln t.fn (rn - 1)) := pow_more hfn1 (show k + 1 ≤ rn - 1 by omega) hm
            exact ⟨by rw [HE.out, if_neg hno]; rfl, below_alloc_then _ hb1⟩
        · obtain rfl : k = rn - 1 := by omega
          go_wp2
          go_ret3
          exact ⟨by rw [HE.out, if_pos hfit]; rfl, below_alloc_then _ hb1⟩
  · have HE : Hid (t.most r = (0, false, t.validE)) := by show _ = _; simp only [TreeV.most]; rw [if_pos h0]
    have e1 : (t.validE != 0) = true := by rw [bne_iff_ne]; exact h0
    clear h0
    unfold TreeV.val
    go_enter Try.func40, Try.ntmps40
    go_wp2_with fail
    refine (valid_any t _).mono ?_; rintro e w1 ⟨rfl, hb1⟩
    go_wp2
    go_ret3
    exact ⟨by rw [HE.out]; rfl, below_alloc_then _ hb1⟩

set_option maxRecDepth 100000 in
theorem refMost_any (t : TreeV) (hl : 0 ≤ t.l ∧ t.l ≤ 4294967295) (r : Int) (hr : -9223372036854775808 ≤ r ∧ r ≤ 9223372036854775807) (hfr : -9223372036854775808 ≤ t.f ∧ t.f ≤ 9223372036854775807) (w : World) :
    Calls Try.prog 41 #[t.val, .int .i64 r] w fun e w' => e = .returned (.tuple #[.int .u64 (t.most r).1, .bool (t.most r).2.1, .int .i64 (t.most r).2.2]) ∧ Below w.heap.size w w' := by
  by_cases h0 : t.validE = 0
  · have hv := TreeV.valid_facts h0
    have H0 := Lib.hid h0
    obtain ⟨-, -, -, -, -, hf, hp2, hp3, hl0, -, -, -⟩ := hv
    by_cases h1 : r < 2 ∨ t.p < r
    · have HE : Hid (t.most r = (0, false, 1)) := by show _ = _; simp only [TreeV.most, h0]; rw [if_neg (by simp), if_pos h1]
      by_cases h2 : r < 2
      · clear h1 hf h0 hl0
        unfold TreeV.val
        go_enter Try.func41, Try.ntmps41
        go_wp2_with fail
        refine (refValid_any t _).mono ?_; rintro e w1 ⟨rfl, hb1⟩
        rw [H0.out]
        obtain ⟨hc, -⟩ := bcell hb1
        go_wp2
        go_ret3
        exact ⟨by rw [HE.out]; rfl, below_alloc_then _ hb1⟩
      · have h3 : t.p < r := by omega
        clear h1 hf h0 hl0
        unfold TreeV.val
        go_enter Try.func41, Try.ntmps41
        go_wp2_with fail
        refine (refValid_any t _).mono ?_; rintro e w1 ⟨rfl, hb1⟩
        rw [H0.out]
        obtain ⟨hc, -⟩ := bcell hb1
        go_wp2
        go_ret3
        exact ⟨by rw [HE.out]; rfl, below_alloc_then _ hb1⟩
    · by_cases h2 : t.f = 0
      · have HE : Hid (t.most r = (0, false, 0)) := by show _ = _; simp only [TreeV.most, h0]; rw [if_neg (by simp), if_neg h1, if_pos (.inl h2)]
        have e1 : (t.f == 0) = true := by simpa using h2
        have h4 : 2 ≤ r := by omega
        have h5 : r ≤ t.p := by omega
        clear h1 hf h0 h2 hl0
        unfold TreeV.val
        go_enter Try.func41, Try.ntmps41
        go_wp2_with fail
        refine (refValid_any t _).mono ?_; rintro e w1 ⟨rfl, hb1⟩
        rw [H0.out]
        obtain ⟨hc, -⟩ := bcell hb1
        go_wp2
        go_ret3
        exact ⟨by rw [HE.out]; rfl, below_alloc_then _ hb1⟩
      have e1 : (t.f == 0) = false := by simpa using h2
      by_cases h3 : r = t.p
      · have HE : Hid (t.most r = (0, false, 0)) := by show _ = _; simp only [TreeV.most, h0]; rw [if_neg (by simp), if_neg h1, if_pos (.inr h3)]
        have e2 : (r == t.p) = true := by simpa using h3
        have h4 : 2 ≤ r := by omega
        have h5 : r ≤ t.p := by omega
        clear h1 hf h0 h2 h3 hl0
        unfold TreeV.val
        go_enter Try.func41, Try.ntmps41
        go_wp2_with fail
        refine (refValid_any t _).mono ?_; rintro e w1 ⟨rfl, hb1⟩
        rw [H0.out]
        obtain ⟨hc, -⟩ := bcell hb1
        go_wp2
        go_ret3
        exact ⟨by rw [HE.out]; rfl, below_alloc_then _ hb1⟩
      have e2 : (r == t.p) = false := by simpa using h3
      obtain ⟨rn, rfl⟩ := Int.eq_ofNat_of_zero_le (show 0 ≤ r by omega)
      have h4 : 2 ≤ (rn : Int) := by omega
      have h5 : (rn : Int) ≤ t.p := by omega
      have h6 : rn ≤ 255 := by omega
      have hfn : t.f = (t.fn : Int) := by unfold TreeV.fn; omega
      have hln : t.l = (t.ln : Int) := by unfold TreeV.ln; omega
      have hfn2 : t.fn ≤ 255 := by omega
      have hfn1 : 1 ≤ t.fn := by omega
      have hlF : Fits t.ln := by unfold Fits; omega
      have hfF : Fits t.fn := by unfold Fits; omega
      have HE : Hid (t.most rn = if Fits (pw t.ln t.fn (rn - 1)) then (pw t.ln t.fn (rn - 1), true, 0) else (0, false, 0)) := by
        show _ = _
        simp only [TreeV.most, h0]; rw [if_neg (by simp), if_neg h1, if_neg (fun h => h.elim h2 h3)]; rfl
      have HF := Lib.hid hfn
      have HL := Lib.hid hln
      clear h1 hf h0 h2 h3 hfn hln hl0
      unfold TreeV.val
      go_enter Try.func41, Try.ntmps41
      go_wp2_with fail
      refine (refValid_any t _).mono ?_; rintro e w1 ⟨rfl, hb1⟩
      rw [H0.out]
      have gcf : w1.cell? ⟨w.heap.size, 2, none⟩ = some (.int .i64 t.fn) := by rw [← HF.out]; exact (hb1.cell (p := ⟨w.heap.size, 2, none⟩) (by simp)).trans (by simp [go_sem])
      have gcl : w1.cell? ⟨w.heap.size, 4, none⟩ = some (.int .u32 t.ln) := by rw [← HL.out]; exact (hb1.cell (p := ⟨w.heap.size, 4, none⟩) (by simp)).trans (by simp [go_sem])
      have gcp : w1.cell? ⟨w.heap.size, 3, none⟩ = some (.int .i64 t.p) := (hb1.cell (p := ⟨w.heap.size, 3, none⟩) (by simp)).trans (by simp [go_sem])
      have e1' : ((t.fn : Int) == 0) = false := by rw [beq_eq_false_iff_ne]; omega
      have hl4 : (t.ln : Int) ≤ 4294967295 := by have := HL.out; omega
      go_wp2
      go_loop [8, 9] (fun n i => ∃ k : Nat, k ≤ rn - 1 ∧ i = .int .i64 (k + 1 : Nat) ∧ n = .int .u64 (pw t.ln t.fn k : Nat) ∧ Fits (pw t.ln t.fn k)) (fun _ i => rn - (intOf i).toNat)
      case atStart => exact ⟨0, Nat.zero_le _, rfl, by rw [pw_zero], by rw [pw_zero]; exact hlF⟩
      case round =>
        obtain ⟨k, hk, rfl, rfl, hfit⟩ := hrel
        have hfl := hfit.le
        by_cases hlt : k < rn - 1
        · by_cases hm : Fits (pw t.ln t.fn (k + 1))
          · go_wp2_with (go_at_call 71; refine (times_small _ _ _ hfit hfF hfn1 (pw_succ _ _ _) hm _).mono ?_; rintro e w2 ⟨rfl, rfl⟩)
            go_round
            case rel => exact ⟨k + 1, by omega, by go_num, rfl, hm⟩
            case measure => simp [intOf]; omega
          · go_wp2_with (go_at_call 71; refine (times_big _ _ _ hfit hfF hfn1 (pw_succ _ _ _) hm _).mono ?_; rintro e w2 ⟨rfl, rfl⟩)
            go_ret3
            have hno : ¬ Fits (pw t.ln t.fn (rn - 1)) := pow_more hfn1 (show k + 1 ≤ rn - 1 by omega) hm
            exact ⟨by rw [HE.out, if_neg hno]; rfl, below_alloc_then _ hb1⟩
        · obtain rfl : k = rn - 1 := by omega
          go_wp2
          go_ret3
          exact ⟨by rw [HE.out, if_pos hfit]; rfl, below_alloc_then _ hb1⟩
  · have HE : Hid (t.most r = (0, false, t.validE)) := by show _ = _; simp only [TreeV.most]; rw [if_pos h0]
    have e1 : (t.validE != 0) = true := by rw [bne_iff_ne]; exact h0
    clear h0
    unfold TreeV.val
    go_enter Try.func41, Try.ntmps41
    go_wp2_with fail
    refine (refValid_any t _).mono ?_; rintro e w1 ⟨rfl, hb1⟩
    go_wp2
    go_ret3
    exact ⟨by rw [HE.out]; rfl, below_alloc_then _ hb1⟩
end Go.Proofs.Ytcjmjmmajckjhaa
