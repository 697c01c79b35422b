/- ShapeEdges: for every tree and number of rows the law returns true. No condition. -/
import Derived.Test.YtcjmjmmajckjhaaShapeK
namespace Go.Proofs.Ytcjmjmmajckjhaa
open Go.ChangeShapes Go.WideShapes Go.ChangeAt Go.RowKit Go.Joins
theorem lt_of_below {W w1 : World} {b : Nat} (hb : Below W.heap.size W w1) (h : b < W.heap.size) : b < w1.heap.size := Nat.lt_of_lt_of_le h hb.size

/-! ### The plain law: at Most so many rows are enough; one byte more needs another -/
theorem cdiv_pow {f : Nat} (hf : 1 ≤ f) (j : Nat) : cdiv (f ^ (j + 1)) f = f ^ j := by
  unfold cdiv
  have e : f ^ (j + 1) = f * f ^ j := by rw [Nat.pow_succ, Nat.mul_comm]
  rw [e, Nat.mul_mod_right, if_pos rfl, Nat.mul_div_cancel_left _ hf]
theorem cdiv_pow1 {f : Nat} (hf : 2 ≤ f) (m : Nat) : cdiv (f * m + 1) f = m + 1 := by
  unfold cdiv
  have e1 : (f * m + 1) % f = 1 := by rw [Nat.mul_add_mod, Nat.mod_eq_of_lt (by omega)]
  have e2 : (f * m + 1) / f = m := by
    rw [Nat.mul_add_div (by omega), Nat.div_eq_of_lt (by omega)]; omega
  rw [e1, e2, if_neg (by omega)]
theorem rows_exact {f p : Nat} (hf : 2 ≤ f) : ∀ (j fuel row : Nat), j + 1 ≤ fuel → row + (j + 1) ≤ p - 1 → (rowsFrom f p fuel row (f ^ (j + 1))).length = j + 1
  | 0, fuel, row, hfu, hr => by
    obtain ⟨k, rfl⟩ : ∃ k, fuel = k + 1 := ⟨fuel - 1, by omega⟩
    rw [rowsFrom_one (by omega) (by omega) (by rw [cdiv_pow (by omega)]; rfl)]
    rfl
  | j + 1, fuel, row, hfu, hr => by
    obtain ⟨k, rfl⟩ : ∃ k, fuel = k + 1 := ⟨fuel - 1, by omega⟩
    have h1 : f ^ (j + 1) ≠ 1 := by
      have := Nat.pow_le_pow_right (show 0 < f by omega) (show 1 ≤ j + 1 by omega)
      simp at this; omega
    rw [rowsFrom_more (by omega) (by rw [cdiv_pow (by omega)]; exact h1), cdiv_pow (by omega), List.length_cons, rows_exact hf j k (row + 1) (by omega) (by omega)]
theorem rows_over {f p : Nat} (hf : 2 ≤ f) : ∀ (j fuel row : Nat), j + 1 ≤ fuel → row + j ≤ p - 1 → (rowsFrom f p fuel row (f ^ j + 1)).length = j + 1
  | 0, fuel, row, hfu, hr => by
    obtain ⟨k, rfl⟩ : ∃ k, fuel = k + 1 := ⟨fuel - 1, by omega⟩
    have h1 : cdiv (f ^ 0 + 1) f = 1 := by
      unfold cdiv
      by_cases h2 : f = 2
      · subst h2; rfl
      · have e1 : (f ^ 0 + 1) % f = 2 := by simp; exact Nat.mod_eq_of_lt (by omega)
        have e2 : (f ^ 0 + 1) / f = 0 := by simp; omega
        rw [e1, e2]; rfl
    by_cases hs : f = 0 ∨ row = p - 1
    · rw [rowsFrom_stop (by omega) hs]; rfl
    · rw [rowsFrom_one (by omega) hs h1]; rfl
  | j + 1, fuel, row, hfu, hr => by
    obtain ⟨k, rfl⟩ : ∃ k, fuel = k + 1 := ⟨fuel - 1, by omega⟩
    have e : f ^ (j + 1) = f * f ^ j := by rw [Nat.pow_succ, Nat.mul_comm]
    have hp := Nat.pow_pos (n := j) (show 0 < f by omega)
    have h1 : cdiv (f ^ (j + 1) + 1) f = f ^ j + 1 := by rw [e, cdiv_pow1 hf]
    rw [rowsFrom_more (by omega) (by rw [h1]; omega), h1, List.length_cons, rows_over hf j k (row + 1) (by omega) (by omega)]
theorem cdiv_mul {l m : Nat} (hl : 1 ≤ l) : cdiv (l * m) l = m := by
  unfold cdiv
  rw [Nat.mul_mod_right, if_pos rfl, Nat.mul_div_cancel_left _ hl]
theorem cdiv_mul1 {l m : Nat} (hl : 1 ≤ l) : cdiv (l * m + 1) l = m + 1 := by
  by_cases h : l = 1
  · subst h; simp [cdiv, Nat.mod_one]
  · exact cdiv_pow1 (by omega) m
theorem edge_at {f p l r : Nat} (hf : 2 ≤ f) (hl : 1 ≤ l) (hr : 2 ≤ r) (hrp : r + 1 ≤ p) : (rowsL f p (lvs (pw l f (r - 1)) l)).length = r := by
  obtain ⟨j, rfl⟩ : ∃ j, r = j + 2 := ⟨r - 2, by omega⟩
  have e : lvs (pw l f (j + 2 - 1)) l = f ^ (j + 1) := by
    have hp := Nat.pow_pos (n := j + 1) (show 0 < f by omega)
    show max 1 (cdiv (l * f ^ (j + 1)) l) = _
    rw [cdiv_mul hl]; omega
  rw [e, rowsL, List.length_cons, rows_exact hf j p 1 (by omega) (by omega)]
theorem edge_over {f p l r : Nat} (hf : 2 ≤ f) (hl : 1 ≤ l) (hr : 2 ≤ r) (hrp : r + 1 ≤ p) : (rowsL f p (lvs (pw l f (r - 1) + 1) l)).length = r + 1 := by
  obtain ⟨j, rfl⟩ : ∃ j, r = j + 2 := ⟨r - 2, by omega⟩
  have e : lvs (pw l f (j + 2 - 1) + 1) l = f ^ (j + 1) + 1 := by
    show max 1 (cdiv (l * f ^ (j + 1) + 1) l) = _
    rw [cdiv_mul1 hl]; omega
  rw [e, rowsL, List.length_cons, rows_over hf (j + 1) p 1 (by omega) (by omega)]

theorem mostE_no {t : TreeV} {r : Int} (h : (t.most r).2.2 ≠ 0) : t.validE ≠ 0 ∨ t.validE = 0 ∧ (r < 2 ∨ t.p < r) := by
  unfold TreeV.most at h
  split at h
  · exact .inl ‹_›
  · split at h
    · refine .inr ⟨by omega, ‹_›⟩
    · split at h
      · exact absurd rfl h
      · split at h <;> exact absurd rfl h
theorem mostE_yes {t : TreeV} {r : Int} (h : (t.most r).2.2 = 0) (h2 : (t.most r).2.1 = true) : t.validE = 0 ∧ 2 ≤ r ∧ r < t.p ∧ t.f ≠ 0 ∧ Fits (pw t.ln t.fn (r.toNat - 1)) ∧ (t.most r).1 = pw t.ln t.fn (r.toNat - 1) := by
  unfold TreeV.most at *
  split at h
  · exact absurd h ‹_›
  · split at h
    · simp at h
    · split at h
      · rw [if_neg (by assumption), if_neg (by assumption), if_pos (by assumption)] at h2; cases h2
      · split at h
        · refine ⟨by omega, by omega, by omega, by omega, ‹_›, ?_⟩
          rw [if_neg (by assumption), if_neg (by assumption), if_neg (by assumption), if_pos (by assumption)]
        · rw [if_neg (by assumption), if_neg (by assumption), if_neg (by assumption), if_neg (by assumption)] at h2; cases h2

set_option maxRecDepth 100000 in
set_option maxHeartbeats 1000000 in
theorem shapeEdges_walk (t : TreeV) (hl : 0 ≤ t.l ∧ t.l ≤ 4294967295) (r : Int) (hr : -9223372036854775808 ≤ r ∧ r ≤ 9223372036854775807) (hfr : -9223372036854775808 ≤ t.f ∧ t.f ≤ 9223372036854775807) (w : World) :
    Calls Try.prog 11 #[t.val, .int .i64 r] w (Trues w) := by
  have H1 := Lib.hid (fun w => most_any t hl r hr hfr w)
  by_cases h3 : (t.most r).2.2 = 0
  · by_cases h2 : (t.most r).2.1 = true
    · obtain ⟨hv, hr1, hr2, hf0, hfit, hm1⟩ := mostE_yes h3 h2
      have hvf := TreeV.valid_facts hv
      obtain ⟨hk, -, -, -, -, hf, hp2, hp3, hl0, -, -, -⟩ := hvf
      by_cases hk2 : t.k = 2
      · have ek : (t.k == 2) = true := by simpa using hk2
        generalize t.most r = m at *
        obtain ⟨a, b, c⟩ := m
        simp only at h3 h2 hm1
        subst h3 h2
        clear hm1 hk hf hl0 hk2 hf0 hv
        unfold TreeV.val
        go_enter Try.func11, Try.ntmps11
        go_wp2_with fail
        refine (awake_any _).mono ?_; rintro e w0 ⟨rfl, hb0⟩
        have hs0 : w.heap.size < w0.heap.size := by have := hb0.size; simp at this; omega
        obtain ⟨hc0, -⟩ := bcell hb0
        go_wp2_with fail
        refine (H1.out _).mono ?_; rintro e w1 ⟨rfl, hb1⟩
        have hs1 := lt_of_below hb1 hs0
        obtain ⟨hc1, -⟩ := bcell hb1
        go_wp2
        go_ret
        exact ⟨rfl, (below_alloc_then _ hb0).trans (hb1.mono (by omega))⟩
      · have ek : (t.k == 2) = false := by simpa using hk2
        obtain ⟨rn, rfl⟩ := Int.eq_ofNat_of_zero_le (show 0 ≤ r by omega)
        have hln1 : 1 ≤ t.ln := by unfold TreeV.ln; omega
        have hfn1 : 2 ≤ t.fn := by unfold TreeV.fn; omega
        have hpn1 : rn + 1 ≤ t.pn := by unfold TreeV.pn; omega
        have hL1 := edge_at (p := t.pn) hfn1 hln1 (show 2 ≤ rn by omega) hpn1
        have hL2 := edge_over (p := t.pn) hfn1 hln1 (show 2 ≤ rn by omega) hpn1
        have hrn : ((rn : Int).toNat - 1) = rn - 1 := by simp
        rw [hrn] at hm1 hfit
        generalize t.most rn = m at *
        obtain ⟨a, b, c⟩ := m
        simp only at h3 h2 hm1
        subst h3 h2 hm1
        have hfl := hfit.le
        generalize pw t.ln t.fn (rn - 1) = n at *
        have herr : ∀ x, t.err x = 0 := fun x => by unfold TreeV.err; rw [if_neg (by simp [hv]), if_neg (fun h => hk2 h.1)]
        have HR1 := Lib.hid (fun w => rows_ok t hl n hfl (herr _) w)
        have HR2 := Lib.hid (fun hn w => rows_ok t hl (n + 1) hn (herr _) w)
        generalize rowsL t.fn t.pn (lvs n t.ln) = L1 at *
        generalize rowsL t.fn t.pn (lvs (n + 1) t.ln) = L2 at *
        have hrn0 : 1 ≤ rn := by omega
        have HL2 := Lib.hid hL2
        have HL1 := Lib.hid hL1
        by_cases hmx : n = 18446744073709551615
        · have e1 : ((n : Int) == 18446744073709551615) = true := by rw [beq_iff_eq]; omega
          clear hk hf hl0 hk2 hf0 hv herr hmx hrn hL1 hL2
          unfold TreeV.val
          go_enter Try.func11, Try.ntmps11
          go_wp2_with fail
          refine (awake_any _).mono ?_; rintro e w0 ⟨rfl, hb0⟩
          have hs0 : w.heap.size < w0.heap.size := by have := hb0.size; simp at this; omega
          obtain ⟨hc0, -⟩ := bcell hb0
          go_wp2_with fail
          refine (H1.out _).mono ?_; rintro e w1 ⟨rfl, hb1⟩
          have hs1 := lt_of_below hb1 hs0
          obtain ⟨hc1, -⟩ := bcell hb1
          go_wp2_with fail
          refine (HR1.out _).mono ?_; rintro e w2 ⟨v, rfl, hown, hb2⟩
          obtain ⟨g, cap, rfl, -, -, -, -⟩ := ownsRow_cells hown (by rw [HL1.out]; omega)
          rw [HL1.out]
          clear hown
          go_wp2
          go_ret
          have k1 := hb1.size
          exact ⟨rfl, ((below_alloc_then _ hb0).trans (hb1.mono (by omega))).trans (hb2.mono (by omega))⟩
        · have e1 : ((n : Int) == 18446744073709551615) = false := by rw [beq_eq_false_iff_ne]; omega
          have hn1 : (n : Int) + 1 ≤ 18446744073709551615 := by omega
          have hr3 : (rn : Int) ≤ 255 := by omega
          clear hk hf hl0 hk2 hf0 hv herr hmx hrn hL1 hL2
          unfold TreeV.val
          go_enter Try.func11, Try.ntmps11
          go_wp2_with fail
          refine (awake_any _).mono ?_; rintro e w0 ⟨rfl, hb0⟩
          have hs0 : w.heap.size < w0.heap.size := by have := hb0.size; simp at this; omega
          obtain ⟨hc0, -⟩ := bcell hb0
          go_wp2_with fail
          refine (H1.out _).mono ?_; rintro e w1 ⟨rfl, hb1⟩
          have hs1 := lt_of_below hb1 hs0
          obtain ⟨hc1, -⟩ := bcell hb1
          go_wp2_with fail
          refine (HR1.out _).mono ?_; rintro e w2 ⟨v, rfl, hown, hb2⟩
          have hs2 := lt_of_below hb2 hs1
          obtain ⟨hc2, -⟩ := bcell hb2
          obtain ⟨g, cap, rfl, -, -, -, -⟩ := ownsRow_cells hown (by rw [HL1.out]; omega)
          rw [HL1.out]
          clear hown
          go_wp2_with fail
          refine (HR2.out (by omega) _).mono ?_; rintro e w3 ⟨v, rfl, hown3, hb3⟩
          obtain ⟨g3, cap3, rfl, -, -, -, -⟩ := ownsRow_cells hown3 (by rw [HL2.out]; omega)
          rw [HL2.out]
          clear hown3
          go_wp2
          go_ret
          have k1 := hb1.size
          have k2 := hb2.size
          exact ⟨rfl, (((below_alloc_then _ hb0).trans (hb1.mono (by omega))).trans (hb2.mono (by omega))).trans (hb3.mono (by omega))⟩
    · generalize t.most r = m at *
      obtain ⟨a, b, c⟩ := m
      simp only at h3 h2
      obtain rfl : b = false := by simpa using h2
      subst h3
      clear h2
      unfold TreeV.val
      go_enter Try.func11, Try.ntmps11
      go_wp2_with fail
      refine (awake_any _).mono ?_; rintro e w0 ⟨rfl, hb0⟩
      have hs0 : w.heap.size < w0.heap.size := by have := hb0.size; simp at this; omega
      obtain ⟨hc0, -⟩ := bcell hb0
      go_wp2_with fail
      refine (H1.out _).mono ?_; rintro e w1 ⟨rfl, hb1⟩
      go_wp2
      go_ret
      exact ⟨rfl, (below_alloc_then _ hb0).trans (hb1.mono (by omega))⟩
  · have hno := mostE_no h3
    have e1 : ((t.most r).2.2 != 0) = true := by rw [bne_iff_ne]; exact h3
    have e2 : ((t.most r).2.2 == 0) = false := by rw [beq_eq_false_iff_ne]; exact h3
    generalize t.most r = m at *
    obtain ⟨a, b, c⟩ := m
    simp only at e1 e2
    clear h3
    rcases hno with hv | ⟨hv, hr2⟩
    · have e3 : (t.validE != 0) = true := by rw [bne_iff_ne]; exact hv
      clear hv
      unfold TreeV.val
      go_enter Try.func11, Try.ntmps11
      go_wp2_with fail
      refine (awake_any _).mono ?_; rintro e w0 ⟨rfl, hb0⟩
      have hs0 : w.heap.size < w0.heap.size := by have := hb0.size; simp at this; omega
      obtain ⟨hc0, -⟩ := bcell hb0
      go_wp2_with fail
      refine (H1.out _).mono ?_; rintro e w1 ⟨rfl, hb1⟩
      have hs1 := lt_of_below hb1 hs0
      obtain ⟨hc1, -⟩ := bcell hb1
      go_wp2_with fail
      refine (refValid_any t _).mono ?_; rintro e w2 ⟨rfl, hb2⟩
      go_wp2
      go_ret
      have k1 := hb1.size
      exact ⟨rfl, ((below_alloc_then _ hb0).trans (hb1.mono (by omega))).trans (hb2.mono (by omega))⟩
    · have HV := Lib.hid hv
      clear hv
      by_cases hr3 : r < 2
      all_goals
        unfold TreeV.val
        go_enter Try.func11, Try.ntmps11
        go_wp2_with fail
        refine (awake_any _).mono ?_; rintro e w0 ⟨rfl, hb0⟩
        have hs0 : w.heap.size < w0.heap.size := by have := hb0.size; simp at this; omega
        obtain ⟨hc0, -⟩ := bcell hb0
        go_wp2_with fail
        refine (H1.out _).mono ?_; rintro e w1 ⟨rfl, hb1⟩
        have hs1 := lt_of_below hb1 hs0
        obtain ⟨hc1, -⟩ := bcell hb1
        go_wp2_with fail
        refine (refValid_any t _).mono ?_; rintro e w2 ⟨rfl, hb2⟩
        rw [HV.out]
        obtain ⟨hc2, -⟩ := bcell hb2
        go_wp2
        go_ret
        have k1 := hb1.size
        have hd : (decide (r < 2) || decide (t.p < r)) = true := by simp; omega
        exact ⟨by first | rfl | exact congrArg (fun b => Ending.returned (.bool b)) hd, ((below_alloc_then _ hb0).trans (hb1.mono (by omega))).trans (hb2.mono (by omega))⟩

set_option maxRecDepth 100000 in
theorem shapeEdges_call {H : Type} (enc : TypeId × Value → H) (W : World) (base : Nat) (args : Array Value) (ds : List (DataW H)) (p : List MemPlace)
    (hval : ∀ (j : Nat) t v, Try.f11.params[j]? = some t → args[j]? = some v → Value.okWide Try.prog W .any base t v)
    (hA : DataW.TrodAll enc Try.prog W 0 (fun _ => true) true Try.f11.params.toList args.toList ds p) (hlt : ∀ x ∈ p, x.block < W.heap.size)
    (_ : (DataW.weightsEach Try.prog Try.f11.params.toList ds).all (· ≤ reachBytes) = true) :
    Calls Try.prog 11 args W (Trues W) := by
  rw [Try.params11] at hA hval
  obtain ⟨v0, v1, d0, d1, p0, p1, rfl, rfl, rfl, h0, h1⟩ := trodAll_two hA
  obtain ⟨t, kz, sz, pz, rfl, ht⟩ := open_tree (hval 0 32 v0 rfl rfl) h0 (fun x hx => hlt x (by simp [hx]))
  obtain ⟨r, rfl, hr⟩ := open_i64 (hval 1 3 v1 rfl rfl) h1
  exact shapeEdges_walk t ht.l r hr ht.f W

set_option maxRecDepth 100000 in
theorem shapeEdges_lifted (os : Os) (started : os.Started) (H : Type) (enc : TypeId × Value → H) :
    ReturnsInHanded {} Try.checked os 11 .any (Rows.shapeEdgesSpec.pre6 enc Try.prog Try.f11 Rows.shapeEdgesRow.domain false) (Rows.shapeEdgesSpec.post enc Try.prog Try.f11 false true false false) := by
  refine returnsInHanded_of_change_sized (C := Try.checked) own started (by kernel_rfl) Try.func11
    (ChangeSpec.witness6 (enc := enc) (C := Try.checked) false ⟨#[], #[.agg #[.int .i64 0, .int .i64 0, .int .i64 0, .int .i64 0, .int .u32 0, .int .i64 0, .slice none 0 0, .slice none 0 0, .slice none 0 0], .int .i64 0], []⟩ 40 (by kernel_rfl) (by kernel_rfl) (by kernel_rfl) (by kernel_rfl)) ?_
  intro W base args ds gs before hval0 hW hcnd hz _
  have hW' := hW
  obtain ⟨p, q, hA0, hV, rfl, hfz, hnd⟩ := hW
  have hA : DataW.TrodAll enc Try.prog W 0 (fun _ => true) true Try.f11.params.toList args.toList ds p := hA0
  obtain ⟨rfl, rfl⟩ := trodVars_none hV
  have hz' : (DataW.weightsEach Try.prog Try.f11.params.toList ds).all (· ≤ reachBytes) = true := by
    have e1 : Try.f11.params.toList ++ Rows.shapeEdgesSpec.plain.varTypes Try.prog = Try.f11.params.toList := List.append_nil _
    rw [← e1, ← List.append_nil ds]
    exact hz
  refine (shapeEdges_call enc W base args ds p hval0 hA (fun x hx => hW'.lt x (by simpa using hx)) hz').mono fun e W' h => ⟨_, h.1, ?_⟩
  refine post_of_trues laidOut _ rfl Try.underlying4 (by decide +kernel) rfl hW' ?_ h.2
  have hA' := hA
  rw [Try.params11] at hA'
  obtain ⟨v0, v1, d0, d1, p0, p1, rfl, rfl, _⟩ := trodAll_two hA'
  rfl

theorem shapeEdges_holds : Rows.ShapeEdgesSaid :=
  OpenClaim.holds_of_wide 11 Try.f11 rfl rfl rfl rfl rfl rfl rfl ⟨rfl, rfl, rfl, rfl, rfl⟩ rfl rfl rfl rfl rfl (by kernel_rfl) Try.func11 (by kernel_rfl)
    (of_decide_eq_true (by kernel_rfl)) (by unfold Func.isWrapper; first | (rw [if_pos (by decide +kernel)]; kernel_rfl) | (rw [if_neg (by decide +kernel)]; exact ⟨rfl, rfl⟩))
    (fun os started H enc _ => shapeEdges_lifted os started H enc)
#print axioms shapeEdges_holds
end Go.Proofs.Ytcjmjmmajckjhaa
