/- ShapeTiles: for every tree, total and place the law returns true. No condition. -/
import Derived.Test.YtcjmjmmajckjhaaShapeV
namespace Go.Proofs.Ytcjmjmmajckjhaa
open Go.ChangeShapes Go.WideShapes Go.ChangeAt Go.RowKit Go.Joins Go.Shelf Go.Maps
attribute [local go_sem] Oper.semAt_some

/-- A node that is there. -/
theorem spot_there {t : TreeV} {total k at_ : Nat} (he : t.err total = 0) (hk : k < (t.rowsOf total).length) (ha : at_ < nth (t.rowsOf total) k) :
    t.spotE total k at_ = 0 ∧ t.spotR total k at_ = spotIn t.fn t.ln total (t.rowsOf total) k at_ := by
  have hth : t.there total k at_ := ⟨by omega, by rw [Int.toNat_natCast]; exact hk, by rw [Int.toNat_natCast]; exact ha⟩
  unfold TreeV.spotE TreeV.spotR
  rw [if_neg (by simp [he]), if_pos hth, if_pos ⟨he, hth⟩, Int.toNat_natCast]
  exact ⟨rfl, rfl⟩
theorem spotIn_root {f l total : Nat} {L : List Nat} {row at_ : Nat} (h : 1 ≤ row ∧ nth L row = 1) : spotIn f l total L row at_ = ⟨row, at_, 0, nth L (row - 1), decide (at_ = nth L row - 1), true⟩ := by
  unfold spotIn; rw [if_pos h]
theorem spotIn_last {f l total : Nat} {L : List Nat} {row at_ : Nat} (h : ¬ (1 ≤ row ∧ nth L row = 1)) (h2 : at_ = nth L row - 1) : spotIn f l total L row at_ = ⟨row, at_, at_ * (if row = 0 then l else f), if row = 0 then total else nth L (row - 1), true, false⟩ := by
  unfold spotIn; rw [if_neg h, if_pos h2]
theorem spotIn_mid {f l total : Nat} {L : List Nat} {row at_ : Nat} (h : ¬ (1 ≤ row ∧ nth L row = 1)) (h2 : ¬ at_ = nth L row - 1) : spotIn f l total L row at_ = ⟨row, at_, at_ * (if row = 0 then l else f), (at_ + 1) * (if row = 0 then l else f), false, false⟩ := by
  unfold spotIn; rw [if_neg h, if_neg h2]
/-- A node's parent is there, and has the node among its children. -/
theorem child_of {f p total l : Nat} {L : List Nat} (h : RowsIs f p (lvs total l) L) {k at_ : Nat} (hk : k + 1 < L.length) (ha : at_ < nth L k) :
    (if nth L (k + 1) = 1 then 0 else at_ / f) < nth L (k + 1) ∧ (spotIn f l total L (k + 1) (if nth L (k + 1) = 1 then 0 else at_ / f)).frm ≤ at_ ∧ at_ < (spotIn f l total L (k + 1) (if nth L (k + 1) = 1 then 0 else at_ / f)).to_ := by
  by_cases h1 : nth L (k + 1) = 1
  · rw [if_pos h1, spotIn_root ⟨by omega, h1⟩]
    refine ⟨by omega, Nat.zero_le _, ?_⟩
    rw [Nat.add_sub_cancel]; exact ha
  · rw [if_neg h1]
    obtain ⟨e, hf⟩ := h.next_or hk h1
    have hf1 : 0 < f := by omega
    have d1 := Nat.div_add_mod at_ f
    have d2 := Nat.mod_lt at_ hf1
    have d3 : at_ / f < cdiv (nth L k) f := by
      rcases Nat.lt_or_ge (at_ / f) (cdiv (nth L k) f) with h' | h'
      · exact h'
      · have := cdiv_ge (by omega) h'
        rw [Nat.mul_comm] at this
        omega
    have hn : ¬ (1 ≤ k + 1 ∧ nth L (k + 1) = 1) := fun h => h1 h.2
    have d4 : at_ / f * f ≤ at_ := Nat.div_mul_le_self _ _
    refine ⟨by rw [e]; exact d3, ?_⟩
    by_cases h2 : at_ / f = nth L (k + 1) - 1
    · rw [spotIn_last hn h2]
      simp only [Nat.succ_ne_zero, if_false, Nat.add_sub_cancel]
      exact ⟨d4, ha⟩
    · rw [spotIn_mid hn h2]
      simp only [Nat.succ_ne_zero, if_false]
      refine ⟨d4, ?_⟩
      rw [Nat.add_mul, Nat.one_mul, Nat.mul_comm (at_ / f) f]; omega
theorem hand_any (t : TreeV) (hl : 0 ≤ t.l ∧ t.l ≤ 4294967295) (total : Nat) (ht : (total : Int) ≤ 18446744073709551615) (he : t.err total = 0) {k at_ : Nat} (hk : k < (t.rowsOf total).length) (ha : at_ < nth (t.rowsOf total) k) (w : World) :
    Calls Try.prog 47 #[t.val, .int .u64 total, (t.spotR total k at_).val] w fun r w' => r = .returned (.bool true) ∧ Below w.heap.size w w' := by
  obtain ⟨hl1, hl2, hln, h0⟩ := TreeV.ok_facts hl he
  have hvf := TreeV.valid_facts h0
  have hR := TreeV.rows_is he
  have hm := hR.most
  have hrl := rows_le hl1 ht hR k hk
  have hpp : (t.pn : Int) ≤ 255 := by unfold TreeV.pn; omega
  obtain ⟨e1, e2⟩ := spot_there he hk ha
  have HP := parent_any t hl total ht k at_ (by omega)
  have hval : (t.spotR total k at_).val = .agg #[.int .i64 k, .int .u64 at_, .int .u64 (t.spotR total k at_).frm, .int .u64 (t.spotR total k at_).to_, .bool (t.spotR total k at_).last, .bool (t.spotR total k at_).root] := by
    rw [SpotV.val_is, e2]
    by_cases h1 : 1 ≤ k ∧ nth (t.rowsOf total) k = 1
    · rw [spotIn_root h1]
    · by_cases h2 : at_ = nth (t.rowsOf total) k - 1
      · rw [spotIn_last h1 h2]
      · rw [spotIn_mid h1 h2]
  rw [hval]
  cases hr : (t.spotR total k at_).root with
  | true =>
    have p1 : t.parE total k at_ = 6 := by unfold TreeV.parE; rw [if_neg (by simp [e1]), if_pos hr]
    rw [p1] at HP
    exact hand_root t total k at_ (t.parV total k at_) 0 _ _ _ (Lib.hid HP) w
  | false =>
    obtain ⟨-, k', hk', hk1, -, hf, e3, e4⟩ := spot_facts hl e1 hr
    obtain rfl : k = k' := by omega
    have p1 : t.parE total k at_ = 0 := by unfold TreeV.parE; rw [if_neg (by simp [e1]), if_neg (by simp [hr])]
    have p2 : t.parV total k at_ = if nth (t.rowsOf total) (k + 1) = 1 then 0 else at_ / t.fn := by
      unfold TreeV.parV
      rw [Int.toNat_natCast]
      by_cases h1 : nth (t.rowsOf total) (k + 1) = 1
      · rw [if_pos (.inr (.inr h1)), if_pos h1]
      · rw [if_neg (by simp [e1, hr, h1]), if_neg h1]
    obtain ⟨c1, c2, c3⟩ := child_of (l := t.ln) hR hk1 ha
    rw [← p2] at c1 c2 c3
    rw [p1] at HP
    have HS := spot_any t hl total ht ((k + 1 : Nat) : Int) (t.parV total k at_)
    obtain ⟨s1, s2⟩ := spot_there he hk1 c1
    rw [s1, s2] at HS
    simp only [SpotV.val_is, Int.natCast_add, Int.natCast_one] at HS
    exact hand_in t total k at_ (t.parV total k at_) _ _ _ _ _ _ _ _ _ (Lib.hid HP) (Lib.hid HS) (by omega) (by omega) (by omega) w
theorem tile_facts {f p total l : Nat} {L : List Nat} (hl : 1 ≤ l) (h : RowsIs f p (lvs total l) L) {k A : Nat} (hk : k < L.length) (ha : A < nth L k) :
    (spotIn f l total L k A).row = k ∧ (spotIn f l total L k A).at_ = A ∧ (spotIn f l total L k A).last = decide (A = nth L k - 1) ∧ (spotIn f l total L k A).root = decide (1 ≤ k ∧ nth L k = 1) ∧
      (spotIn f l total L k A).frm ≤ (spotIn f l total L k A).to_ ∧ (A = 0 → (spotIn f l total L k A).frm = 0) ∧
      ((spotIn f l total L k A).to_ = (spotIn f l total L k A).frm → total = 0 ∧ A = 0 ∧ nth L k = 1) ∧
      (A = nth L k - 1 → (spotIn f l total L k A).to_ = (if k = 0 then total else nth L (k - 1))) ∧
      (A ≠ nth L k - 1 → (spotIn f l total L k A).to_ = (spotIn f l total L k A).frm + (if k = 0 then l else f) ∧ (spotIn f l total L k (A + 1)).frm = (spotIn f l total L k A).to_) ∧
      (spotIn f l total L k A).to_ ≤ (if k = 0 then total else nth L (k - 1)) := by
  by_cases h1 : 1 ≤ k ∧ nth L k = 1
  · have hp := rows_pos h (k - 1) (by omega)
    have hk0 : ¬ k = 0 := by omega
    rw [spotIn_root h1]
    refine ⟨rfl, rfl, rfl, by simp [h1], Nat.zero_le _, fun _ => rfl, ?_, ?_, ?_, ?_⟩
    · show nth L (k - 1) = 0 → _
      intro e; omega
    · intro _; rw [if_neg hk0]
    · intro e; exact absurd (by omega) e
    · show nth L (k - 1) ≤ _
      rw [if_neg hk0]; exact Nat.le_refl _
  · obtain ⟨b1, b2, b3⟩ := spot_bounds hl h hk ha h1
    have b4 : A * (if k = 0 then l else f) < (if k = 0 then total else nth L (k - 1)) ∨ (k = 0 ∧ total = 0) := by
      cases k with
      | zero =>
        by_cases h0 : total = 0
        · exact .inr ⟨rfl, h0⟩
        · refine .inl ?_
          rw [if_pos rfl, if_pos rfl]
          rw [h.first] at ha
          unfold lvs at ha
          by_cases hA : A = 0
          · subst hA; simp; omega
          · exact cdiv_lt' hl (by omega)
      | succ j =>
        refine .inl ?_
        rw [if_neg (by omega), if_neg (by omega)]
        obtain ⟨e, hf⟩ := h.next_or hk (fun e => h1 ⟨by omega, e⟩)
        rw [e] at ha
        exact cdiv_lt' (by omega) ha
    have b5 : 1 ≤ (if k = 0 then l else f) := by
      by_cases h0 : k = 0
      · rw [if_pos h0]; exact hl
      · rw [if_neg h0]; exact b3 (by omega)
    have b6 : (A + 1) * (if k = 0 then l else f) = A * (if k = 0 then l else f) + (if k = 0 then l else f) := by rw [Nat.add_mul, Nat.one_mul]
    have b7 : A = 0 → A * (if k = 0 then l else f) = 0 := fun e => by rw [e, Nat.zero_mul]
    by_cases h2 : A = nth L k - 1
    · rw [spotIn_last h1 h2]
      refine ⟨rfl, rfl, (decide_eq_true h2).symm, (decide_eq_false h1).symm, b1, b7, ?_, fun _ => rfl, fun e => absurd h2 e, Nat.le_refl _⟩
      show (if k = 0 then total else nth L (k - 1)) = A * (if k = 0 then l else f) → _
      intro e
      rcases b4 with b4 | ⟨rfl, rfl⟩
      · omega
      · rw [if_pos rfl, if_pos rfl] at e
        have hA : A = 0 := by
          rcases Nat.eq_zero_or_pos A with h' | h'
          · exact h'
          · have := Nat.mul_pos h' (show 0 < l by omega); omega
        exact ⟨rfl, hA, by omega⟩
    · have c1 := b2 h2
      have e3 : (spotIn f l total L k (A + 1)).frm = (A + 1) * (if k = 0 then l else f) := by
        by_cases h3 : A + 1 = nth L k - 1
        · rw [spotIn_last h1 h3]
        · rw [spotIn_mid h1 h3]
      rw [e3, spotIn_mid h1 h2]
      refine ⟨rfl, rfl, (decide_eq_false h2).symm, (decide_eq_false h1).symm, ?_, b7, ?_, fun e => absurd e h2, fun _ => ⟨b6, rfl⟩, c1⟩
      · show A * _ ≤ (A + 1) * _
        omega
      · show (A + 1) * _ = A * _ → _
        intro e; omega
set_option maxRecDepth 100000 in
theorem tiles_err (t : TreeV) (hl : 0 ≤ t.l ∧ t.l ≤ 4294967295) (total : Nat) (ht : (total : Int) ≤ 65535) (he : t.err total ≠ 0) (hv : t.validE = t.err total) (row near : Int) (w : World) :
    Calls Try.prog 13 #[t.val, .int .u16 total, .int .i64 row, .int .u16 near] w (Trues w) := by
  have H1 := Lib.hid (fun w => rows_err t hl total (by omega) he w)
  have H2 := Lib.hid (fun w => refValid_any t w)
  rw [hv] at H2
  have e1 : (t.err total != 0) = true := by rw [bne_iff_ne]; exact he
  have e2 : (t.err total == t.err total) = true := by simp
  clear he hv
  unfold TreeV.val at *
  go_enter Try.func13, Try.ntmps13
  go_wp2_with fail
  refine (awake_any _).mono ?_; rintro e w0 ⟨rfl, hb0⟩
  obtain ⟨hc0, -⟩ := bcell hb0
  have hs0 := hb0.size
  simp at hs0
  have k0 : w.heap.size < w0.heap.size := by omega
  have hB0 : Below w.heap.size w w0 := below_alloc_then _ hb0
  clear hb0
  go_wp2_with fail
  refine (H1.out _).mono ?_; rintro e w1 ⟨rfl, hb1⟩
  have hs1 := hb1.size
  have k1 : w.heap.size < w1.heap.size := by omega
  have hB1 : Below w.heap.size w w1 := hB0.trans (hb1.mono (by omega))
  obtain ⟨hc1, -⟩ := bcell hb1
  clear hb1
  go_wp2_with fail
  refine (H2.out _).mono ?_; rintro e w2 ⟨rfl, hb2⟩
  have hB2 : Below w.heap.size w w2 := hB1.trans (hb2.mono (by omega))
  go_wp2
  go_ret
  exact ⟨rfl, hB2⟩
theorem shapeTiles_walk (t : TreeV) (hl : 0 ≤ t.l ∧ t.l ≤ 4294967295) (total : Nat) (ht : (total : Int) ≤ 65535) (row : Int) (hrow : -9223372036854775808 ≤ row ∧ row ≤ 9223372036854775807) (near : Nat) (hn : (near : Int) ≤ 65535) (w : World) :
    Calls Try.prog 13 #[t.val, .int .u16 total, .int .i64 row, .int .u16 near] w (Trues w) := by
  by_cases he : t.err total = 0
  · have ht' : (total : Int) ≤ 18446744073709551615 := by omega
    obtain ⟨hl1, hl2, hln, h0⟩ := TreeV.ok_facts hl he
    have hvf := TreeV.valid_facts h0
    have hR := TreeV.rows_is he
    have hfn : t.f = (t.fn : Int) := by unfold TreeV.fn; omega
    have hrl := rows_le hl1 ht' hR
    have hrc := hR.len
    have hm := hR.most
    have hpp : (t.pn : Int) = t.p := by unfold TreeV.pn; omega
    have HR : ∀ w, Calls Try.prog 36 #[t.val, .int .u64 total] w fun e w' => ∃ v, e = .returned (.tuple #[v, .int .i64 0]) ∧ w'.ownsRow w.heap.size 33 1 v (t.rowsOf total).length ((t.rowsOf total).map encU) ∧ Below w.heap.size w w' := fun w => rows_ok t hl total ht' he w
    obtain ⟨m, hm2⟩ : ∃ m, (t.rowsOf total).length = m + 2 := ⟨(t.rowsOf total).length - 2, by omega⟩
    rw [hm2] at HR
    have z0 := Int.emod_nonneg row (show ((m : Int) + 2) ≠ 0 by omega)
    have z1 := Int.emod_lt_of_pos row (show (0 : Int) < (m : Int) + 2 by omega)
    obtain ⟨k, hk⟩ : ∃ k : Nat, row % ((m : Int) + 2) = k := ⟨(row % ((m : Int) + 2)).toNat, by omega⟩
    have HRest := fun w => rest_any row ((m : Int) + 2) hrow (by omega) (by omega) w
    rw [hk] at HRest z0 z1
    have hkl : k < (t.rowsOf total).length := by omega
    have hn1 := rows_pos hR k hkl
    have hn2 := hrl k hkl
    obtain ⟨A, hA⟩ : ∃ A, near % nth (t.rowsOf total) k = A := ⟨_, rfl⟩
    have ha : A < nth (t.rowsOf total) k := by rw [← hA]; exact Nat.mod_lt _ (by omega)
    have HA : (A : Int) = (near : Int) % (nth (t.rowsOf total) k : Int) := by rw [← hA]; exact Int.natCast_emod _ _
    obtain ⟨s1, s2⟩ := spot_there he hkl ha
    have HS := fun w => spot_any t hl total ht' (k : Int) A w
    have HH := fun w => hand_any t hl total ht' he hkl ha w
    rw [s1, s2] at HS
    rw [s2] at HH
    obtain ⟨f1, f2, f3, f4, f5, f6, f7, f8, f9, f10⟩ := tile_facts (l := t.ln) hl1 hR hkl ha
    have hroot := hR.root_iff hkl
    have hX : nth (t.rowsOf total) (m + 1) = 1 := by have := hR.last; rwa [hm2] at this
    have hbel : ((if k = 0 then total else nth (t.rowsOf total) (k - 1) : Nat) : Int) ≤ 18446744073709551615 := by
      by_cases h0 : k = 0
      · rw [if_pos h0]; exact ht'
      · rw [if_neg h0]; exact hrl _ (by omega)
    have HN : (spotIn t.fn t.ln total (t.rowsOf total) k A).last = false → ∃ (v0 v1 v3 : Int) (v4 v5 : Bool), ∀ w, Calls Try.prog 42 #[t.val, .int .u64 total, .int .i64 (k : Int), .int .u64 ((A : Int) + 1)] w fun r w' => r = .returned (.tuple #[.agg #[.int .i64 v0, .int .u64 v1, .int .u64 (spotIn t.fn t.ln total (t.rowsOf total) k A).to_, .int .u64 v3, .bool v4, .bool v5], .int .i64 0]) ∧ Below w.heap.size w w' := by
      intro hla
      have h2 : A ≠ nth (t.rowsOf total) k - 1 := by
        intro e; rw [f3, decide_eq_true e] at hla; cases hla
      obtain ⟨n1, n2⟩ := spot_there he hkl (show A + 1 < nth (t.rowsOf total) k by omega)
      have HS2 := fun w => spot_any t hl total ht' (k : Int) (A + 1) w
      rw [n1, n2] at HS2
      simp only [SpotV.val_is] at HS2
      rw [(f9 h2).2] at HS2
      exact ⟨_, _, _, _, _, HS2⟩
    generalize spotIn t.fn t.ln total (t.rowsOf total) k A = s at *
    simp only [SpotV.val_is] at HS HH
    rw [f1, f2] at HS HH
    obtain ⟨kI, hkI⟩ : ∃ kI : Int, kI = (k : Int) := ⟨_, rfl⟩
    rw [← hkI] at HS HH HN HRest
    have q1 : ((A : Int) == (nth (t.rowsOf total) k : Int) - 1) = s.last := by
      rw [f3, Bool.eq_iff_iff, beq_iff_eq, decide_eq_true_iff]; omega
    have q2 : (kI == (m : Int) + 1) = s.root := by
      rw [f4, Bool.eq_iff_iff, beq_iff_eq, decide_eq_true_iff, hroot]; omega
    have qA : ((A : Int) == 0) = decide (A = 0) := by
      rw [Bool.eq_iff_iff, beq_iff_eq, decide_eq_true_iff]; omega
    have qT : ((s.to_ : Int) == (s.frm : Int)) = decide (s.to_ = s.frm) := by
      rw [Bool.eq_iff_iff, beq_iff_eq, decide_eq_true_iff]; omega
    have QF : decide (A = 0) = true → ((s.frm : Int) != 0) = false := by
      intro h; rw [bne_eq_false_iff_eq, f6 (of_decide_eq_true h)]; rfl
    have QT : decide (s.to_ = s.frm) = true → (0 < total) = False := by
      intro h; have := (f7 (of_decide_eq_true h)).1; exact eq_false (by omega)
    have NT : (s.to_ < s.frm) = False := eq_false (by omega)
    have HC : (decide (A = 0) = true ∧ decide (s.to_ = s.frm) = true ∧ s.last = true) ∨ (decide (A = 0) = true ∧ decide (s.to_ = s.frm) = false ∧ s.last = true) ∨ (decide (A = 0) = true ∧ decide (s.to_ = s.frm) = false ∧ s.last = false) ∨ (decide (A = 0) = false ∧ decide (s.to_ = s.frm) = false ∧ s.last = true) ∨ (decide (A = 0) = false ∧ decide (s.to_ = s.frm) = false ∧ s.last = false) := by
      by_cases c1 : s.to_ = s.frm
      · obtain ⟨-, g1, g2⟩ := f7 c1
        exact .inl ⟨decide_eq_true g1, decide_eq_true c1, by rw [f3]; exact decide_eq_true (by omega)⟩
      · rw [decide_eq_false c1]
        cases h1 : decide (A = 0) <;> cases h2 : s.last <;> simp
    have hAI : (A : Int) < (nth (t.rowsOf total) k : Int) := by omega
    have hTI : (s.to_ : Int) ≤ 18446744073709551615 := by omega
    have hlast : s.last = true → A = nth (t.rowsOf total) k - 1 := by intro h; rw [f3] at h; exact of_decide_eq_true h
    have hmid : s.last = false → A ≠ nth (t.rowsOf total) k - 1 := by intro h; rw [f3] at h; exact of_decide_eq_false h
    cases k with
    | zero =>
      obtain rfl : kI = 0 := by simpa using hkI
      have hq0 : ((nth (t.rowsOf total) 0 : Int) == 0) = false := by rw [beq_eq_false_iff_ne]; omega
      refine tiles_0 (L := t.rowsOf total) (m := m) t total near A s.frm s.to_ row s.last s.root (decide (A = 0)) (decide (s.to_ = s.frm)) ht hn (Lib.hid HR) (Lib.hid HRest) (Lib.hid HS) (Lib.hid HH) (Lib.hid HN) (Lib.hid HA) (Lib.hid hX) (by omega) (by omega) (by omega) hn2 hAI hTI (by omega) hl.1 hl.2 (by omega) (by omega) hq0 q1 q2 qA qT (Lib.hid HC) (Lib.hid QF) (Lib.hid QT) (Lib.hid NT) (Lib.hid ?_) (Lib.hid ?_) w
      · intro h; rw [bne_eq_false_iff_eq, f8 (hlast h), if_pos rfl]
      · intro h; have := (f9 (hmid h)).1; rw [if_pos rfl] at this; rw [beq_iff_eq]; omega
    | succ j =>
      obtain rfl : kI = (j : Int) + 1 := by omega
      have hq0 : ((nth (t.rowsOf total) (j + 1) : Int) == 0) = false := by rw [beq_eq_false_iff_ne]; omega
      refine tiles_s (L := t.rowsOf total) (m := m) t total near A s.frm s.to_ row s.last s.root (decide (A = 0)) (decide (s.to_ = s.frm)) j (by omega) (by omega) ht hn (Lib.hid HR) (Lib.hid HRest) (Lib.hid HS) (Lib.hid HH) (Lib.hid HN) (Lib.hid HA) (Lib.hid hX) (by omega) (by omega) (by omega) hn2 hAI hTI (by omega) hl.1 hl.2 (by omega) (by omega) hq0 q1 q2 qA qT (Lib.hid HC) (Lib.hid QF) (Lib.hid QT) (Lib.hid NT) (Lib.hid ?_) (Lib.hid ?_) w
      · intro h; rw [bne_eq_false_iff_eq, f8 (hlast h), if_neg (by omega), Nat.add_sub_cancel]
      · intro h; have := (f9 (hmid h)).1; rw [if_neg (by omega)] at this; rw [beq_iff_eq]; omega
  · refine tiles_err t hl total ht he ?_ row near w
    have hlz : t.validE ≠ 0 ∨ t.validE = 0 := by omega
    unfold TreeV.err at he ⊢
    rcases hlz with h | h
    · rw [if_pos h]
    · exfalso; apply he
      rw [if_neg (by simp [h]), if_neg ?_]
      intro hc
      have := cdiv_le (n := total) (d := t.ln) (by have := (TreeV.valid_facts h); unfold TreeV.ln; omega)
      omega
set_option maxRecDepth 100000 in
theorem open_u16 {H : Type} {enc : TypeId × Value → H} {w : World} {base b0 : Nat} {r : Reach} {spare : Nat → Bool} {held : Bool} {v : Value} {d : DataW H} {ps : List MemPlace}
    (hv : Value.okWide Try.prog w r b0 94 v) (h : DataW.Trod enc Try.prog w base spare held 94 v d ps) :
    ∃ n, v = .int .u16 n ∧ 0 ≤ n ∧ n ≤ 65535 := by
  obtain ⟨x, rfl, rfl, rfl, wx⟩ := open_int Try.underlying94 hv h
  exact ⟨x, rfl, bounds_u16 wx⟩

set_option maxRecDepth 100000 in
theorem shapeTiles_call {H : Type} (enc : TypeId × Value → H) (W : World) (base : Nat) (args : Array Value) (ds : List (DataW H)) (p : List MemPlace)
    (hval : ∀ (j : Nat) t v, Try.f13.params[j]? = some t → args[j]? = some v → Value.okWide Try.prog W .any base t v)
    (hA : DataW.TrodAll enc Try.prog W 0 (fun _ => true) true Try.f13.params.toList args.toList ds p) (hlt : ∀ x ∈ p, x.block < W.heap.size)
    (_ : (DataW.weightsEach Try.prog Try.f13.params.toList ds).all (· ≤ reachBytes) = true) :
    Calls Try.prog 13 args W (Trues W) := by
  rw [Try.params13] at hA hval
  obtain ⟨v0, v1, v2, v3, d0, d1, d2, d3, p0, p1, p2, p3, rfl, rfl, rfl, h0, h1, h2, h3⟩ := trodAll_four hA
  obtain ⟨t, kt, st, zt, rfl, ht⟩ := open_tree (hval 0 32 v0 rfl rfl) h0 (fun x hx => hlt x (by simp [hx]))
  obtain ⟨total', rfl, htotal⟩ := open_u16 (hval 1 94 v1 rfl rfl) h1
  obtain ⟨total, rfl⟩ : ∃ n : Nat, total' = n := ⟨total'.toNat, by omega⟩
  obtain ⟨row, rfl, hrow⟩ := open_i64 (hval 2 3 v2 rfl rfl) h2
  obtain ⟨near', rfl, hnear⟩ := open_u16 (hval 3 94 v3 rfl rfl) h3
  obtain ⟨near, rfl⟩ : ∃ n : Nat, near' = n := ⟨near'.toNat, by omega⟩
  exact shapeTiles_walk t ht.l total htotal.2 row hrow near hnear.2 W

set_option maxRecDepth 100000 in
theorem shapeTiles_lifted (os : Os) (started : os.Started) (H : Type) (enc : TypeId × Value → H) :
    ReturnsInHanded {} Try.checked os 13 .any (Rows.shapeTilesSpec.pre6 enc Try.prog Try.f13 Rows.shapeTilesRow.domain false) (Rows.shapeTilesSpec.post enc Try.prog Try.f13 false true false false) := by
  refine returnsInHanded_of_change_sized (C := Try.checked) own started (by kernel_rfl) Try.func13
    (ChangeSpec.witness6 (enc := enc) (C := Try.checked) false ⟨#[], #[.agg #[.int .i64 0, .int .i64 0, .int .i64 0, .int .i64 0, .int .u32 0, .int .i64 0, .slice none 0 0, .slice none 0 0, .slice none 0 0], .int .u16 0, .int .i64 0, .int .u16 0], []⟩ 40 (by kernel_rfl) (by kernel_rfl) (by kernel_rfl) (by kernel_rfl)) ?_
  intro W base args ds gs before hval0 hW hcnd hz _
  have hW' := hW
  obtain ⟨p, q, hA0, hV, rfl, hfz, hnd⟩ := hW
  have hA : DataW.TrodAll enc Try.prog W 0 (fun _ => true) true Try.f13.params.toList args.toList ds p := hA0
  obtain ⟨rfl, rfl⟩ := trodVars_none hV
  have hz' : (DataW.weightsEach Try.prog Try.f13.params.toList ds).all (· ≤ reachBytes) = true := by
    have e1 : Try.f13.params.toList ++ Rows.shapeTilesSpec.plain.varTypes Try.prog = Try.f13.params.toList := List.append_nil _
    rw [← e1, ← List.append_nil ds]
    exact hz
  refine (shapeTiles_call enc W base args ds p hval0 hA (fun x hx => hW'.lt x (by simpa using hx)) hz').mono fun e W' h => ⟨_, h.1, ?_⟩
  refine post_of_trues laidOut _ rfl Try.underlying4 (by decide +kernel) rfl hW' ?_ h.2
  have hA' := hA
  rw [Try.params13] at hA'
  obtain ⟨v0, v1, v2, v3, d0, d1, d2, d3, p0, p1, p2, p3, rfl, rfl, _⟩ := trodAll_four hA'
  rfl

theorem shapeTiles_holds : Rows.ShapeTilesSaid :=
  OpenClaim.holds_of_wide 13 Try.f13 rfl rfl rfl rfl rfl rfl rfl ⟨rfl, rfl, rfl, rfl, rfl⟩ rfl rfl rfl rfl rfl (by kernel_rfl) Try.func13 (by kernel_rfl)
    (of_decide_eq_true (by kernel_rfl)) (by unfold Func.isWrapper; first | (rw [if_pos (by decide +kernel)]; kernel_rfl) | (rw [if_neg (by decide +kernel)]; exact ⟨rfl, rfl⟩))
    (fun os started H enc _ => shapeTiles_lifted os started H enc)
#print axioms shapeTiles_holds
end Go.Proofs.Ytcjmjmmajckjhaa
