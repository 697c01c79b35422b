/- A way's children, as numbers; the bytes of every path, by the program and by the reference. No condition. -/
import Derived.Test.YtkmgkeodmkfnpaaPackG
namespace Go.Proofs.Ytkmgkeodmkfnpaa
open Go.ChangeShapes Go.WideShapes Go.ChangeAt Go.RowKit Go.Joins Go.Shelf Go.Maps

/-- A node has at most one child more than there are nodes fewer in its row. -/
theorem kids_le {f p total l : Nat} {L : List Nat} (h : RowsIs f p (lvs total l) L) {k A : Nat} (hk : k + 1 < L.length) (ha : A < nth L (k + 1)) :
    (spotIn f l total L (k + 1) A).to_ + nth L (k + 1) ≤ nth L k + (spotIn f l total L (k + 1) A).frm + 1 := by
  by_cases h1 : nth L (k + 1) = 1
  · rw [spotIn_root' ⟨by omega, h1⟩]
    show nth L (k + 1 - 1) + nth L (k + 1) ≤ nth L k + 0 + 1
    rw [Nat.add_sub_cancel, h1]; omega
  · have hn : ¬ (1 ≤ k + 1 ∧ nth L (k + 1) = 1) := fun h => h1 h.2
    obtain ⟨e, hf⟩ := h.next_or hk h1
    have hf1 : 1 ≤ f := by omega
    by_cases h2 : A = nth L (k + 1) - 1
    · rw [spotIn_last' hn h2]
      simp only [Nat.succ_ne_zero, if_false, Nat.add_sub_cancel]
      have : A ≤ A * f := Nat.le_mul_of_pos_right A hf1
      omega
    · rw [spotIn_mid' hn h2]
      simp only [Nat.succ_ne_zero, if_false]
      have hlt := cdiv_lt' (m := nth L k) (d := f) (k := nth L (k + 1) - 1) hf1 (by rw [← e]; omega)
      obtain ⟨c, hc⟩ : ∃ c, nth L (k + 1) = c + 2 := ⟨nth L (k + 1) - 2, by omega⟩
      rw [hc] at hlt ⊢
      have e3 : (c + 2 - 1) * f = c * f + f := by rw [show c + 2 - 1 = c + 1 by omega, Nat.add_mul, Nat.one_mul]
      rw [e3] at hlt
      have : c ≤ c * f := Nat.le_mul_of_pos_right c hf1
      rw [Nat.add_mul, Nat.one_mul]
      omega
structure KidFacts (t : TreeV) (total leaf k : Nat) : Prop where
  le : (wayS t total leaf (k + 1)).frm ≤ wayA t.fn (t.rowsOf total) leaf k
  lt : wayA t.fn (t.rowsOf total) leaf k < (wayS t total leaf (k + 1)).to_
  to : ((wayS t total leaf (k + 1)).to_ : Int) ≤ 18446744073709551615
  few : (wayS t total leaf (k + 1)).to_ + nth (t.rowsOf total) (k + 1) ≤ nth (t.rowsOf total) k + (wayS t total leaf (k + 1)).frm + 1
theorem way_kids {t : TreeV} (hl : 0 ≤ t.l ∧ t.l ≤ 4294967295) {total : Nat} (ht : (total : Int) ≤ 18446744073709551615) {leaf : Nat} (h : t.spotE total 0 leaf = 0) :
    (∀ k, k + 1 < (t.rowsOf total).length → KidFacts t total leaf k) ∧ (nth (t.rowsOf total) 0 : Int) ≤ 18446744073709551615 ∧ 1 ≤ t.i ∧ t.i ≤ 64 ∧ t.validE = 0 := by
  have her : t.err total = 0 := by
    by_cases h' : t.err total = 0
    · exact h'
    · unfold TreeV.spotE at h; rw [if_pos h'] at h; exact absurd h h'
  have hleaf : leaf < nth (t.rowsOf total) 0 := by
    unfold TreeV.spotE at h
    rw [if_neg (by simp [her])] at h
    by_cases hth : t.there total 0 leaf
    · exact hth.2.2
    · rw [if_neg hth] at h; omega
  obtain ⟨hl1, hl2, hln, h0⟩ := TreeV.ok_facts hl her
  have hvf := TreeV.valid_facts h0
  have hR := TreeV.rows_is her
  refine ⟨fun k hk => ?_, rows_le hl1 ht hR 0 (by have := hR.len; omega), by omega, ?_, h0⟩
  · have hch := (child_of' (l := t.ln) hR hk (wayA_lt hR hleaf k (by omega))).2
    have h2 : (wayS t total leaf (k + 1)).to_ ≤ nth (t.rowsOf total) k := spotIn_to_le hl1 hR hk (by omega) (wayA_lt hR hleaf _ hk)
    have h3 := rows_le hl1 ht hR k (by omega)
    exact ⟨hch.1, hch.2, by omega, kids_le hR hk (wayA_lt hR hleaf _ hk)⟩
  · rcases hvf.1 with e | e <;> rw [e] at hvf <;> simp [sizeK] at hvf <;> omega
/-- How many digests lie before, behind the one on the way, at the k-th step. -/
def chN (t : TreeV) (total leaf k : Nat) : Nat := wayA t.fn (t.rowsOf total) leaf k - (wayS t total leaf (k + 1)).frm
def afN (t : TreeV) (total leaf k : Nat) : Nat := (wayS t total leaf (k + 1)).to_ - wayA t.fn (t.rowsOf total) leaf k - 1
def needN (t : TreeV) (total leaf : Nat) : Nat → Nat
  | 0 => 0
  | k + 1 => needN t total leaf k + (chN t total leaf k + afN t total leaf k)
theorem needN_le {t : TreeV} {total leaf n : Nat} (hk : ∀ k, k + 1 < n → KidFacts t total leaf k) : ∀ k, k < n → needN t total leaf k + nth (t.rowsOf total) k ≤ nth (t.rowsOf total) 0
  | 0, _ => by simp [needN]
  | k + 1, h => by
    have ih := needN_le hk k (by omega)
    obtain ⟨h1, h2, h3, h4⟩ := hk k h
    simp only [needN, chN, afN]
    omega
theorem sizeW_need {t : TreeV} {total leaf n : Nat} (hk : ∀ k, k + 1 < n → KidFacts t total leaf k) (h0 : (nth (t.rowsOf total) 0 : Int) ≤ 18446744073709551615) : ∀ k, k < n → sizeW t total leaf k = (needN t total leaf k : Int)
  | 0, _ => rfl
  | k + 1, h => by
    have ih := sizeW_need hk h0 k (by omega)
    obtain ⟨h1, h2, h3, h4⟩ := hk k h
    have h5 := needN_le hk (k + 1) h
    simp only [sizeW]
    rw [ih]
    simp only [needN, chN, afN] at h5 ⊢
    rw [u64_wrap_id _ (by omega) (by omega)]
    omega
theorem sizeR_need {t : TreeV} (hl : 0 ≤ t.l ∧ t.l ≤ 4294967295) {total : Nat} (ht : (total : Int) ≤ 18446744073709551615) {leaf : Nat} (h : t.spotE total 0 leaf = 0) : t.sizeR total leaf = (needN t total leaf ((t.rowsOf total).length - 1) : Int) := by
  have F := way_facts hl ht h
  obtain ⟨hk, h0, -⟩ := way_kids hl ht h
  unfold TreeV.sizeR
  rw [if_neg (by simp [h])]
  exact sizeW_need hk h0 _ (by have := F.two; omega)
def chI (t : TreeV) (total leaf k : Nat) : Int := (wayA t.fn (t.rowsOf total) leaf k : Int) - ((wayS t total leaf (k + 1)).frm : Int)
def afI (t : TreeV) (total leaf k : Nat) : Int := (afN t total leaf k : Int)
theorem chI_eq {t : TreeV} {total leaf k : Nat} (h : KidFacts t total leaf k) : chI t total leaf k = (chN t total leaf k : Int) := by
  unfold chI chN
  have := h.le
  omega
theorem stage_of {t : TreeV} {total leaf : Nat} {w : World} {b g m cap : Nat} (h : w.ownsRow b 89 7 (.slice (some ⟨g, 0, none⟩) m cap) m (stagesL t total leaf m)) :
    StagesIs w g m (fun j => ((wayS t total leaf (j + 1)).row : Int)) (fun j => ((wayS t total leaf (j + 1)).at_ : Int)) (fun j => ((wayS t total leaf (j + 1)).frm : Int)) (fun j => ((wayS t total leaf (j + 1)).to_ : Int)) (chI t total leaf) (fun j => (wayS t total leaf (j + 1)).last) (fun j => (wayS t total leaf (j + 1)).root) := by
  refine ⟨(h.lt g (by simp [Value.ownBlock])).2, fun j hj => ?_⟩
  refine ⟨?_, ?_, ?_, ?_, ?_, ?_, ?_⟩
  · rw [show j * 7 = 7 * j + 0 by omega]; exact (h.cellAt (7 * j + 0) (by omega)).trans (stagesL_get t total leaf m j 0 hj (by omega))
  · rw [show j * 7 + 1 = 7 * j + 1 by omega]; exact (h.cellAt (7 * j + 1) (by omega)).trans (stagesL_get t total leaf m j 1 hj (by omega))
  · rw [show j * 7 + 2 = 7 * j + 2 by omega]; exact (h.cellAt (7 * j + 2) (by omega)).trans (stagesL_get t total leaf m j 2 hj (by omega))
  · rw [show j * 7 + 3 = 7 * j + 3 by omega]; exact (h.cellAt (7 * j + 3) (by omega)).trans (stagesL_get t total leaf m j 3 hj (by omega))
  · rw [show j * 7 + 4 = 7 * j + 4 by omega]; exact (h.cellAt (7 * j + 4) (by omega)).trans (stagesL_get t total leaf m j 4 hj (by omega))
  · rw [show j * 7 + 5 = 7 * j + 5 by omega]; exact (h.cellAt (7 * j + 5) (by omega)).trans (stagesL_get t total leaf m j 5 hj (by omega))
  · rw [show j * 7 + 6 = 7 * j + 6 by omega]; exact (h.cellAt (7 * j + 6) (by omega)).trans (stagesL_get6 t total leaf m j hj)
theorem spots_of {t : TreeV} {total leaf : Nat} {w : World} {b g m cap : Nat} (h : w.ownsRow b 87 6 (.slice (some ⟨g, 0, none⟩) (m + 1) cap) (m + 1) (spotsL t total leaf (m + 1))) :
    SpotsIs w g m (fun j => ((wayS t total leaf j).at_ : Int)) (fun j => ((wayS t total leaf j).frm : Int)) (fun j => ((wayS t total leaf j).to_ : Int)) := by
  refine ⟨(h.lt g (by simp [Value.ownBlock])).2, fun j hj => ⟨?_, ?_, ?_⟩⟩
  · rw [show j * 6 + 1 = 6 * j + 1 by omega]; exact (h.cellAt (6 * j + 1) (by omega)).trans (spotsL_get t total leaf (m + 1) j 1 hj (by omega))
  · rw [show j * 6 + 2 = 6 * j + 2 by omega]; exact (h.cellAt (6 * j + 2) (by omega)).trans (spotsL_get t total leaf (m + 1) j 2 hj (by omega))
  · rw [show j * 6 + 3 = 6 * j + 3 by omega]; exact (h.cellAt (6 * j + 3) (by omega)).trans (spotsL_get t total leaf (m + 1) j 3 hj (by omega))
/-- A way's stages, by the program. -/
theorem way_stages (t : TreeV) (hl : 0 ≤ t.l ∧ t.l ≤ 4294967295) (total : Nat) (ht : (total : Int) ≤ 18446744073709551615) (leaf : Nat) (he : t.spotE total 0 leaf = 0) (w : World) :
    Calls Try.prog 33 #[t.val, .int .u64 total, .int .u64 leaf] w fun e w' => ∃ g cap, e = .returned (.tuple #[.slice (some ⟨g, 0, none⟩) ((t.rowsOf total).length - 1) cap, .int .i64 0]) ∧
      StagesIs w' g ((t.rowsOf total).length - 1) (fun j => ((wayS t total leaf (j + 1)).row : Int)) (fun j => ((wayS t total leaf (j + 1)).at_ : Int)) (fun j => ((wayS t total leaf (j + 1)).frm : Int)) (fun j => ((wayS t total leaf (j + 1)).to_ : Int)) (chI t total leaf) (fun j => (wayS t total leaf (j + 1)).last) (fun j => (wayS t total leaf (j + 1)).root) ∧ Below w.heap.size w w' := by
  have F := way_facts hl ht he
  refine (way_ok t total leaf F.two F.most (Lib.hid fun k hk w => ?_) (Lib.hid fun k hk w => ?_) (Lib.hid F.cells) (Lib.hid F.child) w).mono ?_
  · have := spot_any t hl total ht (k : Nat) (wayA t.fn (t.rowsOf total) leaf k) w
    rw [(F.spot k hk).1, (F.spot k hk).2] at this
    exact this
  · have := parent_any t hl total ht (k : Nat) (wayA t.fn (t.rowsOf total) leaf k) (F.at_ k (by omega)) w
    rw [(F.par k hk).1, (F.par k hk).2] at this
    exact this
  · rintro e w' ⟨v, rfl, hown, hb⟩
    obtain ⟨g, cap, rfl⟩ := ownsRow_form hown (by have := F.two; omega)
    exact ⟨g, cap, rfl, stage_of hown, hb⟩
theorem refWay_spots (t : TreeV) (hl : 0 ≤ t.l ∧ t.l ≤ 4294967295) (total : Nat) (ht : (total : Int) ≤ 18446744073709551615) (leaf : Nat) (he : t.spotE total 0 leaf = 0) (w : World) :
    Calls Try.prog 34 #[t.val, .int .u64 total, .int .u64 leaf] w fun e w' => ∃ g cap, e = .returned (.tuple #[.slice (some ⟨g, 0, none⟩) ((t.rowsOf total).length - 1 + 1) cap, .int .i64 0]) ∧
      SpotsIs w' g ((t.rowsOf total).length - 1) (fun j => ((wayS t total leaf j).at_ : Int)) (fun j => ((wayS t total leaf j).frm : Int)) (fun j => ((wayS t total leaf j).to_ : Int)) ∧ Below w.heap.size w w' := by
  have F := way_facts hl ht he
  have e1 : (t.rowsOf total).length - 1 + 1 = (t.rowsOf total).length := by have := F.two; omega
  refine (refWay_ok t total leaf F.two F.most (Lib.hid fun k hk w => ?_) (Lib.hid fun k hk w => ?_) (Lib.hid F.cells) w).mono ?_
  · have := refSpot_any t hl total ht (k : Nat) (wayA t.fn (t.rowsOf total) leaf k) w
    rw [(F.spot k hk).1, (F.spot k hk).2] at this
    exact this
  · have := refParent_any t hl total ht (k : Nat) (wayA t.fn (t.rowsOf total) leaf k) (F.at_ k (by omega)) w
    rw [(F.par k hk).1, (F.par k hk).2] at this
    exact this
  · rintro e w' ⟨v, rfl, hown, hb⟩
    obtain ⟨g, cap, rfl⟩ := ownsRow_form hown (by have := F.two; omega)
    rw [← e1] at hown ⊢
    exact ⟨g, cap, rfl, spots_of hown, hb⟩
theorem wayS_at (t : TreeV) (total leaf k : Nat) : (wayS t total leaf k).at_ = wayA t.fn (t.rowsOf total) leaf k := (spotIn_rowat _ _ _ _ _ _).2.1
/-- A way's error, on both sides. -/
theorem way_errs (t : TreeV) (hl : 0 ≤ t.l ∧ t.l ≤ 4294967295) (total : Nat) (ht : (total : Int) ≤ 18446744073709551615) (leaf : Nat) (he : t.spotE total 0 leaf ≠ 0) (w : World) :
    Calls Try.prog 33 #[t.val, .int .u64 total, .int .u64 leaf] w fun e w' => e = .returned (.tuple #[.slice none 0 0, .int .i64 (t.spotE total 0 leaf)]) ∧ Below w.heap.size w w' := by
  have A1 := spot_any t hl total ht 0 leaf
  simp only [SpotV.val_is] at A1
  exact way_err t total leaf (Lib.hid A1) (by rw [bne_iff_ne]; exact he) w
theorem refWay_errs (t : TreeV) (hl : 0 ≤ t.l ∧ t.l ≤ 4294967295) (total : Nat) (ht : (total : Int) ≤ 18446744073709551615) (leaf : Nat) (he : t.spotE total 0 leaf ≠ 0) (w : World) :
    Calls Try.prog 34 #[t.val, .int .u64 total, .int .u64 leaf] w fun e w' => e = .returned (.tuple #[.slice none 0 0, .int .i64 (t.spotE total 0 leaf)]) ∧ Below w.heap.size w w' := by
  have A1 := refSpot_any t hl total ht 0 leaf
  simp only [SpotV.val_is] at A1
  exact refWay_err t total leaf (Lib.hid A1) (by rw [bne_iff_ne]; exact he) w
set_option maxRecDepth 100000 in
theorem pack_err (t : TreeV) (total leaf : Nat) (u : Value) {e : Int} (he : (e != 0) = true) (HW : Hid (∀ w, Calls Try.prog 33 #[t.val, .int .u64 total, .int .u64 leaf] w fun r w' => r = .returned (.tuple #[.slice none 0 0, .int .i64 e]) ∧ Below w.heap.size w w')) (w : World) :
    Calls Try.prog 20 #[t.val, .agg #[.int .u64 total, .int .u64 leaf, u]] w fun r w' => r = .returned (.tuple #[.slice none 0 0, .int .i64 e]) ∧ Below w.heap.size w w' := by
  unfold TreeV.val at *
  go_enter Try.func20, Try.ntmps20
  go_wp2_with fail
  refine (HW.out _).mono ?_; rintro r w1 ⟨rfl, hb1⟩
  have hB1 : Below w.heap.size w w1 := below_alloc_then _ (Below.trans ((Below.refl _ _).alloc (Nat.le_refl _) _) (hb1.mono (by simp)))
  go_wp2
  exact bodyPost_ret (results_tmp2 (fn := Try.f20) (t := 4) (u := 5) rfl _ _ _) rfl ⟨rfl, hB1⟩
set_option maxRecDepth 100000 in
theorem refPack_err (t : TreeV) (total leaf : Nat) (u : Value) {e : Int} (he : (e != 0) = true) (HW : Hid (∀ w, Calls Try.prog 34 #[t.val, .int .u64 total, .int .u64 leaf] w fun r w' => r = .returned (.tuple #[.slice none 0 0, .int .i64 e]) ∧ Below w.heap.size w w')) (w : World) :
    Calls Try.prog 21 #[t.val, .agg #[.int .u64 total, .int .u64 leaf, u]] w fun r w' => r = .returned (.tuple #[.slice none 0 0, .int .i64 e]) ∧ Below w.heap.size w w' := by
  unfold TreeV.val at *
  go_enter Try.func21, Try.ntmps21
  go_wp2_with fail
  refine (HW.out _).mono ?_; rintro r w1 ⟨rfl, hb1⟩
  have hB1 : Below w.heap.size w w1 := below_alloc_then _ (Below.trans ((Below.refl _ _).alloc (Nat.le_refl _) _) (hb1.mono (by simp)))
  go_wp2
  exact bodyPost_ret (results_tmp2 (fn := Try.f21) (t := 4) (u := 5) rfl _ _ _) rfl ⟨rfl, hB1⟩
/-- What Pack answers. -/
def PackSays (t : TreeV) (total leaf : Nat) (ss : List StepV) (w : World) (v : Value) (e : Int) : Prop :=
  (t.spotE total 0 leaf ≠ 0 ∧ e = t.spotE total 0 leaf ∧ Holds8 w v []) ∨
  (t.spotE total 0 leaf = 0 ∧ ¬ FitsP t.i ((t.rowsOf total).length - 1) (chI t total leaf) (afI t total leaf) ss ∧ e = 4 ∧ Holds8 w v []) ∨
  (t.spotE total 0 leaf = 0 ∧ FitsP t.i ((t.rowsOf total).length - 1) (chI t total leaf) (afI t total leaf) ss ∧ e = 0 ∧ Holds8 w v (packL total leaf ss ss.length))
theorem holds_nil (w : World) : Holds8 w (.slice none 0 0) [] := ⟨none, 0, rfl, .inl rfl⟩
theorem kid_ints {t : TreeV} {total leaf : Nat} {n : Nat} (hk : ∀ k, k + 1 < n → KidFacts t total leaf k) : ∀ j, j < n - 1 → 0 ≤ ((wayS t total leaf (j + 1)).frm : Int) ∧ ((wayS t total leaf (j + 1)).frm : Int) ≤ ((wayS t total leaf (j + 1)).to_ : Int) ∧ ((wayS t total leaf (j + 1)).to_ : Int) ≤ 18446744073709551615 ∧ 0 ≤ chI t total leaf j ∧ 0 ≤ afI t total leaf j ∧
    afI t total leaf j = ((wayS t total leaf (j + 1)).to_ : Int) - ((wayS t total leaf (j + 1)).frm : Int) - chI t total leaf j - 1 := by
  intro j hj
  obtain ⟨h1, h2, h3, h4⟩ := hk j (by omega)
  unfold chI afI afN
  omega
theorem kid_ints' {t : TreeV} {total leaf : Nat} {n : Nat} (hk : ∀ k, k + 1 < n → KidFacts t total leaf k) : ∀ j, j < n - 1 → 0 ≤ ((wayS t total leaf (j + 1)).frm : Int) ∧ ((wayS t total leaf (j + 1)).frm : Int) ≤ ((wayS t total leaf j).at_ : Int) ∧ ((wayS t total leaf j).at_ : Int) + 1 ≤ ((wayS t total leaf (j + 1)).to_ : Int) ∧ ((wayS t total leaf (j + 1)).to_ : Int) ≤ 18446744073709551615 ∧
    chI t total leaf j = ((wayS t total leaf j).at_ : Int) - ((wayS t total leaf (j + 1)).frm : Int) ∧ afI t total leaf j = ((wayS t total leaf (j + 1)).to_ : Int) - ((wayS t total leaf j).at_ : Int) - 1 := by
  intro j hj
  obtain ⟨h1, h2, h3, h4⟩ := hk j (by omega)
  rw [wayS_at]
  unfold chI afI afN
  omega
theorem pack_any (t : TreeV) (hl : 0 ≤ t.l ∧ t.l ≤ 4294967295) (total leaf : Nat) (ht : (total : Int) ≤ 18446744073709551615) (hleaf : (leaf : Int) ≤ 18446744073709551615) (u : Value) (ss : List StepV) (w : World) (hs : StepsAt w u ss) (ho : StepsOk 1048576 ss) :
    Calls Try.prog 20 #[t.val, .agg #[.int .u64 total, .int .u64 leaf, u]] w fun r w' => ∃ v e, r = .returned (.tuple #[v, .int .i64 e]) ∧ PackSays t total leaf ss w' v e ∧ Below w.heap.size w w' := by
  by_cases he : t.spotE total 0 leaf = 0
  · have F := way_facts hl ht he
    obtain ⟨hk, h0, i1, i2, -⟩ := way_kids hl ht he
    have f2 := F.two
    have f3 := F.most
    refine (pack_ok t total leaf ht hleaf u ss w hs ho ((t.rowsOf total).length - 1) (by omega) (by omega) ⟨i1, i2⟩ _ _ _ _ (chI t total leaf) (afI t total leaf) _ _ (Lib.hid (way_stages t hl total ht leaf he)) (Lib.hid (kid_ints hk))).mono ?_
    rintro r w' ⟨v, e, rfl, h, hb⟩
    refine ⟨v, e, rfl, .inr ?_, hb⟩
    rcases h with ⟨h1, rfl, rfl⟩ | ⟨h1, rfl, h2⟩
    · exact .inl ⟨he, h1, rfl, holds_nil _⟩
    · exact .inr ⟨he, h1, rfl, h2⟩
  · refine (pack_err t total leaf u (by rw [bne_iff_ne]; exact he) (Lib.hid (way_errs t hl total ht leaf he)) w).mono ?_
    rintro r w' ⟨rfl, hb⟩
    exact ⟨_, _, rfl, .inl ⟨he, rfl, holds_nil _⟩, hb⟩
theorem refPack_any (t : TreeV) (hl : 0 ≤ t.l ∧ t.l ≤ 4294967295) (total leaf : Nat) (ht : (total : Int) ≤ 18446744073709551615) (hleaf : (leaf : Int) ≤ 18446744073709551615) (u : Value) (ss : List StepV) (w : World) (hs : StepsAt w u ss) (ho : StepsOk 1048576 ss) :
    Calls Try.prog 21 #[t.val, .agg #[.int .u64 total, .int .u64 leaf, u]] w fun r w' => ∃ v e, r = .returned (.tuple #[v, .int .i64 e]) ∧ PackSays t total leaf ss w' v e ∧ Below w.heap.size w w' := by
  by_cases he : t.spotE total 0 leaf = 0
  · have F := way_facts hl ht he
    obtain ⟨hk, h0, i1, i2, -⟩ := way_kids hl ht he
    have f2 := F.two
    have f3 := F.most
    refine (refPack_ok t total leaf ht hleaf u ss w hs ho ((t.rowsOf total).length - 1) (by omega) (by omega) ⟨i1, i2⟩ _ _ _ (chI t total leaf) (afI t total leaf) (Lib.hid (refWay_spots t hl total ht leaf he)) (Lib.hid (kid_ints' hk))).mono ?_
    rintro r w' ⟨v, e, rfl, h, hb⟩
    refine ⟨v, e, rfl, .inr ?_, hb⟩
    rcases h with ⟨h1, rfl, rfl⟩ | ⟨h1, rfl, h2⟩
    · exact .inl ⟨he, h1, rfl, holds_nil _⟩
    · exact .inr ⟨he, h1, rfl, h2⟩
  · refine (refPack_err t total leaf u (by rw [bne_iff_ne]; exact he) (Lib.hid (refWay_errs t hl total ht leaf he)) w).mono ?_
    rintro r w' ⟨rfl, hb⟩
    exact ⟨_, _, rfl, .inl ⟨he, rfl, holds_nil _⟩, hb⟩
/-- Two answers of Pack are one. -/
theorem packSays_same {t : TreeV} {total leaf : Nat} {ss : List StepV} (ho : StepsOk 1048576 ss) (hl : 0 ≤ t.l ∧ t.l ≤ 4294967295) (ht : (total : Int) ≤ 18446744073709551615) {w w' : World} {v v' : Value} {e e' : Int} (h : PackSays t total leaf ss w v e) (h' : PackSays t total leaf ss w' v' e') :
    e = e' ∧ ∃ zs, Holds8 w v zs ∧ Holds8 w' v' zs ∧ zs.length ≤ 1099511627776 := by
  rcases h with ⟨h1, rfl, h2⟩ | ⟨h1, h3, rfl, h2⟩ | ⟨h1, h3, rfl, h2⟩ <;> rcases h' with ⟨k1, rfl, k2⟩ | ⟨k1, k3, rfl, k2⟩ | ⟨k1, k3, rfl, k2⟩
  · exact ⟨rfl, [], h2, k2, by simp⟩
  · exact absurd k1 h1
  · exact absurd k1 h1
  · exact absurd h1 k1
  · exact ⟨rfl, [], h2, k2, by simp⟩
  · exact absurd k3 h3
  · exact absurd h1 k1
  · exact absurd h3 k3
  · refine ⟨rfl, _, h2, k2, ?_⟩
    have F := way_facts hl ht h1
    obtain ⟨-, -, i1, i2, -⟩ := way_kids hl ht h1
    obtain ⟨hfl, hfs⟩ := h3
    have hlen := stepsL_length (i := t.i.toNat) ho (by omega) (fun j hj d hd => by have := (hfs j (by omega)).2.2 d hd; omega) ss.length (Nat.le_refl _)
    rw [packL_length]
    have := F.most
    omega
end Go.Proofs.Ytkmgkeodmkfnpaa
