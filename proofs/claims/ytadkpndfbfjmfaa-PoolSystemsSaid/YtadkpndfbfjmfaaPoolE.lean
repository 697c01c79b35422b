/- Bound, on both sides, of any pool. No condition. -/
import Derived.Test.YtadkpndfbfjmfaaPoolD
namespace Go.Proofs.Ytadkpndfbfjmfaa
open Go.ChangeShapes Go.WideShapes Go.ChangeAt Go.RowKit Go.Joins
attribute [local go_sem] Oper.semAt_some

theorem ret_tt {k l : IntKind} {a b c d : Int} (h : a = b) (h' : c = d) : Ending.returned (.tuple #[.int k a, .int l c]) = .returned (.tuple #[.int k b, .int l d]) := by rw [h, h']
def SysAny (W : World) (v : Value) (n k q : Int) : Prop := (sysE n k q = 0 ∧ SysOk W v n k q) ∨ (sysE n k q ≠ 0 ∧ v = sysZero)
theorem SysAny.below {W W' : World} {v : Value} {n k q : Int} (h : SysAny W v n k q) (hb : Below W.heap.size W W') : SysAny W' v n k q := by
  rcases h with ⟨h0, h⟩ | h
  · exact .inl ⟨h0, h.below hb⟩
  · exact .inr h
theorem SysAny.keep {W W' : World} {v : Value} {n k q : Int} (h : SysAny W v n k q) (hb : KeepT W W') : SysAny W' v n k q := by
  rcases h with ⟨h0, h⟩ | h
  · exact .inl ⟨h0, h.keep hb⟩
  · exact .inr h
/-- A System value: five cells. -/
theorem SysAny.form {W : World} {v : Value} {n k q : Int} (h : SysAny W v n k q) : (∃ b r : Nat, sysE n k q = 0 ∧ v = .agg #[.slice (some ⟨b, 0, none⟩) 4 4, .slice (some ⟨r, 0, none⟩) 3 3, .int .i64 1, .int .i64 0, .int .i64 (poolB k q)]) ∨ (sysE n k q ≠ 0 ∧ v = sysZero) := by
  rcases h with ⟨h0, h⟩ | h
  · obtain ⟨b, r, e⟩ := SysOk.ex rfl h
    exact .inl ⟨b, r, h0, e⟩
  · exact .inr h
theorem sysE_cases (n k q : Int) : (PoolOk k q ∧ 0 ≤ n ∧ n ≤ 1024 ∧ sysE n k q = 0) ∨ (sysE n k q ≠ 0) := by
  by_cases h : PoolOk k q
  · by_cases h2 : 0 ≤ n ∧ n ≤ 1024
    · exact .inl ⟨h, h2.1, h2.2, sysE_ok h h2⟩
    · right; rw [sysE_arg h h2]; decide
  · right; rw [sysE_pool h]; decide
theorem poolB_bound (k q : Int) (h : PoolOk k q) : 1 ≤ k ∧ k ≤ 256 ∧ 0 ≤ poolB k q ∧ poolB k q ≤ 64 := by
  obtain ⟨h1, h2, h3, h4⟩ := h
  refine ⟨h1, h2, ?_⟩
  unfold poolB
  rw [if_pos ⟨h1, h2, h3, h4⟩]
  omega
def bndV (n k q : Int) : Int := if sysE n k q = 0 then 23 + 8 * k + 4 * poolB k q + 15 * n else 0
theorem system_any (n k q : Int) (w : World) : Calls Try.prog 7 #[.int .i64 n, .agg #[.int .i64 k, .int .i64 q]] w fun e w' => ∃ v, e = .returned (.tuple #[v, .int .i64 (sysE n k q)]) ∧ SysAny w' v n k q ∧ Below w.heap.size w w' := by
  by_cases hp : PoolOk k q
  · by_cases hn : n < 0
    · refine (system_no2 n k q hp hn w).mono ?_; rintro e w' ⟨rfl, hb⟩
      exact ⟨_, rfl, .inr ⟨by rw [sysE_arg hp (by omega)]; decide, rfl⟩, hb⟩
    by_cases hn2 : 1024 < n
    · refine (system_no3 n k q hp hn2 w).mono ?_; rintro e w' ⟨rfl, hb⟩
      exact ⟨_, rfl, .inr ⟨by rw [sysE_arg hp (by omega)]; decide, rfl⟩, hb⟩
    · refine (system_ok n k q hp (by omega) (by omega) w).mono ?_; rintro e w' ⟨v, rfl, hv, hb⟩
      have h0 : sysE n k q = 0 := sysE_ok hp (by omega)
      exact ⟨v, by rw [h0], .inl ⟨h0, hv⟩, hb⟩
  · refine (system_no1 n k q hp w).mono ?_; rintro e w' ⟨rfl, hb⟩
    exact ⟨_, rfl, .inr ⟨by rw [sysE_pool hp]; decide, rfl⟩, hb⟩
theorem refSystem_any (n k q : Int) (w : World) : Calls Try.prog 8 #[.int .i64 n, .agg #[.int .i64 k, .int .i64 q]] w fun e w' => ∃ v, e = .returned (.tuple #[v, .int .i64 (sysE n k q)]) ∧ SysAny w' v n k q ∧ Below w.heap.size w w' := by
  by_cases hp : PoolOk k q
  · by_cases hn : n < 0
    · refine (refSystem_no2 n k q hp hn w).mono ?_; rintro e w' ⟨rfl, hb⟩
      exact ⟨_, rfl, .inr ⟨by rw [sysE_arg hp (by omega)]; decide, rfl⟩, hb⟩
    by_cases hn2 : 1024 < n
    · refine (refSystem_no3 n k q hp hn2 w).mono ?_; rintro e w' ⟨rfl, hb⟩
      exact ⟨_, rfl, .inr ⟨by rw [sysE_arg hp (by omega)]; decide, rfl⟩, hb⟩
    · refine (refSystem_ok n k q hp (by omega) (by omega) w).mono ?_; rintro e w' ⟨v, rfl, hv, hb⟩
      have h0 : sysE n k q = 0 := sysE_ok hp (by omega)
      exact ⟨v, by rw [h0], .inl ⟨h0, hv⟩, hb⟩
  · refine (refSystem_no1 n k q hp w).mono ?_; rintro e w' ⟨rfl, hb⟩
    exact ⟨_, rfl, .inr ⟨by rw [sysE_pool hp]; decide, rfl⟩, hb⟩
set_option maxRecDepth 100000 in
theorem bound_any (n k q : Int) (w : World) : Calls Try.prog 9 #[.int .i64 n, .agg #[.int .i64 k, .int .i64 q]] w fun e w' => e = .returned (.tuple #[.int .i64 (bndV n k q), .int .i64 (sysE n k q)]) ∧ Below w.heap.size w w' := by
  have HS := Lib.hid (system_any n k q)
  have HV := Lib.hid (buffers_any k q)
  have HB := Lib.hid (poolB_bound k q)
  have HC := Lib.hid (sysE_cases n k q)
  obtain ⟨bd, hbd⟩ : ∃ bd, bndV n k q = bd := ⟨_, rfl⟩
  rw [hbd]
  obtain ⟨bx, hbx⟩ : ∃ bx, w.heap.size = bx := ⟨_, rfl⟩
  go_enter Try.func9, Try.ntmps9
  go_wp2_with fail
  refine (HS.out _).mono ?_; rintro r w2 ⟨v, rfl, hv, hb2⟩
  have hs2 := hb2.size
  simp at hs2
  have hx : w2.heap[bx]? = _ := (hb2.block _ (by simp; omega)).trans (World.alloc_heap_new_at _ _ hbx.symm)
  obtain ⟨cx, fx⟩ := blockC hx
  have hs3 : bx < w2.heap.size := by omega
  have HX := Lib.hid hx
  have HW := Lib.hid (below_alloc_then _ hb2)
  clear hx hb2
  have hv' := hv.form
  clear hv
  rcases hv' with ⟨pb, rb, h0, rfl⟩ | ⟨h0, rfl⟩
  · obtain ⟨hp, hn0, hn1, -⟩ : PoolOk k q ∧ 0 ≤ n ∧ n ≤ 1024 ∧ sysE n k q = 0 := by
      rcases HC.out with h | h
      · exact h
      · exact absurd h0 h
    obtain ⟨hk0, hk1, hb0, hb1⟩ := HB.out hp
    have hbv := HV.out
    rw [show poolE k q = 0 by unfold poolE; rw [if_pos hp]] at hbv
    rw [h0]
    have hd : 23 + 8 * k + 4 * poolB k q + 15 * n = bd := by rw [← hbd]; unfold bndV; rw [if_pos h0]
    have HZ := Lib.hid h0.symm
    clear hbd HB HS HV HC hp h0
    generalize poolB k q = bq at hd hb0 hb1 hbv ⊢
    have HV2 := Lib.hid hbv
    have HD := Lib.hid hd
    clear hbv hd
    go_wp2_with fail
    refine (HV2.out _).mono ?_; rintro r w3 ⟨rfl, hb3⟩
    have hx3 := (hb3.block bx (by simp; omega)).trans ((Below.heap_alloc _ _ _ (by omega)).trans HX.out)
    obtain ⟨cx3, fx3⟩ := blockC hx3
    have HB3 := Lib.hid (HW.out.trans (below_alloc_then _ (hb3.mono (by simp)) |>.mono HW.out.size))
    have hs4 : bx < w3.heap.size := by have := hb3.size; simp at this; omega
    clear cx fx hb3 hx3
    go_wp2
    all_goals exact bodyPost_ret (results_tmp2 rfl _ _ _) rfl ⟨Eq.trans (b := .returned (.tuple #[.int .i64 (23 + 8 * k + 4 * bq + 15 * n), .int .i64 0])) rfl (ret_tt HD.out HZ.out), HB3.out⟩
  · unfold sysZero
    have HD := Lib.hid (show 0 = bd by rw [← hbd]; unfold bndV; rw [if_neg h0])
    go_wp2
    exact bodyPost_ret (results_tmp2 rfl _ _ _) rfl ⟨Eq.trans (b := .returned (.tuple #[.int .i64 0, .int .i64 (sysE n k q)])) rfl (ret_t2 HD.out), HW.out.alloc HW.out.size _⟩
set_option maxRecDepth 100000 in
theorem refBound_any (n k q : Int) (w : World) : Calls Try.prog 10 #[.int .i64 n, .agg #[.int .i64 k, .int .i64 q]] w fun e w' => e = .returned (.tuple #[.int .i64 (bndV n k q), .int .i64 (sysE n k q)]) ∧ Below w.heap.size w w' := by
  have HS := Lib.hid (refSystem_any n k q)
  have HV := Lib.hid (refBuffers_any k q)
  have HB := Lib.hid (poolB_bound k q)
  have HC := Lib.hid (sysE_cases n k q)
  obtain ⟨bd, hbd⟩ : ∃ bd, bndV n k q = bd := ⟨_, rfl⟩
  rw [hbd]
  obtain ⟨bx, hbx⟩ : ∃ bx, w.heap.size = bx := ⟨_, rfl⟩
  go_enter Try.func10, Try.ntmps10
  go_wp2_with fail
  refine (HS.out _).mono ?_; rintro r w2 ⟨v, rfl, hv, hb2⟩
  have hs2 := hb2.size
  simp at hs2
  have hx : w2.heap[bx]? = _ := (hb2.block _ (by simp; omega)).trans (World.alloc_heap_new_at _ _ hbx.symm)
  obtain ⟨cx, fx⟩ := blockC hx
  have hs3 : bx < w2.heap.size := by omega
  have HX := Lib.hid hx
  have HW := Lib.hid (below_alloc_then _ hb2)
  clear hx hb2
  have hv' := hv.form
  clear hv
  rcases hv' with ⟨pb, rb, h0, rfl⟩ | ⟨h0, rfl⟩
  · obtain ⟨hp, hn0, hn1, -⟩ : PoolOk k q ∧ 0 ≤ n ∧ n ≤ 1024 ∧ sysE n k q = 0 := by
      rcases HC.out with h | h
      · exact h
      · exact absurd h0 h
    obtain ⟨hk0, hk1, hb0, hb1⟩ := HB.out hp
    have hbv := HV.out
    rw [show poolE k q = 0 by unfold poolE; rw [if_pos hp]] at hbv
    rw [h0]
    have hd : 23 + 8 * k + 4 * poolB k q + 15 * n = bd := by rw [← hbd]; unfold bndV; rw [if_pos h0]
    have HZ := Lib.hid h0.symm
    clear hbd HB HS HV HC hp h0
    generalize poolB k q = bq at hd hb0 hb1 hbv ⊢
    have HV2 := Lib.hid hbv
    have HD := Lib.hid hd
    clear hbv hd
    go_wp2_with fail
    refine (HV2.out _).mono ?_; rintro r w3 ⟨rfl, hb3⟩
    have hx3 := (hb3.block bx (by simp; omega)).trans ((Below.heap_alloc _ _ _ (by omega)).trans HX.out)
    obtain ⟨cx3, fx3⟩ := blockC hx3
    have HB3 := Lib.hid (HW.out.trans (below_alloc_then _ (hb3.mono (by simp)) |>.mono HW.out.size))
    have hs4 : bx < w3.heap.size := by have := hb3.size; simp at this; omega
    clear cx fx hb3 hx3
    go_wp2
    all_goals exact bodyPost_ret (results_tmp2 rfl _ _ _) rfl ⟨Eq.trans (b := .returned (.tuple #[.int .i64 (23 + 8 * k + 4 * bq + 15 * n), .int .i64 0])) rfl (ret_tt HD.out HZ.out), HB3.out⟩
  · unfold sysZero
    have HD := Lib.hid (show 0 = bd by rw [← hbd]; unfold bndV; rw [if_neg h0])
    go_wp2
    exact bodyPost_ret (results_tmp2 rfl _ _ _) rfl ⟨Eq.trans (b := .returned (.tuple #[.int .i64 0, .int .i64 (sysE n k q)])) rfl (ret_t2 HD.out), HW.out.alloc HW.out.size _⟩
end Go.Proofs.Ytadkpndfbfjmfaa
