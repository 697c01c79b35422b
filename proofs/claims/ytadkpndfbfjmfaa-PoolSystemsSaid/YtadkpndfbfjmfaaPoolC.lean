/- No system: what pool.System and the reference's answer where there is none; the reference's programs. No condition. -/
import Derived.Test.YtadkpndfbfjmfaaPoolB
namespace Go.Proofs.Ytadkpndfbfjmfaa
open Go.ChangeShapes Go.WideShapes Go.ChangeAt Go.RowKit Go.Joins
attribute [local go_sem] Oper.semAt_some

theorem five_set {W : World} {b : Nat} {c0 c1 c2 c3 c4 : Value} {T : TypeId} (h : W.heap[b]? = some (Obj.cells #[c0, c1, c2, c3, c4] T (0, 0))) (v0 v1 v2 v3 v4 : Value) :
    (((((W.setCell ⟨b, 0, none⟩ v0).setCell ⟨b, 1, none⟩ v1).setCell ⟨b, 2, none⟩ v2).setCell ⟨b, 3, none⟩ v3).setCell ⟨b, 4, none⟩ v4).heap[b]? = some (Obj.cells #[v0, v1, v2, v3, v4] T (0, 0)) := by
  have h0 := block_setCell (i := 0) h v0
  have h1 := block_setCell (i := 1) h0 v1
  have h2 := block_setCell (i := 2) h1 v2
  have h3 := block_setCell (i := 3) h2 v3
  have h4 := block_setCell (i := 4) h3 v4
  exact h4
theorem below_setC {w W : World} {n b o : Nat} {v : Value} (h : Below n w W) (hb : n ≤ b) : Below n w (W.setCell ⟨b, o, none⟩ v) :=
  h.trans ⟨rfl, rfl, rfl, by simp, fun g hg => Below.heap_setCell _ _ _ _ (by show g ≠ b; omega)⟩
theorem five_below {w W : World} {n b : Nat} (h : Below n w W) (hb : n ≤ b) (v0 v1 v2 v3 v4 : Value) :
    Below n w (((((W.setCell ⟨b, 0, none⟩ v0).setCell ⟨b, 1, none⟩ v1).setCell ⟨b, 2, none⟩ v2).setCell ⟨b, 3, none⟩ v3).setCell ⟨b, 4, none⟩ v4) :=
  below_setC (below_setC (below_setC (below_setC (below_setC h hb) hb) hb) hb) hb
def sysE (n k q : Int) : Int := if PoolOk k q then (if 0 ≤ n ∧ n ≤ 1024 then 0 else 1) else 150
theorem sysE_pool {n k q : Int} (h : ¬PoolOk k q) : sysE n k q = 150 := by unfold sysE; rw [if_neg h]
theorem sysE_arg {n k q : Int} (h : PoolOk k q) (h2 : ¬(0 ≤ n ∧ n ≤ 1024)) : sysE n k q = 1 := by unfold sysE; rw [if_pos h, if_neg h2]
theorem sysE_ok {n k q : Int} (h : PoolOk k q) (h2 : 0 ≤ n ∧ n ≤ 1024) : sysE n k q = 0 := by unfold sysE; rw [if_pos h, if_pos h2]
theorem ret_sysE {n k q z : Int} (h : sysE n k q = z) : Ending.returned (.tuple #[sysZero, .int .i64 z]) = .returned (.tuple #[sysZero, .int .i64 (sysE n k q)]) := by rw [h]
set_option maxRecDepth 100000 in
theorem system_no1 (n k q : Int) (hp : ¬PoolOk k q) (w : World) : Calls Try.prog 7 #[.int .i64 n, .agg #[.int .i64 k, .int .i64 q]] w fun e w' => e = .returned (.tuple #[sysZero, .int .i64 (sysE n k q)]) ∧ Below w.heap.size w w' := by
  have HV := Lib.hid (buffers_any k q)
  rw [show poolE k q = 150 by unfold poolE; rw [if_neg hp]] at HV
  have HE := Lib.hid (ret_sysE (sysE_pool (n := n) hp))
  obtain ⟨bq, hbq⟩ : ∃ bq, poolB k q = bq := ⟨_, rfl⟩
  rw [hbq] at HV
  obtain ⟨bx, hbx⟩ : ∃ bx, w.heap.size = bx := ⟨_, rfl⟩
  go_enter Try.func7, Try.ntmps7
  go_wp2_with fail
  refine (HV.out _).mono ?_; rintro r w2 ⟨rfl, hb2⟩
  have hs2 := hb2.size
  simp at hs2
  have hr : w2.heap[bx + 1]? = _ := (hb2.block _ (by simp; omega)).trans (World.alloc_heap_new_at _ _ (by simp; omega))
  obtain ⟨cr, fr⟩ := blockC hr
  have HR := Lib.hid hr
  have HB := Lib.hid (below_alloc_then _ (below_alloc_then _ hb2))
  clear hr hb2
  go_wp2
  refine bodyPost_ret (sys_results rfl rfl rfl (five_set HR.out _ _ _ _ _) rfl) rfl ⟨?_, five_below HB.out (by omega) _ _ _ _ _⟩
  exact HE.out
set_option maxRecDepth 100000 in
theorem system_no2 (n k q : Int) (hp : PoolOk k q) (hn : n < 0) (w : World) : Calls Try.prog 7 #[.int .i64 n, .agg #[.int .i64 k, .int .i64 q]] w fun e w' => e = .returned (.tuple #[sysZero, .int .i64 (sysE n k q)]) ∧ Below w.heap.size w w' := by
  have HV := Lib.hid (buffers_any k q)
  rw [show poolE k q = 0 by unfold poolE; rw [if_pos hp]] at HV
  have HE := Lib.hid (ret_sysE (sysE_arg (n := n) hp (by omega)))
  obtain ⟨bq, hbq⟩ : ∃ bq, poolB k q = bq := ⟨_, rfl⟩
  rw [hbq] at HV
  obtain ⟨bx, hbx⟩ : ∃ bx, w.heap.size = bx := ⟨_, rfl⟩
  go_enter Try.func7, Try.ntmps7
  go_wp2_with fail
  refine (HV.out _).mono ?_; rintro r w2 ⟨rfl, hb2⟩
  have hs2 := hb2.size
  simp at hs2
  have hr : w2.heap[bx + 1]? = _ := (hb2.block _ (by simp; omega)).trans (World.alloc_heap_new_at _ _ (by simp; omega))
  obtain ⟨cr, fr⟩ := blockC hr
  have HR := Lib.hid hr
  have HB := Lib.hid (below_alloc_then _ (below_alloc_then _ hb2))
  clear hr hb2
  go_wp2
  refine bodyPost_ret (sys_results rfl rfl rfl (five_set HR.out _ _ _ _ _) rfl) rfl ⟨?_, five_below HB.out (by omega) _ _ _ _ _⟩
  exact HE.out
set_option maxRecDepth 100000 in
theorem system_no3 (n k q : Int) (hp : PoolOk k q) (hn : 1024 < n) (w : World) : Calls Try.prog 7 #[.int .i64 n, .agg #[.int .i64 k, .int .i64 q]] w fun e w' => e = .returned (.tuple #[sysZero, .int .i64 (sysE n k q)]) ∧ Below w.heap.size w w' := by
  have HV := Lib.hid (buffers_any k q)
  rw [show poolE k q = 0 by unfold poolE; rw [if_pos hp]] at HV
  have HE := Lib.hid (ret_sysE (sysE_arg (n := n) hp (by omega)))
  obtain ⟨bq, hbq⟩ : ∃ bq, poolB k q = bq := ⟨_, rfl⟩
  rw [hbq] at HV
  obtain ⟨bx, hbx⟩ : ∃ bx, w.heap.size = bx := ⟨_, rfl⟩
  go_enter Try.func7, Try.ntmps7
  go_wp2_with fail
  refine (HV.out _).mono ?_; rintro r w2 ⟨rfl, hb2⟩
  have hs2 := hb2.size
  simp at hs2
  have hr : w2.heap[bx + 1]? = _ := (hb2.block _ (by simp; omega)).trans (World.alloc_heap_new_at _ _ (by simp; omega))
  obtain ⟨cr, fr⟩ := blockC hr
  have HR := Lib.hid hr
  have HB := Lib.hid (below_alloc_then _ (below_alloc_then _ hb2))
  clear hr hb2
  go_wp2
  refine bodyPost_ret (sys_results rfl rfl rfl (five_set HR.out _ _ _ _ _) rfl) rfl ⟨?_, five_below HB.out (by omega) _ _ _ _ _⟩
  exact HE.out
set_option maxRecDepth 100000 in
theorem refSystem_no1 (n k q : Int) (hp : ¬PoolOk k q) (w : World) : Calls Try.prog 8 #[.int .i64 n, .agg #[.int .i64 k, .int .i64 q]] w fun e w' => e = .returned (.tuple #[sysZero, .int .i64 (sysE n k q)]) ∧ Below w.heap.size w w' := by
  have HV := Lib.hid (refBuffers_any k q)
  rw [show poolE k q = 150 by unfold poolE; rw [if_neg hp]] at HV
  have HE := Lib.hid (ret_sysE (sysE_pool (n := n) hp))
  obtain ⟨bq, hbq⟩ : ∃ bq, poolB k q = bq := ⟨_, rfl⟩
  rw [hbq] at HV
  obtain ⟨bx, hbx⟩ : ∃ bx, w.heap.size = bx := ⟨_, rfl⟩
  go_enter Try.func8, Try.ntmps8
  go_wp2_with fail
  refine (HV.out _).mono ?_; rintro r w2 ⟨rfl, hb2⟩
  have hs2 := hb2.size
  simp at hs2
  have hr : w2.heap[bx + 1]? = _ := (hb2.block _ (by simp; omega)).trans (World.alloc_heap_new_at _ _ (by simp; omega))
  obtain ⟨cr, fr⟩ := blockC hr
  have HR := Lib.hid hr
  have HB := Lib.hid (below_alloc_then _ (below_alloc_then _ hb2))
  clear hr hb2
  go_wp2
  refine bodyPost_ret (sys_results rfl rfl rfl (five_set HR.out _ _ _ _ _) rfl) rfl ⟨?_, five_below HB.out (by omega) _ _ _ _ _⟩
  exact HE.out
set_option maxRecDepth 100000 in
theorem refSystem_no2 (n k q : Int) (hp : PoolOk k q) (hn : n < 0) (w : World) : Calls Try.prog 8 #[.int .i64 n, .agg #[.int .i64 k, .int .i64 q]] w fun e w' => e = .returned (.tuple #[sysZero, .int .i64 (sysE n k q)]) ∧ Below w.heap.size w w' := by
  have HV := Lib.hid (refBuffers_any k q)
  rw [show poolE k q = 0 by unfold poolE; rw [if_pos hp]] at HV
  have HE := Lib.hid (ret_sysE (sysE_arg (n := n) hp (by omega)))
  obtain ⟨bq, hbq⟩ : ∃ bq, poolB k q = bq := ⟨_, rfl⟩
  rw [hbq] at HV
  obtain ⟨bx, hbx⟩ : ∃ bx, w.heap.size = bx := ⟨_, rfl⟩
  go_enter Try.func8, Try.ntmps8
  go_wp2_with fail
  refine (HV.out _).mono ?_; rintro r w2 ⟨rfl, hb2⟩
  have hs2 := hb2.size
  simp at hs2
  have hr : w2.heap[bx + 1]? = _ := (hb2.block _ (by simp; omega)).trans (World.alloc_heap_new_at _ _ (by simp; omega))
  obtain ⟨cr, fr⟩ := blockC hr
  have HR := Lib.hid hr
  have HB := Lib.hid (below_alloc_then _ (below_alloc_then _ hb2))
  clear hr hb2
  go_wp2
  refine bodyPost_ret (sys_results rfl rfl rfl (five_set HR.out _ _ _ _ _) rfl) rfl ⟨?_, five_below HB.out (by omega) _ _ _ _ _⟩
  exact HE.out
set_option maxRecDepth 100000 in
theorem refSystem_no3 (n k q : Int) (hp : PoolOk k q) (hn : 1024 < n) (w : World) : Calls Try.prog 8 #[.int .i64 n, .agg #[.int .i64 k, .int .i64 q]] w fun e w' => e = .returned (.tuple #[sysZero, .int .i64 (sysE n k q)]) ∧ Below w.heap.size w w' := by
  have HV := Lib.hid (refBuffers_any k q)
  rw [show poolE k q = 0 by unfold poolE; rw [if_pos hp]] at HV
  have HE := Lib.hid (ret_sysE (sysE_arg (n := n) hp (by omega)))
  obtain ⟨bq, hbq⟩ : ∃ bq, poolB k q = bq := ⟨_, rfl⟩
  rw [hbq] at HV
  obtain ⟨bx, hbx⟩ : ∃ bx, w.heap.size = bx := ⟨_, rfl⟩
  go_enter Try.func8, Try.ntmps8
  go_wp2_with fail
  refine (HV.out _).mono ?_; rintro r w2 ⟨rfl, hb2⟩
  have hs2 := hb2.size
  simp at hs2
  have hr : w2.heap[bx + 1]? = _ := (hb2.block _ (by simp; omega)).trans (World.alloc_heap_new_at _ _ (by simp; omega))
  obtain ⟨cr, fr⟩ := blockC hr
  have HR := Lib.hid hr
  have HB := Lib.hid (below_alloc_then _ (below_alloc_then _ hb2))
  clear hr hb2
  go_wp2
  refine bodyPost_ret (sys_results rfl rfl rfl (five_set HR.out _ _ _ _ _) rfl) rfl ⟨?_, five_below HB.out (by omega) _ _ _ _ _⟩
  exact HE.out
set_option maxRecDepth 100000 in
theorem combiner_any (k : Int) (w : World) : Calls Try.prog 19 #[.int .i64 k] w fun e w' => ∃ v, e = .returned v ∧ InstsAt w' v (combL k) ∧ Below w.heap.size w w' := by
  have HB := Lib.hid (Below.refl w.heap.size w)
  go_enter Try.func19, Try.ntmps19
  iterate 15
    go_wp2_with fail
    refine (inst_any _ _ _ _ _).mono ?_; rintro r w' ⟨rfl, hb⟩
    replace HB := Lib.hid (HB.out.trans (hb.mono HB.out.size))
    clear hb
  go_wp2
  go_ret
  exact ⟨_, rfl, ⟨_, rfl, World.alloc_heap_new _ _⟩, HB.out.alloc HB.out.size _⟩
set_option maxRecDepth 100000 in
theorem worker_any (w : World) : Calls Try.prog 20 #[] w fun e w' => ∃ v, e = .returned v ∧ InstsAt w' v (workL) ∧ Below w.heap.size w w' := by
  have HB := Lib.hid (Below.refl w.heap.size w)
  go_enter Try.func20, Try.ntmps20
  iterate 8
    go_wp2_with fail
    refine (inst_any _ _ _ _ _).mono ?_; rintro r w' ⟨rfl, hb⟩
    replace HB := Lib.hid (HB.out.trans (hb.mono HB.out.size))
    clear hb
  go_wp2
  go_ret
  exact ⟨_, rfl, ⟨_, rfl, World.alloc_heap_new _ _⟩, HB.out.alloc HB.out.size _⟩
set_option maxRecDepth 100000 in
theorem feeder_any (b n : Int) (w : World) : Calls Try.prog 21 #[.int .i64 b, .int .i64 n] w fun e w' => ∃ v, e = .returned v ∧ InstsAt w' v (feedL b n) ∧ Below w.heap.size w w' := by
  have HB := Lib.hid (Below.refl w.heap.size w)
  go_enter Try.func21, Try.ntmps21
  iterate 19
    go_wp2_with fail
    refine (inst_any _ _ _ _ _).mono ?_; rintro r w' ⟨rfl, hb⟩
    replace HB := Lib.hid (HB.out.trans (hb.mono HB.out.size))
    clear hb
  go_wp2
  go_ret
  exact ⟨_, rfl, ⟨_, rfl, World.alloc_heap_new _ _⟩, HB.out.alloc HB.out.size _⟩
end Go.Proofs.Ytadkpndfbfjmfaa
