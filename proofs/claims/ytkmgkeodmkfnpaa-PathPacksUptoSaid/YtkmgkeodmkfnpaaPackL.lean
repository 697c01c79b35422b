/- Two paths of the same digests are alike, by the law's own words. No condition. -/
import Derived.Test.YtkmgkeodmkfnpaaPackH
import Derived.BigQuiet
import Derived.Deep.QuietTactic
namespace Go.Proofs.Ytkmgkeodmkfnpaa
open Go.ChangeShapes Go.WideShapes Go.ChangeAt Go.RowKit Go.Joins Go.Shelf Go.Maps
attribute [local go_sem] Oper.semAt_some

set_option maxRecDepth 100000 in
theorem same_eq' (zs : List Int) (u v : Value) (w : World) (hu : Holds8 w u zs) (hv : Holds8 w v zs) (hl : zs.length ≤ 1099511627776) :
    Calls Try.prog 58 #[u, v] w fun e w' => e = .returned (.bool true) ∧ ∃ m, w' = w.drewN m := by
  obtain ⟨a, cap, rfl, h⟩ := hu
  obtain ⟨a', cap', rfl, h'⟩ := hv
  by_cases h0 : zs = []
  · subst h0
    clear h h'
    go_enter Try.func58, Try.ntmps58
    go_wp2_with fail
    go_loopw [5] (fun i wr => i = .int .i64 0 ∧ w = wr) (fun _ _ => 0)
    case atStart => exact ⟨rfl, rfl⟩
    case round =>
      obtain ⟨rfl, rfl⟩ := hrel
      go_wp2
      go_ret
      exact ⟨rfl, 0, rfl⟩
  · obtain ⟨b, off, rfl, hb1, hb2⟩ := h.resolve_left h0
    obtain ⟨b', off', rfl, hb1', hb2'⟩ := h'.resolve_left h0
    have H2 := Lib.hid hb2
    have H2' := Lib.hid hb2'
    clear h h' hb2 hb2'
    go_enter Try.func58, Try.ntmps58
    go_wp2_with fail
    go_loopw [5] (fun i wr => ∃ (k n : Nat), i = .int .i64 k ∧ k ≤ zs.length ∧ wr = w.drewN n) (fun i _ => zs.length - (intOf i).toNat)
    case atStart => exact ⟨0, 0, rfl, Nat.zero_le _, rfl⟩
    case round =>
      obtain ⟨k, n, rfl, hk, rfl⟩ := hrel
      by_cases hlt : k < zs.length
      · have e1 : w.cell? ⟨b, off + k, none⟩ = some (.int .u8 (nthz zs k)) := H2.out k hlt
        have e2 : w.cell? ⟨b', off' + k, none⟩ = some (.int .u8 (nthz zs k)) := H2'.out k hlt
        go_wp2
        go_quiet (fail)
        go_wp2
        exact ⟨⟨k + 1, n + nq, by go_num, by omega, rfl⟩, by simp [intOf]; omega⟩
      · obtain rfl : k = zs.length := by omega
        go_wp2
        go_ret
        exact ⟨rfl, n, rfl⟩
theorem lawSame_any (zs : List Int) (u v : Value) (w : World) (hu : Holds8 w u zs) (hv : Holds8 w v zs) (hl : zs.length ≤ 1099511627776) :
    Calls Try.prog 24 #[u, v] w fun e w' => e = .returned (.bool true) ∧ ∃ m, w' = w.drewN m := by
  have H := Lib.hid (same_eq' zs u v w hu hv hl)
  clear hu hv
  go_enter Try.func24, Try.ntmps24
  go_wp2_with fail
  refine H.out.mono ?_; rintro e w1 ⟨rfl, m, rfl⟩
  go_wp2
  go_ret
  exact ⟨rfl, m, rfl⟩
def LenOk (ds : List (List Int)) : Prop := ds.length ≤ 1048576 ∧ ∀ d ∈ ds, d.length ≤ 1048576
theorem rowsAt_draws {w : World} {v : Value} {ds : List (List Int)} (h : RowsAt w v ds) (n : Nat) : RowsAt (w.drewN n) v ds := h.below (below_draws _ _ _)
theorem stepsAt_draws {w : World} {v : Value} {ss : List StepV} (h : StepsAt w v ss) (n : Nat) : StepsAt (w.drewN n) v ss := h.below (below_draws _ _ _)
theorem drewN_drewN (w : World) (m n : Nat) : ∃ k, (w.drewN m).drewN n = w.drewN k := ⟨m + n, by unfold World.drewN; simp [Nat.add_assoc]⟩
theorem drewN_drew (w : World) (m : Nat) : ∃ k, (w.drewN m).drew = w.drewN k := ⟨m + 1, by unfold World.drewN World.drew; simp [Nat.add_assoc]⟩
/-- Where a row's k-th digest lies. -/
theorem RowsAt.elem2 {w : World} {a : Option Addr} {n cap : Nat} {ds : List (List Int)} (h : RowsAt w (.slice a n cap) ds) {k : Nat} (hk : k < n) :
    n = ds.length ∧ ∃ b off x c, a = some ⟨b, off, none⟩ ∧ w.cell? ⟨b, off + k, none⟩ = some (.slice x (nthd ds k).length c) ∧ Holds8 w (.slice x (nthd ds k).length c) (nthd ds k) := by
  obtain ⟨h1, b, off, x, c, h2, -, h3, h4⟩ := h.elem hk
  exact ⟨h1, b, off, x, c, h2, h3, h4⟩
set_option maxRecDepth 100000 in
theorem lists_any (ds : List (List Int)) (u v : Value) (w : World) (hu : RowsAt w u ds) (hv : RowsAt w v ds) (hl : LenOk ds) :
    Calls Try.prog 59 #[u, v] w fun e w' => e = .returned (.bool true) ∧ ∃ m, w' = w.drewN m := by
  have HU := Lib.hid hu
  have HV := Lib.hid hv
  have HL := Lib.hid hl.2
  have hl1 := hl.1
  clear hl
  obtain ⟨a, cap, V, rfl, -, -⟩ := hu
  obtain ⟨a', cap', V', rfl, -, -⟩ := hv
  generalize hn : ds.length = n at *
  go_enter Try.func59, Try.ntmps59
  go_wp2_with fail
  go_loopw [5] (fun i wr => ∃ (k m : Nat), i = .int .i64 k ∧ k ≤ n ∧ wr = w.drewN m) (fun i _ => n - (intOf i).toNat)
  case atStart => exact ⟨0, 0, rfl, Nat.zero_le _, rfl⟩
  case round =>
    obtain ⟨k, m, rfl, hk, rfl⟩ := hrel
    by_cases hlt : k < n
    · obtain ⟨-, b, off, x, c, rfl, h1, h2⟩ := RowsAt.elem2 HU.out hlt
      obtain ⟨-, b', off', x', c', rfl, h1', h2'⟩ := RowsAt.elem2 HV.out hlt
      have hdl : (nthd ds k).length ≤ 1048576 := HL.out _ (nthd_mem (by omega))
      have H2 := Lib.hid h2
      have H2' := Lib.hid h2'
      generalize hx : nthd ds k = zs at *
      generalize hy : zs.length = q at *
      clear h2 h2'
      go_wp2_with fail
      go_region_held3 (fun w' => w'.cell? ⟨b, off + k, none⟩ = some (.slice x q c) ∧ w'.cell? ⟨b', off' + k, none⟩ = some (.slice x' q c'))
        (first | exact ⟨h1, h1'⟩ | go_keep)
        (first
          | (refine (lawSame_any zs _ _ _ (holds8_below H2.out (by repeat (first | exact Below.refl _ _ | exact below_draws _ _ _ | refine Below.drew ?_))) (holds8_below H2'.out (by repeat (first | exact Below.refl _ _ | exact below_draws _ _ _ | refine Below.drew ?_))) (by omega)).mono ?_; rintro e w2 ⟨rfl, m2, rfl⟩))
      go_wp2
      exact ⟨⟨k + 1, _, rfl, by omega, rfl⟩, by simp [intOf]; omega⟩
    · obtain rfl : k = n := by omega
      go_wp2
      go_ret
      exact ⟨rfl, m, rfl⟩
def StepsLen (ss : List StepV) : Prop := ss.length ≤ 1048576 ∧ ∀ s ∈ ss, LenOk s.1 ∧ LenOk s.2
set_option maxRecDepth 100000 in
set_option maxHeartbeats 1000000 in
theorem alike_any (total leaf : Int) (ss : List StepV) (u v : Value) (w : World) (hu : StepsAt w u ss) (hv : StepsAt w v ss) (hl : StepsLen ss) :
    Calls Try.prog 25 #[.agg #[.int .u64 total, .int .u64 leaf, u], .agg #[.int .u64 total, .int .u64 leaf, v]] w fun e w' => e = .returned (.bool true) ∧ Below w.heap.size w w' := by
  have HL := Lib.hid hl.2
  have hl1 := hl.1
  clear hl
  obtain ⟨a, cap, U, V, rfl, -, hcu⟩ := hu
  obtain ⟨a', cap', U', V', rfl, -, hcv⟩ := hv
  have HCU := Lib.hid hcu
  have HCV := Lib.hid hcv
  clear hcu hcv
  generalize hn : ss.length = n at *
  go_enter Try.func25, Try.ntmps25
  go_wp2_with fail
  refine letter_world ?_
  intro W hW
  have hBW : Below w.heap.size w W := by rw [hW]; exact ((Below.refl _ _).alloc (Nat.le_refl _) _).alloc (by simp) _
  have c1 : W.cell? ⟨w.heap.size, 2, none⟩ = some (.slice a n cap) := by
    rw [hW, cell_of_heap ((Below.heap_alloc _ _ w.heap.size (by simp)).trans (World.alloc_heap_new w _)) 2]; rfl
  have c2 : W.cell? ⟨w.heap.size + 1, 2, none⟩ = some (.slice a' n cap') := by
    rw [hW, cell_of_heap (World.alloc_heap_new_at _ _ (by simp)) 2]; rfl
  clear hW
  go_loopw [5] (fun i wr => ∃ (j m : Nat), i = .int .i64 j ∧ j ≤ n ∧ wr = W.drewN m) (fun i _ => n - (intOf i).toNat)
  case atStart => exact ⟨0, 0, rfl, Nat.zero_le _, rfl⟩
  case round =>
    obtain ⟨j, m, rfl, hj, rfl⟩ := hrel
    by_cases hlt : j < n
    · obtain ⟨b, off, rfl, hbw, hst⟩ := HCU.out.resolve_left (fun e => by rw [e] at hn; simp at hn; omega)
      obtain ⟨b', off', rfl, hbw', hst'⟩ := HCV.out.resolve_left (fun e => by rw [e] at hn; simp at hn; omega)
      obtain ⟨k1, k2, k3, k4⟩ := hst j hlt
      obtain ⟨k1', k2', k3', k4'⟩ := hst' j hlt
      obtain ⟨L1, L2⟩ := HL.out _ (nths_mem (ss := ss) (k := j) (by omega))
      have d1 : W.cell? ⟨b, off + j * 2, none⟩ = some (U j) := (hBW.cell (p := ⟨b, _, none⟩) hbw).trans k1
      have d2 : W.cell? ⟨b, off + j * 2 + 1, none⟩ = some (V j) := (hBW.cell (p := ⟨b, _, none⟩) hbw).trans k2
      have d1' : W.cell? ⟨b', off' + j * 2, none⟩ = some (U' j) := (hBW.cell (p := ⟨b', _, none⟩) hbw').trans k1'
      have d2' : W.cell? ⟨b', off' + j * 2 + 1, none⟩ = some (V' j) := (hBW.cell (p := ⟨b', _, none⟩) hbw').trans k2'
      have R1 := Lib.hid (k3.below hBW)
      have R2 := Lib.hid (k4.below hBW)
      have R1' := Lib.hid (k3'.below hBW)
      have R2' := Lib.hid (k4'.below hBW)
      have LL1 := Lib.hid L1
      have LL2 := Lib.hid L2
      obtain ⟨x1, y1, V1, e1, -, -⟩ := k3
      obtain ⟨x2, y2, V2, e2, -, -⟩ := k4
      obtain ⟨x1', y1', V1', e1', -, -⟩ := k3'
      obtain ⟨x2', y2', V2', e2', -, -⟩ := k4'
      rw [e1] at d1 R1
      rw [e2] at d2 R2
      rw [e1'] at d1' R1'
      rw [e2'] at d2' R2'
      clear k1 k2 k1' k2' e1 e2 e1' e2' hst hst' L1 L2
      have HH1 := Lib.hid (fun (w : World) (a1 : RowsAt w _ _) (a2 : RowsAt w _ _) => lists_any (nths ss j).1 (.slice x1 (nths ss j).1.length y1) (.slice x1' (nths ss j).1.length y1') w a1 a2 LL1.out)
      have HH2 := Lib.hid (fun (w : World) (a1 : RowsAt w _ _) (a2 : RowsAt w _ _) => lists_any (nths ss j).2 (.slice x2 (nths ss j).2.length y2) (.slice x2' (nths ss j).2.length y2') w a1 a2 LL2.out)
      go_wp2_with fail
      go_region_held3 (fun w' => w'.cell? ⟨w.heap.size, 2, none⟩ = some (.slice (some ⟨b, off, none⟩) n cap) ∧ w'.cell? ⟨w.heap.size + 1, 2, none⟩ = some (.slice (some ⟨b', off', none⟩) n cap') ∧ w'.cell? ⟨b, off + j * 2, none⟩ = some (.slice x1 (nths ss j).1.length y1) ∧ w'.cell? ⟨b, off + j * 2 + 1, none⟩ = some (.slice x2 (nths ss j).2.length y2) ∧ w'.cell? ⟨b', off' + j * 2, none⟩ = some (.slice x1' (nths ss j).1.length y1') ∧ w'.cell? ⟨b', off' + j * 2 + 1, none⟩ = some (.slice x2' (nths ss j).2.length y2'))
        (first | exact ⟨c1, c2, d1, d2, d1', d2'⟩ | go_keep)
        (first
          | (go_at_call_of 59 (Value.slice x1 (nths ss j).1.length y1); refine (HH1.out _ (R1.out.below (by repeat (first | exact Below.refl _ _ | exact below_draws _ _ _ | refine Below.drew ?_))) (R1'.out.below (by repeat (first | exact Below.refl _ _ | exact below_draws _ _ _ | refine Below.drew ?_)))).mono ?_; rintro e w2 ⟨rfl, m2, rfl⟩)
          | (go_at_call_of 59 (Value.slice x2 (nths ss j).2.length y2); refine (HH2.out _ (R2.out.below (by repeat (first | exact Below.refl _ _ | exact below_draws _ _ _ | refine Below.drew ?_))) (R2'.out.below (by repeat (first | exact Below.refl _ _ | exact below_draws _ _ _ | refine Below.drew ?_)))).mono ?_; rintro e w3 ⟨rfl, m3, rfl⟩))
      go_wp2
      exact ⟨⟨j + 1, _, rfl, by omega, rfl⟩, by simp [intOf]; omega⟩
    · obtain rfl : j = n := by omega
      go_wp2
      go_ret
      exact ⟨rfl, hBW.trans (below_draws _ _ _)⟩
end Go.Proofs.Ytkmgkeodmkfnpaa
