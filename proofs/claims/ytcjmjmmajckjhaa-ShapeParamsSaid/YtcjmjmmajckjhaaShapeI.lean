/- The walks of Nodes on both sides, and of awake. No condition. -/
import Derived.Test.YtcjmjmmajckjhaaShapeH
namespace Go.Proofs.Ytcjmjmmajckjhaa
open Go.ChangeShapes Go.WideShapes Go.ChangeAt Go.RowKit Go.Joins Go.Shelf Go.Maps

def sumU (l : List Nat) : Nat := l.foldl (fun s n => (s + n) % 18446744073709551616) 0
theorem sumU_snoc (l : List Nat) (n : Nat) : sumU (l ++ [n]) = (sumU l + n) % 18446744073709551616 := by simp [sumU]
theorem wrap_u64 (x : Int) : IntKind.u64.wrap x = x % 18446744073709551616 := by simp [IntKind.wrap, IntKind.bits, IntKind.signed]
theorem sumU_step (l : List Nat) (k : Nat) (hk : k < l.length) : IntKind.u64.wrap ((sumU (l.take k) : Nat) + (nth l k : Nat)) = ((sumU (l.take (k + 1)) : Nat) : Int) := by
  have e : l.take (k + 1) = l.take k ++ [nth l k] := by
    rw [List.take_succ_eq_append_getElem hk]; simp [nth, List.getElem?_eq_getElem hk]
  rw [e, sumU_snoc, wrap_u64]
  omega
theorem ownsRow_cells {w : World} {base : Nat} {e : TypeId} {L : List Nat} {n : Nat} {v : Value} (h : w.ownsRow base e 1 v n (L.map encU)) (hn : 0 < n) :
    ∃ g cap, v = .slice (some ⟨g, 0, none⟩) n cap ∧ L.length = n ∧ base ≤ g ∧ g < w.heap.size ∧ ∀ j, j < n → w.cell? ⟨g, j, none⟩ = some (.int .u64 (nth L j : Nat)) := by
  obtain ⟨g, cap, rfl⟩ := ownsRow_form h hn
  have hl := h.1
  simp at hl
  have hlt := h.lt g (by simp [Value.ownBlock])
  refine ⟨g, cap, rfl, hl, hlt.1, hlt.2, fun j hj => ?_⟩
  rw [h.cellAt j (by omega)]
  simp [encU, nth, List.getElem?_eq_getElem (show j < L.length by omega)]
theorem rowsL_len (f p n : Nat) : 0 < (rowsL f p n).length := by simp [rowsL]
theorem rowsL_len2 {t : TreeV} {total : Nat} (h : t.err total = 0) : (rowsL t.fn t.pn (lvs total t.ln)).length ≤ 256 := by
  have hvf := TreeV.valid_facts (TreeV.err_valid h)
  have := rowsFrom_length t.fn t.pn t.pn 1 (lvs total t.ln)
  have hp : t.pn ≤ 255 := by unfold TreeV.pn; omega
  simp only [rowsL, List.length_cons]; omega

set_option maxRecDepth 100000 in
theorem nodes_ok (t : TreeV) (hl : 0 ≤ t.l ∧ t.l ≤ 4294967295) (total : Nat) (ht : (total : Int) ≤ 18446744073709551615) (h : t.err total = 0) (w : World) :
    Calls Try.prog 38 #[t.val, .int .u64 total] w fun e w' => e = .returned (.tuple #[.int .u64 (sumU (rowsL t.fn t.pn (lvs total t.ln)) : Nat), .int .i64 0]) ∧ Below w.heap.size w w' := by
  have hN := rowsL_len2 h
  have hN0 := rowsL_len t.fn t.pn (lvs total t.ln)
  have HR := Lib.hid (fun w => rows_ok t hl total ht h w)
  clear h
  generalize rowsL t.fn t.pn (lvs total t.ln) = L at *
  unfold TreeV.val
  go_enter Try.func38, Try.ntmps38
  go_wp2_with fail
  refine (HR.out _).mono ?_; rintro e w1 ⟨v, rfl, hown, hb1⟩
  obtain ⟨g, cap, rfl, -, hg1, hg2, hcell⟩ := ownsRow_cells hown hN0
  clear hown
  go_wp2
  go_loop [8, 19] (fun s i => ∃ k : Nat, k ≤ L.length ∧ i = .int .i64 k ∧ s = .int .u64 (sumU (L.take k) : Nat)) (fun _ i => L.length - (intOf i).toNat)
  case atStart => exact ⟨0, Nat.zero_le _, rfl, rfl⟩
  case round =>
    obtain ⟨k, hk, rfl, rfl⟩ := hrel
    by_cases hlt : k < L.length
    · have hc := hcell k hlt
      have hs := Lib.hid (sumU_step L k hlt)
      clear hcell
      go_wp2
      go_round
      case rel => exact ⟨k + 1, by omega, by go_num, by rw [← hs.out]⟩
      case measure => simp [intOf]; omega
    · clear hcell
      go_wp2
      go_ret2
      exact ⟨ret_t2 (by rw [List.take_of_length_le (by omega)]), below_alloc_then _ hb1⟩
set_option maxRecDepth 100000 in
theorem refNodes_ok (t : TreeV) (hl : 0 ≤ t.l ∧ t.l ≤ 4294967295) (total : Nat) (ht : (total : Int) ≤ 18446744073709551615) (h : t.err total = 0) (w : World) :
    Calls Try.prog 39 #[t.val, .int .u64 total] w fun e w' => e = .returned (.tuple #[.int .u64 (sumU (rowsL t.fn t.pn (lvs total t.ln)) : Nat), .int .i64 0]) ∧ Below w.heap.size w w' := by
  have hN := rowsL_len2 h
  have hN0 := rowsL_len t.fn t.pn (lvs total t.ln)
  have HR := Lib.hid (fun w => refRows_ok t hl total ht h w)
  clear h
  generalize rowsL t.fn t.pn (lvs total t.ln) = L at *
  unfold TreeV.val
  go_enter Try.func39, Try.ntmps39
  go_wp2_with fail
  refine (HR.out _).mono ?_; rintro e w1 ⟨v, rfl, hown, hb1⟩
  obtain ⟨g, cap, rfl, -, hg1, hg2, hcell⟩ := ownsRow_cells hown hN0
  clear hown
  go_wp2
  go_loop [8, 9] (fun s i => ∃ k : Nat, k ≤ L.length ∧ i = .int .i64 k ∧ s = .int .u64 (sumU (L.take k) : Nat)) (fun _ i => L.length - (intOf i).toNat)
  case atStart => exact ⟨0, Nat.zero_le _, rfl, rfl⟩
  case round =>
    obtain ⟨k, hk, rfl, rfl⟩ := hrel
    by_cases hlt : k < L.length
    · have hc := hcell k hlt
      have hs := Lib.hid (sumU_step L k hlt)
      clear hcell
      go_wp2
      go_round
      case rel => exact ⟨k + 1, by omega, by go_num, by rw [← hs.out]⟩
      case measure => simp [intOf]; omega
    · clear hcell
      go_wp2
      go_ret2
      exact ⟨ret_t2 (by rw [List.take_of_length_le (by omega)]), below_alloc_then _ hb1⟩
set_option maxRecDepth 100000 in
theorem nodes_err (t : TreeV) (hl : 0 ≤ t.l ∧ t.l ≤ 4294967295) (total : Nat) (ht : (total : Int) ≤ 18446744073709551615) (h : t.err total ≠ 0) (w : World) :
    Calls Try.prog 38 #[t.val, .int .u64 total] w fun e w' => e = .returned (.tuple #[.int .u64 0, .int .i64 (t.err total)]) ∧ Below w.heap.size w w' := by
  have H := Lib.hid h
  clear h
  unfold TreeV.val
  go_enter Try.func38, Try.ntmps38
  go_wp2_with fail
  refine (rows_err t hl total ht H.out _).mono ?_; rintro e w1 ⟨rfl, hb1⟩
  go_wp2
  go_loop [8, 19] (fun s i => i = .int .i64 0 ∧ s = .int .u64 0) (fun _ _ => 0)
  case atStart => exact ⟨rfl, rfl⟩
  case round =>
    obtain ⟨rfl, rfl⟩ := hrel
    go_wp2
    go_ret2
    exact ⟨rfl, below_alloc_then _ hb1⟩
set_option maxRecDepth 100000 in
theorem refNodes_err (t : TreeV) (hl : 0 ≤ t.l ∧ t.l ≤ 4294967295) (total : Nat) (ht : (total : Int) ≤ 18446744073709551615) (h : t.err total ≠ 0) (w : World) :
    Calls Try.prog 39 #[t.val, .int .u64 total] w fun e w' => e = .returned (.tuple #[.int .u64 0, .int .i64 (t.err total)]) ∧ Below w.heap.size w w' := by
  have H := Lib.hid h
  clear h
  unfold TreeV.val
  go_enter Try.func39, Try.ntmps39
  go_wp2_with fail
  refine (refRows_err t hl total ht H.out _).mono ?_; rintro e w1 ⟨rfl, hb1⟩
  go_wp2
  go_loop [8, 9] (fun s i => i = .int .i64 0 ∧ s = .int .u64 0) (fun _ _ => 0)
  case atStart => exact ⟨rfl, rfl⟩
  case round =>
    obtain ⟨rfl, rfl⟩ := hrel
    go_wp2
    go_ret2
    exact ⟨rfl, below_alloc_then _ hb1⟩

theorem rows_awake : rowsL 2 255 (lvs 9 4) = [3, 2, 1] := by decide +kernel
set_option maxRecDepth 100000 in
theorem awake_any (w : World) : Calls Try.prog 33 #[] w (Trues w) := by
  have hr := rows_ok ⟨1, 32, 2, 255, 4, 32, none, 0, 0, none, 0, 0, none, 0, 0⟩ ⟨by decide, by decide⟩ 9 (by decide) (by decide +kernel)
  have HR := Lib.hid hr
  clear hr
  go_enter Try.func33, Try.ntmps33
  go_wp2_with fail
  refine (HR.out _).mono ?_; rintro e w1 ⟨v, rfl, hown, hb1⟩
  have e1 : rowsL (TreeV.fn ⟨1, 32, 2, 255, 4, 32, none, 0, 0, none, 0, 0, none, 0, 0⟩) (TreeV.pn ⟨1, 32, 2, 255, 4, 32, none, 0, 0, none, 0, 0, none, 0, 0⟩) (lvs 9 (TreeV.ln ⟨1, 32, 2, 255, 4, 32, none, 0, 0, none, 0, 0, none, 0, 0⟩)) = [3, 2, 1] := rows_awake
  rw [e1] at hown
  clear e1
  obtain ⟨g, cap, rfl, -, -, hg2, hcell⟩ := ownsRow_cells hown (by decide)
  have h0 := hcell 0 (by decide)
  have h1 := hcell 1 (by decide)
  have h2 := hcell 2 (by decide)
  have n0 : ((nth [3, 2, 1] 0 : Nat) : Int) = 3 := rfl
  have n1 : ((nth [3, 2, 1] 1 : Nat) : Int) = 2 := rfl
  have n2 : ((nth [3, 2, 1] 2 : Nat) : Int) = 1 := rfl
  rw [n0] at h0
  rw [n1] at h1
  rw [n2] at h2
  clear n0 n1 n2 hcell hown
  go_wp2
  go_ret
  exact ⟨rfl, hb1.mono (by simp)⟩
end Go.Proofs.Ytcjmjmmajckjhaa
