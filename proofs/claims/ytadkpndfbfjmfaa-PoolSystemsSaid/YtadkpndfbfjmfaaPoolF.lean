/- The law's compares: equal numbers, equal systems; awake. No condition. -/
import Derived.Test.YtadkpndfbfjmfaaPoolE
import Derived.BigQuiet
import Derived.Deep.QuietTactic
namespace Go.Proofs.Ytadkpndfbfjmfaa
open Go.ChangeShapes Go.WideShapes Go.ChangeAt Go.RowKit Go.Joins
attribute [local go_sem] Oper.semAt_some

theorem below_drewN {W : World} (n B : Nat) : Below B W (W.drewN n) := ⟨rfl, rfl, rfl, Nat.le_refl _, fun _ _ => rfl⟩
def nthI (L : List InstV) (k : Nat) : InstV := L.getD k ⟨0, 0, 0, 0⟩
theorem ints_cell {w : World} {v : Value} {L : List Int} (h : IntsAt w v L) : ∃ b, v = .slice (some ⟨b, 0, none⟩) L.length L.length ∧ b < w.heap.size ∧ ∀ k, k < L.length → w.cell? ⟨b, k, none⟩ = some (.int .i64 (L.getD k 0)) := by
  obtain ⟨b, e, h⟩ := h
  refine ⟨b, e, (Array.getElem?_eq_some_iff.1 h).1, fun k hk => ?_⟩
  rw [cell_of_heap h]
  simp [hk, List.getD_eq_getElem?_getD]
theorem instCells_at : ∀ (L : List InstV) (j : Nat), j < L.length → (instCells L)[j * 4]? = some (.int .i64 (nthI L j).op) ∧ (instCells L)[j * 4 + 1]? = some (.int .i64 (nthI L j).a) ∧ (instCells L)[j * 4 + 2]? = some (.int .i64 (nthI L j).b) ∧ (instCells L)[j * 4 + 3]? = some (.int .i64 (nthI L j).c)
  | [], j, h => by simp at h
  | i :: L, 0, _ => by simp [instCells, nthI]
  | i :: L, j + 1, h => by
    have ih := instCells_at L j (by simpa using h)
    have e : instCells (i :: L) = .int .i64 i.op :: .int .i64 i.a :: .int .i64 i.b :: .int .i64 i.c :: instCells L := rfl
    have n1 : nthI (i :: L) (j + 1) = nthI L j := rfl
    rw [e, n1, show (j + 1) * 4 = j * 4 + 1 + 1 + 1 + 1 by omega]
    simpa using ih
theorem insts_cell {w : World} {v : Value} {L : List InstV} (h : InstsAt w v L) : ∃ b, v = .slice (some ⟨b, 0, none⟩) L.length L.length ∧ b < w.heap.size ∧ ∀ j, j < L.length →
    w.cell? ⟨b, j * 4, none⟩ = some (.int .i64 (nthI L j).op) ∧ w.cell? ⟨b, j * 4 + 1, none⟩ = some (.int .i64 (nthI L j).a) ∧ w.cell? ⟨b, j * 4 + 2, none⟩ = some (.int .i64 (nthI L j).b) ∧ w.cell? ⟨b, j * 4 + 3, none⟩ = some (.int .i64 (nthI L j).c) := by
  obtain ⟨b, e, h⟩ := h
  refine ⟨b, e, (Array.getElem?_eq_some_iff.1 h).1, fun j hj => ?_⟩
  have := instCells_at L j hj
  simp only [cell_of_heap h, List.getElem?_toArray]
  exact this
set_option maxRecDepth 100000 in
theorem ints_nil (w : World) : Calls Try.prog 22 #[.slice none 0 0, .slice none 0 0] w fun e w' => e = .returned (.bool true) ∧ ∃ m, w' = w.drewN m := by
  go_enter Try.func22, Try.ntmps22
  go_wp2_with fail
  go_loopw [5] (fun i wr => i = .int .i64 0 ∧ w = wr) (fun _ _ => 0)
  case atStart => exact ⟨rfl, rfl⟩
  case round =>
    obtain ⟨rfl, rfl⟩ := hrel
    go_wp2
    go_ret
    exact ⟨rfl, 0, rfl⟩
set_option maxRecDepth 100000 in
theorem ints_eq (L : List Int) (u v : Value) (w : World) (hu : IntsAt w u L) (hv : IntsAt w v L) (hl : L.length ≤ 65535) :
    Calls Try.prog 22 #[u, v] w fun e w' => e = .returned (.bool true) ∧ ∃ m, w' = w.drewN m := by
  obtain ⟨b, rfl, -, hb⟩ := ints_cell hu
  obtain ⟨b', rfl, -, hb'⟩ := ints_cell hv
  have H := Lib.hid hb
  have H' := Lib.hid hb'
  clear hu hv hb hb'
  go_enter Try.func22, Try.ntmps22
  go_wp2_with fail
  go_loopw [5] (fun i wr => ∃ (k n : Nat), i = .int .i64 k ∧ k ≤ L.length ∧ wr = w.drewN n) (fun i _ => L.length - (intOf i).toNat)
  case atStart => exact ⟨0, 0, rfl, Nat.zero_le _, rfl⟩
  case round =>
    obtain ⟨k, n, rfl, hk, rfl⟩ := hrel
    by_cases hlt : k < L.length
    · have e1 := H.out k hlt
      have e2 := H'.out k hlt
      generalize L.getD k 0 = z at e1 e2
      go_wp2
      go_quiet (fail)
      go_wp2
      exact ⟨⟨k + 1, n + nq, by go_num, by omega, rfl⟩, by simp [intOf]; omega⟩
    · obtain rfl : k = L.length := by omega
      go_wp2
      go_ret
      exact ⟨rfl, n, rfl⟩
theorem awake_any (w : World) : Calls Try.prog 14 #[] w fun e w' => e = .returned (.bool true) ∧ Below w.heap.size w w' := by
  have H := Lib.hid (bound_any 1 1 1)
  rw [show bndV 1 1 1 = 54 by decide, show sysE 1 1 1 = 0 by decide] at H
  go_enter Try.func14, Try.ntmps14
  go_wp2_with fail
  refine (H.out _).mono ?_; rintro r w2 ⟨rfl, hb2⟩
  have HB := Lib.hid hb2
  clear hb2
  go_wp2
  go_ret
  exact ⟨rfl, HB.out⟩
end Go.Proofs.Ytadkpndfbfjmfaa
