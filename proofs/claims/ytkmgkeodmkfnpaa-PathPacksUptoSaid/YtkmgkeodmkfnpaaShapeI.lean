/- The walks of Nodes on both sides, and of awake. No condition. -/
import Derived.Test.YtkmgkeodmkfnpaaShapeH
namespace Go.Proofs.Ytkmgkeodmkfnpaa
open Go.ChangeShapes Go.WideShapes Go.ChangeAt Go.RowKit Go.Joins Go.Shelf Go.Maps

def sumU (l : List Nat) : Nat := l.foldl (fun s n => (s + n) % 18446744073709551616) 0
theorem sumU_snoc (l : List Nat) (n : Nat) : sumU (l ++ [n]) = (sumU l + n) % 18446744073709551616 := by simp [sumU]
theorem wrap_u64 (x : Int) : IntKind.u64.wrap x = x % 18446744073709551616 := by simp [IntKind.wrap, IntKind.bits, IntKind.signed]
theorem sumU_step (l : List Nat) (k : Nat) (hk : k < l.length) : IntKind.u64.wrap ((sumU (l.take k) : Nat) + (nth l k : Nat)) = ((sumU (l.take (k + 1)) : Nat) : Int) := by
  have e : l.take (k + 1) = l.take k ++ [nth l k] := by
    rw [List.take_succ_eq_append_getElem hk]; simp [nth, List.getElem?_eq_getElem hk]
  rw [e, sumU_snoc, wrap_u64]
  omega
theorem ownsRow_cells {w : World} {base : Nat} {e : TypeId} {L : List Nat} {n : Nat} {v : Value} (h : w.ownsRow base e 1 v n (L.map encU)) (hn : 0 < n) :
    ∃ g cap, v = .slice (some ⟨g, 0, none⟩) n cap ∧ L.length = n ∧ base ≤ g ∧ g < w.heap.size ∧ ∀ j, j < n → w.cell? ⟨g, j, none⟩ = some (.int .u64 (nth L j : Nat)) := by
  obtain ⟨g, cap, rfl⟩ := ownsRow_form h hn
  have hl := h.1
  simp at hl
  have hlt := h.lt g (by simp [Value.ownBlock])
  refine ⟨g, cap, rfl, hl, hlt.1, hlt.2, fun j hj => ?_⟩
  rw [h.cellAt j (by omega)]
  simp [encU, nth, List.getElem?_eq_getElem (show j < L.length by omega)]
theorem rowsL_len (f p n : Nat) : 0 < (rowsL f p n).length := by simp [rowsL]
theorem rowsL_len2 {t : TreeV} {total : Nat} (h : t.err total = 0) : (rowsL t.fn t.pn (lvs total t.ln)).length ≤ 256 := by
  have hvf := TreeV.valid_facts (TreeV.err_valid h)
  have := rowsFrom_length t.fn t.pn t.pn 1 (lvs total t.ln)
  have hp : t.pn ≤ 255 := by unfold TreeV.pn; omega
  simp only [rowsL, List.length_cons]; omega

theorem rows_awake : rowsL 2 255 (lvs 9 4) = [3, 2, 1] := by decide +kernel
end Go.Proofs.Ytkmgkeodmkfnpaa
