/- The rows above the leaves, by the reference. No condition. -/
import Derived.Test.YtchepcilkcdemaaS34
import Derived.Test.YtchepcilkcdemaaS35
import Derived.Test.YtchepcilkcdemaaS05
set_option linter.all false
set_option maxRecDepth 100000
set_option maxHeartbeats 8000000
namespace Go.Proofs.Ytchepcilkcdemaa
open Go.ChangeShapes Go.WideShapes Go.ChangeAt Go.RowKit Go.Joins Go.Shelf Go.Maps
attribute [local go_sem] Oper.semAt_some
/-- The calls of the row above row r. -/
def TreeV.lvlC (t : TreeV) (kz z1 z2 : List Int) (L0 : List (List Int)) (r : Nat) : List CallS := t.rowC kz z1 z2 (r + 1) (t.rootZ (r + 1) (t.lvlZ kz z1 z2 L0 r).length) (t.upZ (r + 1) (t.lvlZ kz z1 z2 L0 r)) (t.upZ (r + 1) (t.lvlZ kz z1 z2 L0 r)).length
/-- The calls of the rows from 1 to m. -/
def TreeV.lvlsC (t : TreeV) (kz z1 z2 : List Int) (L0 : List (List Int)) (m : Nat) : List (List CallS) := (List.range m).map (t.lvlC kz z1 z2 L0)
theorem TreeV.lvlsC_succ (t : TreeV) (kz z1 z2 : List Int) (L0 : List (List Int)) (m : Nat) : t.lvlsC kz z1 z2 L0 (m + 1) = t.lvlsC kz z1 z2 L0 m ++ [t.lvlC kz z1 z2 L0 m] := by simp [TreeV.lvlsC, List.range_succ]
theorem TreeV.lvlsC_length (t : TreeV) (kz z1 z2 : List Int) (L0 : List (List Int)) (m : Nat) : (t.lvlsC kz z1 z2 L0 m).length = m := by simp [TreeV.lvlsC]
/-- A node's data so far. -/
def dataZ (L : List (List Int)) (a m : Nat) : List Int := ((L.drop a).take (m - a)).flatten
theorem dataZ_succ {L : List (List Int)} {a m : Nat} (h1 : a ≤ m) (h2 : m < L.length) : dataZ L a (m + 1) = dataZ L a m ++ nthL L m := by
 unfold dataZ
 rw [show m + 1 - a = (m - a) + 1 by omega, take_flat (by simp; omega), nthL_drop, show a + (m - a) = m by omega]
theorem dataZ_self (L : List (List Int)) (a : Nat) : dataZ L a a = [] := by simp [dataZ]
theorem dataZ_len (L : List (List Int)) (a m : Nat) : (dataZ L a m).length ≤ L.flatten.length := flatten_le_of_sub ((List.take_sublist _ _).trans (List.drop_sublist _ _))
theorem ListH.bounds {w : World} {v : Value} {L : List (List Int)} (h : ListH w v L) : ∀ l ∈ L, ∀ z ∈ l, 0 ≤ z ∧ z ≤ 255 := by
 obtain ⟨a, cap, rfl, -, -, h3⟩ := h
 intro l hl z hz
 rcases h3 with rfl | ⟨g, off, -, -, h5⟩
 ·cases hl
 ·obtain ⟨i, hi, rfl⟩ := List.mem_iff_getElem.1 hl
  obtain ⟨x, -, h6⟩ := h5 i hi
  have e : nthL L i = L[i] := by unfold nthL; simp [List.getD_eq_getElem?_getD, hi]
  rw [e] at h6
  exact h6.1 z hz
theorem dataZ_bounds {L : List (List Int)} {a m : Nat} (h : ∀ l ∈ L, ∀ z ∈ l, 0 ≤ z ∧ z ≤ 255) : ∀ z ∈ dataZ L a m, 0 ≤ z ∧ z ≤ 255 := by
 intro z hz
 obtain ⟨l, hl, hzl⟩ := List.mem_flatten.1 hz
 exact h l (List.mem_of_mem_drop (List.mem_of_mem_take hl)) z hzl
end Go.Proofs.Ytchepcilkcdemaa
