/- How long a node's output is; a call whose answer the document fixes. No condition. -/
import Derived.Test.YtahenngmaoellaaN39
set_option linter.all false
set_option maxRecDepth 100000
set_option maxHeartbeats 8000000
namespace Go.Proofs.Ytahenngmaoellaa
open Go.ChangeShapes Go.WideShapes Go.ChangeAt Go.RowKit Go.Joins Go.Shelf Go.Maps
attribute [local go_sem] Oper.semAt_some
theorem callR_len {big : Bool} {bs kz ds : List Int} {la : Bool} {o : Int} (h : 1 ≤ o ∧ o ≤ (mB big : Nat)) : ((callR big bs kz la o ds).length : Int) = o := by
 unfold callR
 rw [List.length_take, outZ_length]
 omega
theorem TreeV.outN_ok {t : TreeV} (h : t.validE = 0) (rt : Bool) : 1 ≤ t.outN rt ∧ t.outN rt ≤ (mB t.big : Nat) := by
 have hmb := TreeV.mB_big h
 obtain ⟨-, d1, d2, d3, d4, -⟩ := TreeV.valid_facts h
 cases rt
 ·show 1 ≤ t.i ∧ t.i ≤ _; omega
 ·show 1 ≤ t.d ∧ t.d ≤ _; omega
theorem TreeV.node_lenE {t : TreeV} (h : t.validE = 0) (kz z1 z2 : List Int) (row i : Nat) (la rt : Bool) (d : List Int) : ((t.node kz z1 z2 row i la rt d).length : Int) = t.outN rt := callR_len (TreeV.outN_ok h rt)
theorem TreeV.rowZ_nth (t : TreeV) (kz z1 z2 : List Int) (row : Nat) (rt : Bool) (L : List (List Int)) {m i : Nat} (h : i < m) : nthL (t.rowZ kz z1 z2 row rt L m) i = t.node kz z1 z2 row i (decide (i + 1 = L.length)) rt (nthL L i) := by
 simp [nthL, TreeV.rowZ, List.getD_eq_getElem?_getD, h]
theorem TreeV.top_len {t : TreeV} (h : t.validE = 0) (kz z1 z2 : List Int) {L0 : List (List Int)} {R : Nat} (hT : t.topAt kz z1 z2 L0 R) : (t.lvlZ kz z1 z2 L0 R).length = 1 ∧ ((nthL (t.lvlZ kz z1 z2 L0 R) 0).length : Int) = t.d := by
 obtain ⟨h1, h2, -⟩ := hT
 obtain ⟨r, rfl⟩ : ∃ r, R = r + 1 := ⟨R - 1, by omega⟩
 rw [Nat.add_sub_cancel] at h2
 have hu : (t.upZ (r + 1) (t.lvlZ kz z1 z2 L0 r)).length = 1 := by unfold TreeV.upZ; rw [if_pos h2]; rfl
 show (t.rowZ _ _ _ _ _ _ _).length = 1 ∧ ((nthL (t.rowZ _ _ _ _ _ _ _) 0).length : Int) = t.d
 rw [TreeV.rowZ_length, TreeV.rowZ_nth _ _ _ _ _ _ _ (show 0 < (t.upZ (r + 1) (t.lvlZ kz z1 z2 L0 r)).length by omega), h2]
 exact ⟨hu, TreeV.node_lenE h ..⟩
end Go.Proofs.Ytahenngmaoellaa
