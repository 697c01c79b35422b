/- How long a node's output is; a call whose answer the document fixes. No condition. -/
import Derived.Test.YtchepcilkcdemaaB42
set_option linter.all false
set_option maxRecDepth 100000
set_option maxHeartbeats 8000000
namespace Go.Proofs.Ytchepcilkcdemaa
open Go.ChangeShapes Go.WideShapes Go.ChangeAt Go.RowKit Go.Joins Go.Shelf Go.Maps
attribute [local go_sem] Oper.semAt_some
theorem callR_len {big : Bool} {bs kz ds : List Int} {la : Bool} {o : Int} (h : 1 ≤ o ∧ o ≤ (mB big : Nat)) : ((callR big bs kz la o ds).length : Int) = o := by
 unfold callR
 rw [List.length_take, outZ_length]
 omega
theorem TreeV.outN_ok {t : TreeV} (h : t.validE = 0) (rt : Bool) : 1 ≤ t.outN rt ∧ t.outN rt ≤ (mB t.big : Nat) := by
 have hmb := TreeV.mB_big h
 obtain ⟨-, d1, d2, d3, d4, -⟩ := TreeV.valid_facts h
 cases rt
 ·show 1 ≤ t.i ∧ t.i ≤ _; omega
 ·show 1 ≤ t.d ∧ t.d ≤ _; omega
theorem TreeV.node_lenE {t : TreeV} (h : t.validE = 0) (kz z1 z2 : List Int) (row i : Nat) (la rt : Bool) (d : List Int) : ((t.node kz z1 z2 row i la rt d).length : Int) = t.outN rt := callR_len (TreeV.outN_ok h rt)
theorem TreeV.rowZ_nth (t : TreeV) (kz z1 z2 : List Int) (row : Nat) (rt : Bool) (L : List (List Int)) {m i : Nat} (h : i < m) : nthL (t.rowZ kz z1 z2 row rt L m) i = t.node kz z1 z2 row i (decide (i + 1 = L.length)) rt (nthL L i) := by
 simp [nthL, TreeV.rowZ, List.getD_eq_getElem?_getD, h]
theorem TreeV.leaf_len {t : TreeV} (h : t.validE = 0) (kz z1 z2 zs : List Int) {k : Nat} (hk : k < (t.leafZ kz z1 z2 zs).length) : ((nthL (t.leafZ kz z1 z2 zs) k).length : Int) = t.i := by
 unfold TreeV.leafZ at hk ⊢
 rw [TreeV.rowZ_length] at hk
 rw [TreeV.rowZ_nth _ _ _ _ _ _ _ hk]
 exact TreeV.node_lenE h ..
theorem TreeV.top_len {t : TreeV} (h : t.validE = 0) (kz z1 z2 : List Int) {L0 : List (List Int)} {R : Nat} (hT : t.topAt kz z1 z2 L0 R) : (t.lvlZ kz z1 z2 L0 R).length = 1 ∧ ((nthL (t.lvlZ kz z1 z2 L0 R) 0).length : Int) = t.d := by
 obtain ⟨h1, h2, -⟩ := hT
 obtain ⟨r, rfl⟩ : ∃ r, R = r + 1 := ⟨R - 1, by omega⟩
 rw [Nat.add_sub_cancel] at h2
 have hu : (t.upZ (r + 1) (t.lvlZ kz z1 z2 L0 r)).length = 1 := by unfold TreeV.upZ; rw [if_pos h2]; rfl
 show (t.rowZ _ _ _ _ _ _ _).length = 1 ∧ ((nthL (t.rowZ _ _ _ _ _ _ _) 0).length : Int) = t.d
 rw [TreeV.rowZ_length, TreeV.rowZ_nth _ _ _ _ _ _ _ (show 0 < (t.upZ (r + 1) (t.lvlZ kz z1 z2 L0 r)).length by omega), h2]
 exact ⟨hu, TreeV.node_lenE h ..⟩
theorem TreeV.dig_len {t : TreeV} (h : t.validE = 0) (hl : 0 ≤ t.l ∧ t.l ≤ 4294967295) (kz z1 z2 zs : List Int) (hn : zs.length ≤ 4194304) : ((t.digZ kz z1 z2 zs).length : Int) = t.d := by
 have hL := TreeV.leafZ_facts h hl kz z1 z2 zs
 have hT := top_rows (err_small h hn) kz z1 z2 (leafZ_rows h hl kz z1 z2 zs) hL.2.2
 unfold TreeV.digZ
 rw [if_pos h]
 exact (TreeV.top_len h kz z1 z2 hT).2
end Go.Proofs.Ytchepcilkcdemaa
namespace Go.Proofs.Ytchepcilkcdemaa
open Go.ChangeShapes Go.WideShapes Go.ChangeAt Go.RowKit Go.Joins Go.Shelf Go.Maps
theorem pieces_flat {α : Type} (n : Nat) (L : List α) : ∀ m, (pieces n L m).flatten = L.take (m * n)
 | 0 => by simp [pieces]
 | m + 1 => by
  rw [pieces_succ, List.flatten_append, pieces_flat n L m, List.flatten_singleton, Nat.add_mul, Nat.one_mul, List.take_add]
  rfl
theorem cut_flat {n : Nat} (hn : 1 ≤ n) (zs : List Int) : (cutZ n zs).flatten = zs := by
 unfold cutZ
 split
 ·rename_i h; rw [h]; rfl
 ·rw [pieces_flat]
  have h := lt_cdiv (n := zs.length) (d := n) (j := cdiv zs.length n) hn
  exact List.take_of_length_le (by omega)
theorem flats_flat (f : Nat) (L : List (List Int)) : ∀ m, (flats f L m).flatten = (L.take (m * f)).flatten
 | 0 => by simp [flats]
 | m + 1 => by
  rw [flats_succ, List.flatten_append, flats_flat f L m, List.flatten_singleton, Nat.add_mul, Nat.one_mul, List.take_add, List.flatten_append]
  rfl
theorem TreeV.up_flat {t : TreeV} (h : t.validE = 0) (row : Nat) (L : List (List Int)) : (t.upZ row L).flatten = L.flatten := by
 unfold TreeV.upZ
 split
 ·simp
 ·rename_i hr
  have hf := TreeV.fn_pos h (row := row) (n := L.length) (by simpa using hr)
  rw [flats_flat]
  have h2 := lt_cdiv (n := L.length) (d := t.fn) (j := cdiv L.length t.fn) (by omega)
  rw [List.take_of_length_le (by omega)]
end Go.Proofs.Ytchepcilkcdemaa
