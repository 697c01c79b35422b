/- TreeRows: for every tree and every bytes the law returns true (walk). No condition. -/
import Derived.Test.YtchepcilkcdemaaB44
set_option linter.all false
set_option maxRecDepth 100000
set_option maxHeartbeats 8000000
namespace Go.Proofs.Ytchepcilkcdemaa
open Go.ChangeShapes Go.WideShapes Go.ChangeAt Go.RowKit Go.Joins Go.Shelf Go.Maps
attribute [local go_sem] Oper.semAt_some
/-- Bytes may turn, and nothing else that lies there. -/
structure Spoils (w w' : World) : Prop where
 k : Keeps w w'
 o : ∀ (k : Nat) (c : Array Value) (T : TypeId) (fr : Nat × Nat), T ≠ 5 → w.heap[k]? = some (.cells c T fr) → w'.heap[k]? = some (.cells c T fr)
theorem Spoils.trans {w w' w'' : World} (h : Spoils w w') (k : Spoils w' w'') : Spoils w w'' := ⟨h.k.trans k.k, fun b c T fr hT hb => k.o b c T fr hT (h.o b c T fr hT hb)⟩
theorem Spoils.of_below {w w' : World} (hb : Below w.heap.size w w') : Spoils w w' := ⟨Keeps.of_below hb, fun b c T fr _ h => by rw [hb.block b (Array.getElem?_eq_some_iff.1 h).1]; exact h⟩
theorem Spl.at {w : World} {v : Value} {n : Nat} (h : Spl w v n) : ∀ g, v.ownBlock = some g → ∃ c, w.heap[g]? = some (.cells c 5 (0, 0)) := by
 intro g hg
 rcases h with ⟨rfl, -⟩ | ⟨g', cap, cur, rfl, h1, -⟩
 ·cases hg
 ·simp only [Value.ownBlock, Option.some.injEq] at hg
  subst hg
  exact ⟨_, h1⟩
theorem Spoils.of_spoil {w w' : World} {v : Value} {n : Nat} (h : Spl w v n) (hs : Spare (fun k => v.ownBlock ≠ some k) w w') (hk : Keeps w w') : Spoils w w' := ⟨hk, fun b c T fr hT hb => by
 rw [hs.block b (Array.getElem?_eq_some_iff.1 hb).1 (fun e => ?_)]
 ·exact hb
 ·obtain ⟨c2, h2⟩ := h.at b e
  rw [hb] at h2
  simp only [Option.some.injEq, Obj.cells.injEq] at h2
  exact hT h2.2.1⟩
theorem below_spoil {B : Nat} {w w' : World} {v : Value} (hs : Spare (fun k => v.ownBlock ≠ some k) w w') (hB : ∀ g, v.ownBlock = some g → B ≤ g) (h : B ≤ w.heap.size) : Below B w w' := ⟨hs.os, hs.tape, hs.output, hs.size, fun k hk => hs.block k (by omega) (fun e => by have := hB k e; omega)⟩
theorem own_spoils {w wr : World} {B T s n : Nat} {v : Value} {xs : List Value} (h : w.ownsRow B T s v n xs) (hT : T ≠ 5) (hs : Spoils w wr) : wr.ownsRow B T s v n xs := by
 refine ⟨h.1, ?_⟩
 rcases h.2 with h2 | ⟨g, cap, cur, rfl, h1, h2, h3⟩
 ·exact .inl h2
 ·exact .inr ⟨g, cap, cur, rfl, h1, hs.o g cur T _ hT h2, h3⟩
theorem RowsV.form {B : Nat} {w : World} {v : Value} {vs : List Value} {LL : List (List (List Int))} (h : RowsV B w v vs LL) : ∃ a c, v = .slice a LL.length c ∧ (LL.length : Int) ≤ 9223372036854775807 := by
 rcases h.1.2 with ⟨rfl, e⟩ | ⟨g, cap, cur, rfl, -, -, h3, h4, -⟩
 ·exact ⟨none, 0, by rw [e], by omega⟩
 ·exact ⟨_, _, rfl, by unfold maxLen at h4; omega⟩
theorem RowsV.at {B i : Nat} {w wr : World} {lv : Value} {vs : List Value} {LL : List (List (List Int))} (h : RowsV B w lv vs LL) (hs : Spoils w wr) (hi : i < LL.length) : ∃ g cap, lv = .slice (some ⟨g, 0, none⟩) LL.length cap ∧ g < wr.heap.size ∧ wr.cell? ⟨g, i, none⟩ = some (vs.getD i undef) := by
 obtain ⟨g, cap, e, -, h2, h3⟩ := row_at (own_spoils h.1 (by decide) hs) (by omega)
 refine ⟨g, cap, e, h2, h3 i _ ?_⟩
 have := h.len
 rw [List.getD_eq_getElem?_getD, List.getElem?_eq_getElem (by omega)]; rfl
theorem ListO.at {B k : Nat} {w wr : World} {v : Value} {L : List (List Int)} (h : ListO B w v L) (hs : Spoils w wr) (hk : k < L.length) : ∃ g cap x, v = .slice (some ⟨g, 0, none⟩) L.length cap ∧ g < wr.heap.size ∧ wr.cell? ⟨g, k, none⟩ = some x ∧ Spl wr x (nthL L k).length ∧ ∀ b, x.ownBlock = some b → B ≤ b := by
 obtain ⟨vs, ho, hx⟩ := h
 have hl : vs.length = L.length := by have := ho.1; simpa using this
 obtain ⟨g, cap, e, -, h2, h3⟩ := row_at (own_spoils ho (by decide) hs) (by omega)
 refine ⟨g, cap, vs.getD k undef, e, h2, h3 k _ ?_, (Spl.of_own (hx k hk)).keep hs.k, fun b hb => (fresh_block (hx k hk).2 b hb).1⟩
 rw [List.getD_eq_getElem?_getD, List.getElem?_eq_getElem (by omega)]; rfl
theorem TreeV.rows_len (t : TreeV) (hl : 0 ≤ t.l ∧ t.l ≤ 4294967295) (kz z1 z2 zs : List Int) (i k : Nat) : (nthL ((t.rowsZ kz z1 z2 zs).getD i []) k).length ≤ 64 ∧ (nthL (t.levZ kz z1 z2 zs) k).length ≤ 64 := by
 have nl : ∀ L : List (List Int), (∀ z ∈ L, z.length ≤ 64) → (nthL L k).length ≤ 64 := fun L h => by
  unfold nthL
  rw [List.getD_eq_getElem?_getD]
  cases e : L[k]? with
  | none => simp
  | some z => exact h z (List.mem_of_getElem? e)
 unfold TreeV.rowsZ TreeV.levZ
 by_cases h : t.validE = 0
 ·rw [if_pos h, if_pos h]
  have hL := TreeV.leafZ_facts h hl kz z1 z2 zs
  refine ⟨nl _ fun z hz => ?_, nl _ hL.2.2⟩
  by_cases hi : i < (t.rowsOf zs.length).length - 1 + 1
  ·have e : ((t.allC kz z1 z2 zs ((t.rowsOf zs.length).length - 1 + 1)).map (·.map t.outC)).getD i [] = t.lvlZ kz z1 z2 (t.leafZ kz z1 z2 zs) i := by
    have h1 := TreeV.allC_at t kz z1 z2 zs hi
    have h2 : i < (t.allC kz z1 z2 zs ((t.rowsOf zs.length).length - 1 + 1)).length := by rw [TreeV.allC_length]; omega
    rw [List.getD_eq_getElem?_getD, List.getElem?_eq_getElem h2, Option.getD_some] at h1
    rw [List.getD_eq_getElem?_getD, List.getElem?_map, List.getElem?_eq_getElem h2, Option.map_some, Option.getD_some, h1, TreeV.lvl_is]
    unfold TreeV.callsR TreeV.rowC TreeV.rowZ
    rw [List.map_map]
    rfl
   rw [e] at hz
   exact (TreeV.lvlZ_facts h kz z1 z2 hL.1 hL.2.2 i).2.2 z hz
  ·rw [List.getD_eq_getElem?_getD, List.getElem?_eq_none (by rw [List.length_map, TreeV.allC_length]; omega)] at hz
   cases hz
 ·rw [if_neg h, if_neg h]
  exact ⟨by simp [nthL], by simp [nthL]⟩
end Go.Proofs.Ytchepcilkcdemaa
