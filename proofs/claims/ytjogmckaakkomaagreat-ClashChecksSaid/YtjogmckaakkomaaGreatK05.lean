/- Salts: kept where some byte is not zero; two lists of bytes compared. No condition. -/
import Derived.Test.YtjogmckaakkomaaGreatK04
import Derived.BigQuiet
import Derived.Deep.QuietTactic
namespace Go.Proofs.YtjogmckaakkomaaGreat
open Go.ChangeShapes Go.WideShapes Go.ChangeAt Go.RowKit Go.Joins Go.Shelf Go.Maps
attribute [local go_sem] Oper.semAt_some

def encB (z : Int) : Value := .int .u8 z
def nthz (zs : List Int) (k : Nat) : Int := zs.getD k 0
theorem info_u8 : (Tryz.prog.info? 5).map (fun i => (i.zero, i.size, i.bytes)) = some (some (.int .u8 0), 1, 1) := by kernel_rfl
/-- A list of bytes at a place that lies below the world's end (of a list that is not empty). -/
def BytesAt (w : World) (b off : Nat) (zs : List Int) : Prop := b < w.heap.size ∧ ∀ i, i < zs.length → w.cell? ⟨b, off + i, none⟩ = some (.int .u8 (nthz zs i))
/-- A slice of bytes: what ByteSl says, without its capacity, and of any slice. -/
def Holds8 (w : World) (v : Value) (zs : List Int) : Prop := ∃ a cap, v = .slice a zs.length cap ∧ (zs = [] ∨ ∃ b off, a = some ⟨b, off, none⟩ ∧ BytesAt w b off zs)
theorem holds8_below {w w' : World} {v : Value} {zs : List Int} (h : Holds8 w v zs) (hb : Below w.heap.size w w') : Holds8 w' v zs := by
 obtain ⟨a, cap, rfl, h⟩ := h
 refine ⟨a, cap, rfl, ?_⟩
 rcases h with h | ⟨b, off, rfl, h1, h2⟩
 ·exact .inl h
 ·exact .inr ⟨b, off, rfl, Nat.lt_of_lt_of_le h1 hb.size, fun i hi => (hb.cell (p := ⟨b, off + i, none⟩) h1).trans (h2 i hi)⟩
theorem mem_nthz {zs : List Int} (h : ∀ z ∈ zs, 0 ≤ z ∧ z ≤ 255) {k : Nat} (hk : k < zs.length) : nthz zs k ∈ zs ∧ 0 ≤ nthz zs k ∧ nthz zs k ≤ 255 := by
 have e : nthz zs k = zs[k] := by unfold nthz; simp [List.getD_eq_getElem?_getD, hk]
 rw [e]
 exact ⟨List.getElem_mem hk, h _ (List.getElem_mem hk)⟩
theorem take_snoc {zs : List Int} {k : Nat} (hk : k < zs.length) : zs.take (k + 1) = zs.take k ++ [nthz zs k] := by
 rw [List.take_succ_eq_append_getElem hk]; simp [nthz, List.getD_eq_getElem?_getD, hk]
end Go.Proofs.YtjogmckaakkomaaGreat
