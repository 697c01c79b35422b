/- Salts: kept where some byte is not zero; two lists of bytes compared. No condition. -/
import Derived.Test.YtkmgkeodmkfnpaaShapeI
import Derived.BigQuiet
import Derived.Deep.QuietTactic
namespace Go.Proofs.Ytkmgkeodmkfnpaa
open Go.ChangeShapes Go.WideShapes Go.ChangeAt Go.RowKit Go.Joins Go.Shelf Go.Maps
attribute [local go_sem] Oper.semAt_some

def encB (z : Int) : Value := .int .u8 z
def nthz (zs : List Int) (k : Nat) : Int := zs.getD k 0
theorem info_u8 : (Try.prog.info? 5).map (fun i => (i.zero, i.size, i.bytes)) = some (some (.int .u8 0), 1, 1) := by kernel_rfl
/-- A list of bytes at a place that lies below the world's end (of a list that is not empty). -/
def BytesAt (w : World) (b off : Nat) (zs : List Int) : Prop := b < w.heap.size ∧ ∀ i, i < zs.length → w.cell? ⟨b, off + i, none⟩ = some (.int .u8 (nthz zs i))
/-- A slice of bytes: what ByteSl says, without its capacity, and of any slice. -/
def Holds8 (w : World) (v : Value) (zs : List Int) : Prop := ∃ a cap, v = .slice a zs.length cap ∧ (zs = [] ∨ ∃ b off, a = some ⟨b, off, none⟩ ∧ BytesAt w b off zs)
theorem holds8_below {w w' : World} {v : Value} {zs : List Int} (h : Holds8 w v zs) (hb : Below w.heap.size w w') : Holds8 w' v zs := by
  obtain ⟨a, cap, rfl, h⟩ := h
  refine ⟨a, cap, rfl, ?_⟩
  rcases h with h | ⟨b, off, rfl, h1, h2⟩
  · exact .inl h
  · exact .inr ⟨b, off, rfl, Nat.lt_of_lt_of_le h1 hb.size, fun i hi => (hb.cell (p := ⟨b, off + i, none⟩) h1).trans (h2 i hi)⟩
theorem mem_nthz {zs : List Int} (h : ∀ z ∈ zs, 0 ≤ z ∧ z ≤ 255) {k : Nat} (hk : k < zs.length) : nthz zs k ∈ zs ∧ 0 ≤ nthz zs k ∧ nthz zs k ≤ 255 := by
  have e : nthz zs k = zs[k] := by unfold nthz; simp [List.getD_eq_getElem?_getD, hk]
  rw [e]
  exact ⟨List.getElem_mem hk, h _ (List.getElem_mem hk)⟩
theorem all_zero {zs : List Int} (h : ∀ j, j < zs.length → nthz zs j = 0) : ∀ z ∈ zs, z = 0 := by
  intro z hz
  obtain ⟨j, hj, rfl⟩ := List.mem_iff_getElem.1 hz
  have := h j hj
  unfold nthz at this
  simpa [List.getD_eq_getElem?_getD, hj] using this
theorem take_snoc {zs : List Int} {k : Nat} (hk : k < zs.length) : zs.take (k + 1) = zs.take k ++ [nthz zs k] := by
  rw [List.take_succ_eq_append_getElem hk]; simp [nthz, List.getD_eq_getElem?_getD, hk]
theorem cells_of_map {w : World} {b off : Nat} {zs : List Int} (h : ∀ i, i < zs.length → w.cell? ⟨b, off + i, none⟩ = some (.int .u8 (nthz zs i))) :
    ∀ j u, (zs.map encB)[j]? = some u → w.cell? (Addr.add ⟨b, off, none⟩ j) = some u := by
  intro j u hj
  obtain ⟨hj1, rfl⟩ := List.getElem?_eq_some_iff.1 hj
  rw [List.length_map] at hj1
  have := h j hj1
  simp only [List.getElem_map, encB]
  rw [show Addr.add ⟨b, off, none⟩ j = ⟨b, off + j, none⟩ by simp [Addr.add], this]
  simp [nthz, List.getD_eq_getElem?_getD, hj1]
/-- A salt that was kept. -/
def SideIs (base : Nat) (w : World) (zs : List Int) (v : Value) : Prop :=
  (v = .slice none 0 0 ∧ ∀ z ∈ zs, z = 0) ∨ ((∃ z ∈ zs, z ≠ 0) ∧ w.ownsRow base 5 1 v zs.length (zs.map encB))
set_option maxRecDepth 100000 in
theorem same_eq (zs : List Int) (u v : Value) (w : World) (hu : Holds8 w u zs) (hv : Holds8 w v zs) (hl : zs.length ≤ 65535) :
    Calls Try.prog 58 #[u, v] w fun e w' => e = .returned (.bool true) ∧ ∃ m, w' = w.drewN m := by
  obtain ⟨a, cap, rfl, h⟩ := hu
  obtain ⟨a', cap', rfl, h'⟩ := hv
  by_cases h0 : zs = []
  · subst h0
    clear h h'
    go_enter Try.func58, Try.ntmps58
    go_wp2_with fail
    go_loopw [5] (fun i wr => i = .int .i64 0 ∧ w = wr) (fun _ _ => 0)
    case atStart => exact ⟨rfl, rfl⟩
    case round =>
      obtain ⟨rfl, rfl⟩ := hrel
      go_wp2
      go_ret
      exact ⟨rfl, 0, rfl⟩
  · obtain ⟨b, off, rfl, hb1, hb2⟩ := h.resolve_left h0
    obtain ⟨b', off', rfl, hb1', hb2'⟩ := h'.resolve_left h0
    have H2 := Lib.hid hb2
    have H2' := Lib.hid hb2'
    clear h h' hb2 hb2'
    go_enter Try.func58, Try.ntmps58
    go_wp2_with fail
    go_loopw [5] (fun i wr => ∃ (k n : Nat), i = .int .i64 k ∧ k ≤ zs.length ∧ wr = w.drewN n) (fun i _ => zs.length - (intOf i).toNat)
    case atStart => exact ⟨0, 0, rfl, Nat.zero_le _, rfl⟩
    case round =>
      obtain ⟨k, n, rfl, hk, rfl⟩ := hrel
      by_cases hlt : k < zs.length
      · have e1 : w.cell? ⟨b, off + k, none⟩ = some (.int .u8 (nthz zs k)) := H2.out k hlt
        have e2 : w.cell? ⟨b', off' + k, none⟩ = some (.int .u8 (nthz zs k)) := H2'.out k hlt
        go_wp2
        go_quiet (fail)
        go_wp2
        exact ⟨⟨k + 1, n + nq, by go_num, by omega, rfl⟩, by simp [intOf]; omega⟩
      · obtain rfl : k = zs.length := by omega
        go_wp2
        go_ret
        exact ⟨rfl, n, rfl⟩
end Go.Proofs.Ytkmgkeodmkfnpaa
