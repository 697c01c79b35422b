/- Salts: kept where some byte is not zero; two lists of bytes compared. No condition. -/
import Derived.Test.YtcjmjmmajckjhaaShapeI
import Derived.BigQuiet
import Derived.Deep.QuietTactic
namespace Go.Proofs.Ytcjmjmmajckjhaa
open Go.ChangeShapes Go.WideShapes Go.ChangeAt Go.RowKit Go.Joins Go.Shelf Go.Maps
attribute [local go_sem] Oper.semAt_some

def encB (z : Int) : Value := .int .u8 z
def nthz (zs : List Int) (k : Nat) : Int := zs.getD k 0
theorem info_u8 : (Try.prog.info? 5).map (fun i => (i.zero, i.size, i.bytes)) = some (some (.int .u8 0), 1, 1) := by kernel_rfl
/-- A list of bytes at a place that lies below the world's end (of a list that is not empty). -/
def BytesAt (w : World) (b off : Nat) (zs : List Int) : Prop := b < w.heap.size ∧ ∀ i, i < zs.length → w.cell? ⟨b, off + i, none⟩ = some (.int .u8 (nthz zs i))
/-- A slice of bytes: what ByteSl says, without its capacity, and of any slice. -/
def Holds8 (w : World) (v : Value) (zs : List Int) : Prop := ∃ a cap, v = .slice a zs.length cap ∧ (zs = [] ∨ ∃ b off, a = some ⟨b, off, none⟩ ∧ BytesAt w b off zs)
theorem holds8_below {w w' : World} {v : Value} {zs : List Int} (h : Holds8 w v zs) (hb : Below w.heap.size w w') : Holds8 w' v zs := by
  obtain ⟨a, cap, rfl, h⟩ := h
  refine ⟨a, cap, rfl, ?_⟩
  rcases h with h | ⟨b, off, rfl, h1, h2⟩
  · exact .inl h
  · exact .inr ⟨b, off, rfl, Nat.lt_of_lt_of_le h1 hb.size, fun i hi => (hb.cell (p := ⟨b, off + i, none⟩) h1).trans (h2 i hi)⟩
theorem mem_nthz {zs : List Int} (h : ∀ z ∈ zs, 0 ≤ z ∧ z ≤ 255) {k : Nat} (hk : k < zs.length) : nthz zs k ∈ zs ∧ 0 ≤ nthz zs k ∧ nthz zs k ≤ 255 := by
  have e : nthz zs k = zs[k] := by unfold nthz; simp [List.getD_eq_getElem?_getD, hk]
  rw [e]
  exact ⟨List.getElem_mem hk, h _ (List.getElem_mem hk)⟩
theorem all_zero {zs : List Int} (h : ∀ j, j < zs.length → nthz zs j = 0) : ∀ z ∈ zs, z = 0 := by
  intro z hz
  obtain ⟨j, hj, rfl⟩ := List.mem_iff_getElem.1 hz
  have := h j hj
  unfold nthz at this
  simpa [List.getD_eq_getElem?_getD, hj] using this
theorem take_snoc {zs : List Int} {k : Nat} (hk : k < zs.length) : zs.take (k + 1) = zs.take k ++ [nthz zs k] := by
  rw [List.take_succ_eq_append_getElem hk]; simp [nthz, List.getD_eq_getElem?_getD, hk]
theorem cells_of_map {w : World} {b off : Nat} {zs : List Int} (h : ∀ i, i < zs.length → w.cell? ⟨b, off + i, none⟩ = some (.int .u8 (nthz zs i))) :
    ∀ j u, (zs.map encB)[j]? = some u → w.cell? (Addr.add ⟨b, off, none⟩ j) = some u := by
  intro j u hj
  obtain ⟨hj1, rfl⟩ := List.getElem?_eq_some_iff.1 hj
  rw [List.length_map] at hj1
  have := h j hj1
  simp only [List.getElem_map, encB]
  rw [show Addr.add ⟨b, off, none⟩ j = ⟨b, off + j, none⟩ by simp [Addr.add], this]
  simp [nthz, List.getD_eq_getElem?_getD, hj1]
/-- A salt that was kept. -/
def SideIs (base : Nat) (w : World) (zs : List Int) (v : Value) : Prop :=
  (v = .slice none 0 0 ∧ ∀ z ∈ zs, z = 0) ∨ ((∃ z ∈ zs, z ≠ 0) ∧ w.ownsRow base 5 1 v zs.length (zs.map encB))
set_option maxRecDepth 100000 in
theorem side_any (zs : List Int) (v : Value) (w : World) (h : Holds8 w v zs) (hz : ∀ z ∈ zs, 0 ≤ z ∧ z ≤ 255) (hl : zs.length ≤ 65535) :
    Calls Try.prog 72 #[v] w fun e w' => ∃ u, e = .returned u ∧ SideIs w.heap.size w' zs u ∧ Below w.heap.size w w' := by
  obtain ⟨i0, hi, hz0, hz1, hz2⟩ := info_parts info_u8
  obtain ⟨a, cap, rfl, h⟩ := h
  have hnil : zs = [] ∨ ∃ b off, a = some ⟨b, off, none⟩ ∧ 1 ≤ zs.length ∧ Hid (∀ i, i < zs.length → w.cell? ⟨b, off + i, none⟩ = some (.int .u8 (nthz zs i))) := by
    rcases h with h | ⟨b, off, e, h1, h2⟩
    · exact .inl h
    · by_cases h0 : zs = []
      · exact .inl h0
      · exact .inr ⟨b, off, e, by cases zs with | nil => exact absurd rfl h0 | cons _ _ => simp, Lib.hid h2⟩
  clear h
  rcases hnil with rfl | ⟨b, off, rfl, h1, HC⟩
  · go_enter Try.func72, Try.ntmps72
    go_wp2_with fail
    go_loopw [7] (fun i wr => i = .int .i64 0 ∧ w = wr) (fun _ _ => 0)
    case atStart => exact ⟨rfl, rfl⟩
    case round =>
      obtain ⟨rfl, rfl⟩ := hrel
      go_wp2
      go_ret
      exact ⟨_, rfl, .inl ⟨rfl, by simp⟩, Below.refl _ _⟩
  · go_enter Try.func72, Try.ntmps72
    go_wp2_with fail
    go_loopw [7] (fun i wr => ∃ k : Nat, i = .int .i64 k ∧ w = wr ∧ k ≤ zs.length ∧ Hid (∀ j, j < k → nthz zs j = 0)) (fun i _ => zs.length - (intOf i).toNat)
    case atStart => exact ⟨0, rfl, rfl, Nat.zero_le _, Lib.hid (fun j hj => absurd hj (Nat.not_lt_zero _))⟩
    case round =>
      obtain ⟨k, rfl, rfl, hk, HZ⟩ := hrel
      by_cases hlt : k < zs.length
      · have hc := HC.out k hlt
        obtain ⟨hm, hb1, hb2⟩ := mem_nthz hz hlt
        by_cases h0 : nthz zs k = 0
        · have q : (nthz zs k != 0) = false := by rw [bne_eq_false_iff_eq]; exact h0
          have H0 := Lib.hid h0
          clear h0
          go_wp2
          go_roundw
          case rel =>
            refine ⟨k + 1, by go_num, by trivial, by omega, Lib.hid (fun j hj => ?_)⟩
            by_cases e : j = k
            · rw [e]; exact H0.out
            · exact HZ.out j (by omega)
          case measure => simp [intOf]; omega
        · have q : (nthz zs k != 0) = true := by rw [bne_iff_ne]; exact h0
          have hn := cells_of_map HC.out
          go_wp2_with (at_builtin; refine wpList_append_own _ rfl _ _ 27 rfl w.heap.size 5 i0 (.int .u8 0) 1 1 Try.underlying27 hi hz0 hz1 hz2 rfl (by decide) _ _ _ rfl (World.ownsRow_nil _ _ _ _) ⟨b, off, none⟩ zs.length cap (zs.map encB) rfl (by simp) hn (by simp [encB, Value.oneCell']) (by unfold maxLen; omega) (by omega) (by simp) ?_; intro v' w2 hown' hgrow _)
          go_ret
          exact ⟨v', rfl, .inr ⟨⟨_, hm, h0⟩, by simpa using hown'⟩, (Below.refl _ _).grown hgrow (Nat.le_refl _) (fun k e => by cases e)⟩
      · obtain rfl : k = zs.length := by omega
        go_wp2
        go_ret
        exact ⟨_, rfl, .inl ⟨rfl, all_zero HZ.out⟩, Below.refl _ _⟩
set_option maxRecDepth 100000 in
set_option maxHeartbeats 1000000 in
theorem kept_any (zs : List Int) (v : Value) (w : World) (h : Holds8 w v zs) (hz : ∀ z ∈ zs, 0 ≤ z ∧ z ≤ 255) (hl : zs.length ≤ 65535) :
    Calls Try.prog 73 #[v] w fun e w' => ∃ u, e = .returned u ∧ SideIs w.heap.size w' zs u ∧ Below w.heap.size w w' := by
  obtain ⟨i0, hi, hz0, hz1, hz2⟩ := info_parts info_u8
  obtain ⟨a, cap, rfl, h⟩ := h
  have hnil : zs = [] ∨ ∃ b off, a = some ⟨b, off, none⟩ ∧ 1 ≤ zs.length ∧ b < w.heap.size ∧ Hid (∀ i, i < zs.length → w.cell? ⟨b, off + i, none⟩ = some (.int .u8 (nthz zs i))) := by
    rcases h with h | ⟨b, off, e, h1, h2⟩
    · exact .inl h
    · by_cases h0 : zs = []
      · exact .inl h0
      · exact .inr ⟨b, off, e, by cases zs with | nil => exact absurd rfl h0 | cons _ _ => simp, h1, Lib.hid h2⟩
  clear h
  rcases hnil with rfl | ⟨b, off, rfl, h1, hbw, HC⟩
  · go_enter Try.func73, Try.ntmps73
    go_wp2_with fail
    go_loopw [3, 4, 5] (fun o s i wr => o = .slice none 0 0 ∧ s = .bool false ∧ i = .int .i64 0 ∧ w = wr) (fun _ _ _ _ => 0)
    case atStart => exact ⟨rfl, rfl, rfl, rfl⟩
    case round =>
      obtain ⟨rfl, rfl, rfl, rfl⟩ := hrel
      go_wp2
      go_ret
      exact ⟨_, rfl, .inl ⟨rfl, by simp⟩, Below.refl _ _⟩
  · go_enter Try.func73, Try.ntmps73
    go_wp2_with fail
    go_loopw [3, 4, 5] (fun o s i wr => ∃ (k : Nat) (v : Value) (bs : Bool), o = v ∧ s = .bool bs ∧ i = .int .i64 k ∧ k ≤ zs.length ∧ wr.ownsRow w.heap.size 5 1 v k ((zs.take k).map encB) ∧ Below w.heap.size w wr ∧ Hid (bs = true ↔ ∃ j, j < k ∧ nthz zs j ≠ 0)) (fun _ _ i _ => zs.length - (intOf i).toNat)
    case atStart => exact ⟨0, .slice none 0 0, false, rfl, rfl, rfl, Nat.zero_le _, World.ownsRow_nil _ _ _ _, Below.refl _ _, Lib.hid ⟨fun e => absurd e (by simp), fun ⟨j, hj, _⟩ => absurd hj (Nat.not_lt_zero _)⟩⟩
    case round =>
      obtain ⟨k, v, bs, rfl, rfl, rfl, hk, hown, hb, HB⟩ := hrel
      have hsr := hb.size
      by_cases hlt : k < zs.length
      · have hc : wr.cell? ⟨b, off + k, none⟩ = some (.int .u8 (nthz zs k)) := (hb.cell (p := ⟨b, off + k, none⟩) hbw).trans (HC.out k hlt)
        obtain ⟨hm, hb1, hb2⟩ := mem_nthz hz hlt
        have ekn : (zs.take k).map encB ++ [.int .u8 (nthz zs k)] = (zs.take (k + 1)).map encB := by rw [take_snoc hlt, List.map_append]; rfl
        have EKN := Lib.hid ekn
        clear ekn
        have hap : ∀ q : Bool, (nthz zs k != 0) = q → ∀ bs' : Bool, bs' = (bs || q) → (bs' = true ↔ ∃ j, j < k + 1 ∧ nthz zs j ≠ 0) := by
          intro q hq bs' e
          rw [e, Bool.or_eq_true, HB.out]
          constructor
          · rintro (⟨j, h1, h2⟩ | h)
            · exact ⟨j, by omega, h2⟩
            · exact ⟨k, by omega, by rw [h, bne_iff_ne] at hq; exact hq⟩
          · rintro ⟨j, h1, h2⟩
            by_cases e : j = k
            · right; rw [e] at h2; rw [← hq, bne_iff_ne]; exact h2
            · exact .inl ⟨j, by omega, h2⟩
        have HAP := Lib.hid hap
        clear hap
        obtain ⟨q, hq⟩ : ∃ q, (nthz zs k != 0) = q := ⟨_, rfl⟩
        cases bs <;> cases q <;>
          (go_wp2_with (at_builtin; refine wpList_append_own _ rfl _ _ 27 rfl w.heap.size 5 i0 (.int .u8 0) 1 1 Try.underlying27 hi hz0 hz1 hz2 rfl (by decide) _ _ _ rfl (hown.alloc _) ⟨wr.heap.size, 0, none⟩ 1 1 [.int .u8 (nthz zs k)] rfl rfl (cell_one_new _ _ _) (by simp [Value.oneCell']) (by unfold maxLen; omega) (by omega) (by simp; omega) ?_; intro v' w2 hown' hgrow _; have hb3 : Below w.heap.size w w2 := (hb.alloc hsr _).grown hgrow (by simp; omega) (fun k e => (hown.lt k e).1); have hc2 : w2.cell? ⟨b, off + k, none⟩ = some (.int .u8 (nthz zs k)) := (hb3.cell (p := ⟨b, off + k, none⟩) hbw).trans (HC.out k hlt))
           go_roundw
           case rel =>
             rw [EKN.out] at hown'
             exact ⟨k + 1, _, _, rfl, rfl, by go_num, by omega, hown', hb3, Lib.hid (HAP.out _ hq _ rfl)⟩
           case measure => simp [intOf]; omega)
      · obtain rfl : k = zs.length := by omega
        rw [List.take_length] at hown
        cases bs with
        | false =>
          go_wp2
          go_ret
          refine ⟨_, rfl, .inl ⟨rfl, all_zero fun j hj => ?_⟩, hb⟩
          have := HB.out
          simp at this
          exact this j hj
        | true =>
          go_wp2
          go_ret
          refine ⟨_, rfl, .inr ⟨?_, hown⟩, hb⟩
          obtain ⟨j, hj, h⟩ := HB.out.1 (by trivial)
          exact ⟨_, (mem_nthz hz hj).1, h⟩
set_option maxRecDepth 100000 in
theorem same_eq (zs : List Int) (u v : Value) (w : World) (hu : Holds8 w u zs) (hv : Holds8 w v zs) (hl : zs.length ≤ 65535) :
    Calls Try.prog 50 #[u, v] w fun e w' => e = .returned (.bool true) ∧ ∃ m, w' = w.drewN m := by
  obtain ⟨a, cap, rfl, h⟩ := hu
  obtain ⟨a', cap', rfl, h'⟩ := hv
  by_cases h0 : zs = []
  · subst h0
    clear h h'
    go_enter Try.func50, Try.ntmps50
    go_wp2_with fail
    go_loopw [5] (fun i wr => i = .int .i64 0 ∧ w = wr) (fun _ _ => 0)
    case atStart => exact ⟨rfl, rfl⟩
    case round =>
      obtain ⟨rfl, rfl⟩ := hrel
      go_wp2
      go_ret
      exact ⟨rfl, 0, rfl⟩
  · obtain ⟨b, off, rfl, hb1, hb2⟩ := h.resolve_left h0
    obtain ⟨b', off', rfl, hb1', hb2'⟩ := h'.resolve_left h0
    have H2 := Lib.hid hb2
    have H2' := Lib.hid hb2'
    clear h h' hb2 hb2'
    go_enter Try.func50, Try.ntmps50
    go_wp2_with fail
    go_loopw [5] (fun i wr => ∃ (k n : Nat), i = .int .i64 k ∧ k ≤ zs.length ∧ wr = w.drewN n) (fun i _ => zs.length - (intOf i).toNat)
    case atStart => exact ⟨0, 0, rfl, Nat.zero_le _, rfl⟩
    case round =>
      obtain ⟨k, n, rfl, hk, rfl⟩ := hrel
      by_cases hlt : k < zs.length
      · have e1 : w.cell? ⟨b, off + k, none⟩ = some (.int .u8 (nthz zs k)) := H2.out k hlt
        have e2 : w.cell? ⟨b', off' + k, none⟩ = some (.int .u8 (nthz zs k)) := H2'.out k hlt
        go_wp2
        go_quiet (fail)
        go_wp2
        exact ⟨⟨k + 1, n + nq, by go_num, by omega, rfl⟩, by simp [intOf]; omega⟩
      · obtain rfl : k = zs.length := by omega
        go_wp2
        go_ret
        exact ⟨rfl, n, rfl⟩
end Go.Proofs.Ytcjmjmmajckjhaa
