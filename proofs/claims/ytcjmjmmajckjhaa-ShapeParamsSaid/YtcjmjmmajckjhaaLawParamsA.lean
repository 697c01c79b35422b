/- ShapeParams: for every tree, total and place the law returns true. No condition. -/
import Derived.Test.YtcjmjmmajckjhaaParamsB
import Derived.Test.YtcjmjmmajckjhaaShapeSpots
import Derived.Test.YtcjmjmmajckjhaaTail
namespace Go.Proofs.Ytcjmjmmajckjhaa
open Go.ChangeShapes Go.WideShapes Go.ChangeAt Go.RowKit Go.Joins Go.Shelf Go.Maps
attribute [local go_sem] Oper.semAt_some

def parAgg (x0 x1 x2 x3 x4 x5 x6 x7 x8 : Int) (s p : Value) : Value := .agg #[.int .i64 x0, .int .i64 x1, .int .i64 x2, .int .i64 x3, .int .u32 x4, .int .u64 x5, .int .u32 x6, .int .i64 x7, .int .i64 x8, s, p]
/-- What is known of a call of Params, by the one or the other. -/
def ParSays (f : FuncId) (t : TreeV) (total : Nat) (row : Int) (at_ : Nat) (w0 : World) (e x0 x1 x2 x3 x4 x5 x6 x7 x8 : Int) (sz pz : List Int) : Prop :=
  ∀ w, Below w0.heap.size w0 w → Calls Try.prog f #[t.val, .int .u64 total, .int .i64 row, .int .u64 at_] w fun r w' => ∃ s p, r = .returned (.tuple #[parAgg x0 x1 x2 x3 x4 x5 x6 x7 x8 s p, .int .i64 e]) ∧ SideIs w.heap.size w' sz s ∧ SideIs w.heap.size w' pz p ∧ Below w.heap.size w w'
theorem SideIs.holds {B : Nat} {W : World} {zs : List Int} {v : Value} (h : SideIs B W zs v) (hz : ∃ z ∈ zs, z ≠ 0) : ∃ g cap, v = .slice (some ⟨g, 0, none⟩) zs.length cap ∧ B ≤ g ∧ g < W.heap.size ∧ 1 ≤ zs.length ∧ (∃ cur, W.heap[g]? = some (Obj.cells cur 5 (0, 0)) ∧ ∀ j, j < zs.length → cur[j]? = some (.int .u8 (nthz zs j))) := by
  obtain ⟨z, hz1, hz2⟩ := hz
  have hn : 0 < zs.length := by cases zs with | nil => cases hz1 | cons _ _ => simp
  rcases h with ⟨-, h⟩ | ⟨-, h⟩
  · exact absurd (h z hz1) hz2
  · rcases h with ⟨hl, h | ⟨g, cap, cur, h1, h2, h3, h4, h5, h6, h7⟩⟩
    · omega
    · refine ⟨g, cap, h1, h2, (Array.getElem?_eq_some_iff.1 h3).1, hn, cur, h3, fun j hj => ?_⟩
      have e : cur.toList[j]? = some (encB zs[j]) := by
        have : (cur.toList.take (zs.length * 1))[j]? = (zs.map encB)[j]? := by rw [h7]
        rw [List.getElem?_take, if_pos (by omega), List.getElem?_map, List.getElem?_eq_getElem hj] at this
        exact this
      rw [← Array.getElem?_toList, e]
      simp [encB, nthz, List.getD_eq_getElem?_getD, hj]
theorem SideIs.nil {B : Nat} {W : World} {zs : List Int} {v : Value} (h : SideIs B W zs v) (hz : ¬ ∃ z ∈ zs, z ≠ 0) : v = .slice none 0 0 := by
  rcases h with ⟨h, -⟩ | ⟨h, -⟩
  · exact h
  · exact absurd h hz
/-- The list that a kept salt has. -/
def kz (zs : List Int) : List Int := if zs.any (· != 0) then zs else []
theorem kz_pos {zs : List Int} (h : ∃ z ∈ zs, z ≠ 0) : kz zs = zs := by unfold kz; rw [if_pos]; simpa using h
theorem kz_neg {zs : List Int} (h : ¬ ∃ z ∈ zs, z ≠ 0) : kz zs = [] := by unfold kz; rw [if_neg]; simpa using h
theorem SideIs.holds8 {B : Nat} {W : World} {zs : List Int} {v : Value} (h : SideIs B W zs v) : Holds8 W v (kz zs) := by
  by_cases hz : ∃ z ∈ zs, z ≠ 0
  · obtain ⟨g, cap, rfl, h1, h2, h3, cur, h4, h5⟩ := h.holds hz
    rw [kz_pos hz]
    refine ⟨_, cap, rfl, .inr ⟨g, 0, rfl, h2, fun i hi => ?_⟩⟩
    have := cell_of_heap h4 (0 + i)
    rw [this, Nat.zero_add]
    exact h5 i hi
  · rw [kz_neg hz, h.nil hz]
    exact ⟨none, 0, rfl, .inl rfl⟩
theorem kz_len (zs : List Int) (n : Nat) (h : zs.length ≤ n) : (kz zs).length ≤ n := by unfold kz; split <;> simp_all
set_option maxRecDepth 100000 in
set_option maxHeartbeats 1600000 in
theorem lawParams_zero (t : TreeV) (total : Nat) (row : Int) (at_ : Nat) (w : World) (e x0 x1 x2 x3 x4 x5 x6 x7 x8 : Int) (sz pz : List Int) (hl1 : sz.length ≤ 65535) (hl2 : pz.length ≤ 65535)
    (H1 : Hid (ParSays 48 t total row at_ w e x0 x1 x2 x3 x4 x5 x6 x7 x8 sz pz)) (H2 : Hid (ParSays 49 t total row at_ w e x0 x1 x2 x3 x4 x5 x6 x7 x8 sz pz)) (hz : Hid (¬ ∃ z ∈ sz, z ≠ 0)) :
    Calls Try.prog 14 #[t.val, .int .u64 total, .int .i64 row, .int .u64 at_] w (Trues w) := by
  unfold ParSays parAgg TreeV.val at *
  go_enter Try.func14, Try.ntmps14
  go_wp2_with fail
  refine (H1.out _ ((Below.refl _ _).alloc (Nat.le_refl _) _)).mono ?_; rintro r w1 ⟨s, p, rfl, hs, hp, hb1⟩
  obtain rfl := hs.nil hz.out
  obtain ⟨pa, pn, pc, rfl⟩ := hp.form
  have hs1 := hb1.size
  simp at hs1
  have k1 : w.heap.size < w1.heap.size := by omega
  have hB1 : Below w.heap.size w w1 := below_alloc_then _ hb1
  obtain ⟨hc1, hf1⟩ := bcell hb1
  clear hb1
  go_wp2_with fail
  refine (H2.out _ (hB1.alloc (by omega) _)).mono ?_; rintro r w2 ⟨s2, p2, rfl, hs2, hp2, hb2⟩
  obtain rfl := hs2.nil hz.out
  obtain ⟨qa, qn, qc, rfl⟩ := hp2.form
  have hsz2 := hb2.size
  simp at hsz2
  have k2 : w.heap.size < w2.heap.size := by omega
  have m2 : w1.heap.size < w2.heap.size := by omega
  have hB2 : Below w.heap.size w w2 := (hB1.alloc (by omega) _).trans (hb2.mono (by simp; omega))
  obtain ⟨hc2, hf2⟩ := bcell hb2
  have P2 : w2.heap[w1.heap.size]? = some (Obj.cells #[.int .i64 x0, .int .i64 x1, .int .i64 x2, .int .i64 x3, .int .u32 x4, .int .u64 x5, .int .u32 x6, .int .i64 x7, .int .i64 x8, .slice none 0 0, .slice pa pn pc] 99 (0, 0)) := (hb2.block _ (by simp)).trans (World.alloc_heap_new _ _)
  have PW := Lib.hid ((Below.heap_alloc w2 (Obj.cells #[.int .i64 x0, .int .i64 x1, .int .i64 x2, .int .i64 x3, .int .u32 x4, .int .u64 x5, .int .u32 x6, .int .i64 x7, .int .i64 x8, .slice none 0 0, .slice qa qn qc] 99) w1.heap.size m2).trans P2)
  have QW := Lib.hid (World.alloc_heap_new w2 (Obj.cells #[.int .i64 x0, .int .i64 x1, .int .i64 x2, .int .i64 x3, .int .u32 x4, .int .u64 x5, .int .u32 x6, .int .i64 x7, .int .i64 x8, .slice none 0 0, .slice qa qn qc] 99))
  clear P2
  go_wp2_with fail
  refine (same_eq [] _ _ _ ⟨none, 0, rfl, .inl rfl⟩ ⟨none, 0, rfl, .inl rfl⟩ (by simp)).mono ?_; rintro r w3 ⟨rfl, m3, rfl⟩
  go_wp2_with fail
  have hB12 : Below w1.heap.size w1 w2 := ((Below.refl _ _).alloc (Nat.le_refl _) _).trans (hb2.mono (by simp))
  refine (same_eq (kz pz) _ _ _ (holds8_below hp.holds8 ((hB12.alloc (by omega) _).trans (below_draws _ _ _))) (holds8_below hp2.holds8 (((Below.refl _ _).alloc (Nat.le_refl _) _).trans (below_draws _ _ _))) (kz_len pz _ hl2)).mono ?_; rintro r w3 ⟨rfl, m4, rfl⟩
  go_wp2_with fail
  go_loopw [54] (fun i wr => i = .int .i64 0 ∧ ∃ a, wr = (w2.alloc (Obj.cells #[.int .i64 x0, .int .i64 x1, .int .i64 x2, .int .i64 x3, .int .u32 x4, .int .u64 x5, .int .u32 x6, .int .i64 x7, .int .i64 x8, .slice none 0 0, .slice qa qn qc] 99)).drewN a) (fun _ _ => 0)
  case atStart => exact ⟨rfl, _, rfl⟩
  case round =>
    obtain ⟨rfl, m5, rfl⟩ := hrel
    have hBr : Below w.heap.size w ((w2.alloc (Obj.cells #[.int .i64 x0, .int .i64 x1, .int .i64 x2, .int .i64 x3, .int .u32 x4, .int .u64 x5, .int .u32 x6, .int .i64 x7, .int .i64 x8, .slice none 0 0, .slice qa qn qc] 99)).drewN m5) := (hB2.alloc (by omega) _).trans (below_draws _ _ _)
    go_wp2_with fail
    refine (H1.out _ hBr).mono ?_; rintro r w5 ⟨s5, p5, rfl, hs5, hp5, hb5⟩
    obtain rfl := hs5.nil hz.out
    obtain ⟨ra, rn, rc, rfl⟩ := hp5.form
    have hsz5 := hb5.size
    simp at hsz5
    have k5 : w.heap.size < w5.heap.size := by omega
    have m5' : w1.heap.size < w5.heap.size := by omega
    have n5 : w2.heap.size < w5.heap.size := by omega
    have hB5 : Below w.heap.size w w5 := hBr.trans (hb5.mono (by simp; omega))
    obtain ⟨p0, p1, p2, p3, p4, p5, p6, p7, p8, p9, p10, -⟩ := cells11 ((hb5.block w1.heap.size (by show w1.heap.size < (w2.alloc _).heap.size; simp; omega)).trans PW.out)
    obtain ⟨q0, q1, q2, q3, q4, q5, q6, q7, q8, q9, q10, -⟩ := cells11 ((hb5.block w2.heap.size (by show w2.heap.size < (w2.alloc _).heap.size; simp)).trans QW.out)
    clear hc1 hf1 hc2 hf2 hb2 hB12
    go_wp2_with fail
    refine (same_eq [] _ _ _ ⟨none, 0, rfl, .inl rfl⟩ ⟨none, 0, rfl, .inl rfl⟩ (by simp)).mono ?_; rintro r w6 ⟨rfl, m7, rfl⟩
    go_wp2_with fail
    refine (awake_any _).mono ?_; rintro e w7 ⟨rfl, hb7⟩
    go_wp2
    go_ret
    exact ⟨rfl, ((hB5.alloc (by omega) _).trans (below_draws _ _ _)).trans (hb7.mono (by show w.heap.size ≤ (w5.alloc _).heap.size; simp; omega))⟩
end Go.Proofs.Ytcjmjmmajckjhaa
