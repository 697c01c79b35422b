/- ShapeParams: the case where a salt is kept. No condition. -/
import Derived.Test.YtcjmjmmajckjhaaLawParamsA
namespace Go.Proofs.Ytcjmjmmajckjhaa
open Go.ChangeShapes Go.WideShapes Go.ChangeAt Go.RowKit Go.Joins Go.Shelf Go.Maps
attribute [local go_sem] Oper.semAt_some

/-- What the loop that spoils the first answer's salt keeps. -/
def ParLoop (w0 W2 : World) (g n : Nat) (wr : World) : Prop := Below w0.heap.size w0 wr ∧ W2.heap.size ≤ wr.heap.size ∧ (∀ c, c ≠ g → c < W2.heap.size → wr.heap[c]? = W2.heap[c]?) ∧ ∃ cur, wr.heap[g]? = some (Obj.cells cur 5 (0, 0)) ∧ ∀ j, j < n → ∃ x, cur[j]? = some (.int .u8 x)
theorem cell_congr {W W' : World} {b : Nat} (h : W.heap[b]? = W'.heap[b]?) (o : Nat) : W.cell? ⟨b, o, none⟩ = W'.cell? ⟨b, o, none⟩ := by simp [World.cell?, h]
set_option maxRecDepth 100000 in
set_option maxHeartbeats 1600000 in
theorem lawParams_salt (t : TreeV) (total : Nat) (row : Int) (at_ : Nat) (w : World) (e x0 x1 x2 x3 x4 x5 x6 x7 x8 : Int) (sz pz : List Int) (hl1 : sz.length ≤ 65535) (hl2 : pz.length ≤ 65535)
    (H1 : Hid (ParSays 48 t total row at_ w e x0 x1 x2 x3 x4 x5 x6 x7 x8 sz pz)) (H2 : Hid (ParSays 49 t total row at_ w e x0 x1 x2 x3 x4 x5 x6 x7 x8 sz pz)) (hz : Hid (∃ z ∈ sz, z ≠ 0)) :
    Calls Try.prog 14 #[t.val, .int .u64 total, .int .i64 row, .int .u64 at_] w (Trues w) := by
  unfold ParSays parAgg TreeV.val at *
  go_enter Try.func14, Try.ntmps14
  go_wp2_with fail
  refine (H1.out _ ((Below.refl _ _).alloc (Nat.le_refl _) _)).mono ?_; rintro r w1 ⟨s, p, rfl, hs, hp, hb1⟩
  obtain ⟨g, cap, rfl, hg1, hg2, hn1, cur, hcur, hcv⟩ := hs.holds hz.out
  simp at hg1
  have HCUR := Lib.hid hcur
  have HCV := Lib.hid hcv
  clear hcur hcv
  obtain ⟨pa, pn, pc, rfl⟩ := hp.form
  have hs1 := hb1.size
  simp at hs1
  have k1 : w.heap.size < w1.heap.size := by omega
  have hB1 : Below w.heap.size w w1 := below_alloc_then _ hb1
  obtain ⟨hc1, hf1⟩ := bcell hb1
  clear hb1
  go_wp2_with fail
  refine (H2.out _ (hB1.alloc (by omega) _)).mono ?_; rintro r w2 ⟨s2, p2, rfl, hs2, hp2, hb2⟩
  obtain ⟨g', cap', rfl, hg1', hg2', -, -⟩ := hs2.holds hz.out
  simp at hg1'
  obtain ⟨qa, qn, qc, rfl⟩ := hp2.form
  have hsz2 := hb2.size
  simp at hsz2
  have k2 : w.heap.size < w2.heap.size := by omega
  have m2 : w1.heap.size < w2.heap.size := by omega
  have hB2 : Below w.heap.size w w2 := (hB1.alloc (by omega) _).trans (hb2.mono (by simp; omega))
  obtain ⟨hc2, hf2⟩ := bcell hb2
  have P2 : w2.heap[w1.heap.size]? = some (Obj.cells #[.int .i64 x0, .int .i64 x1, .int .i64 x2, .int .i64 x3, .int .u32 x4, .int .u64 x5, .int .u32 x6, .int .i64 x7, .int .i64 x8, .slice (some ⟨g, 0, none⟩) sz.length cap, .slice pa pn pc] 99 (0, 0)) := (hb2.block _ (by simp)).trans (World.alloc_heap_new _ _)
  have PW := Lib.hid ((Below.heap_alloc w2 (Obj.cells #[.int .i64 x0, .int .i64 x1, .int .i64 x2, .int .i64 x3, .int .u32 x4, .int .u64 x5, .int .u32 x6, .int .i64 x7, .int .i64 x8, .slice (some ⟨g', 0, none⟩) sz.length cap', .slice qa qn qc] 99) w1.heap.size m2).trans P2)
  have QW := Lib.hid (World.alloc_heap_new w2 (Obj.cells #[.int .i64 x0, .int .i64 x1, .int .i64 x2, .int .i64 x3, .int .u32 x4, .int .u64 x5, .int .u32 x6, .int .i64 x7, .int .i64 x8, .slice (some ⟨g', 0, none⟩) sz.length cap', .slice qa qn qc] 99))
  clear P2
  go_wp2_with fail
  have hB12 : Below w1.heap.size w1 w2 := ((Below.refl _ _).alloc (Nat.le_refl _) _).trans (hb2.mono (by simp))
  have e0 : (kz sz).length = sz.length := by rw [kz_pos hz.out]
  refine (same_eq (kz sz) _ _ _ (holds8_below hs.holds8 (hB12.alloc (by omega) _)) (holds8_below hs2.holds8 ((Below.refl _ _).alloc (Nat.le_refl _) _)) (kz_len sz _ hl1)).mono ?_; rintro r w3 ⟨rfl, m3, rfl⟩
  clear e0
  go_wp2_with fail
  refine (same_eq (kz pz) _ _ _ (holds8_below hp.holds8 ((hB12.alloc (by omega) _).trans (below_draws _ _ _))) (holds8_below hp2.holds8 (((Below.refl _ _).alloc (Nat.le_refl _) _).trans (below_draws _ _ _))) (kz_len pz _ hl2)).mono ?_; rintro r w3 ⟨rfl, m4, rfl⟩
  go_wp2_with fail
  go_loopw [54] (fun i wr => ∃ k : Nat, i = .int .i64 k ∧ k ≤ sz.length ∧ ParLoop w (w2.alloc (Obj.cells #[.int .i64 x0, .int .i64 x1, .int .i64 x2, .int .i64 x3, .int .u32 x4, .int .u64 x5, .int .u32 x6, .int .i64 x7, .int .i64 x8, .slice (some ⟨g', 0, none⟩) sz.length cap', .slice qa qn qc] 99)) g sz.length wr) (fun i _ => sz.length - (intOf i).toNat)
  case atStart =>
    refine ⟨0, rfl, Nat.zero_le _, (hB2.alloc (by omega) _).trans (below_draws _ _ _), Nat.le_refl _, fun _ _ _ => rfl, cur, ?_, fun j hj => ⟨_, HCV.out j hj⟩⟩
    exact ((Below.heap_alloc w2 _ g (by omega)).trans (hB12.block g hg2)).trans HCUR.out
  case round =>
    obtain ⟨k, rfl, hk, hBr, hszr, hR1, cur2, hcur2, hcv2⟩ := hrel
    simp at hszr
    have krw : w.heap.size < wr.heap.size := by omega
    have HR1 := Lib.hid hR1
    clear hR1
    by_cases hlt : k < sz.length
    · obtain ⟨x, hx⟩ := hcv2 k hlt
      have e1 : wr.cell? ⟨g, k, none⟩ = some (.int .u8 x) := (cell_of_heap hcur2 k).trans hx
      have e2 : wr.frozen? ⟨g, k, none⟩ = false := by simp [World.frozen?, hcur2]
      have HC2 := Lib.hid hcur2
      have HV2 := Lib.hid hcv2
      clear hcur2 hcv2 hx
      obtain ⟨p0, p1, p2, p3, p4, p5, p6, p7, p8, p9, p10, -⟩ := cells11 ((HR1.out w1.heap.size (by omega) (by simp; omega)).trans PW.out)
      have ix0 : (0 : Int) ≤ (k : Int) := by omega
      have ix1 : (k : Int) < (sz.length : Int) := by omega
      clear hc1 hf1 hc2 hf2
      go_wp2
      refine region_tail 10 (by kernel_rfl) (by kernel_rfl) ?_
      intro W hcW hfW hbW
      simp only [List.take_succ_cons, List.take_zero, List.drop_succ_cons, List.drop_zero]
      repeat still_step
      refine wpStill_nil ?_
      go_wp2
      refine ⟨⟨k + 1, by simp, by omega, (hBr.trans (hbW.mono (by omega))).setCell (p := ⟨g, k, none⟩) (by show w.heap.size ≤ g; omega) _, by have := hbW.size; simp; omega, fun c c1 c2 => ?_, _, block_setCell ((hbW.block g (by omega)).trans HC2.out) _, fun j hj => ?_⟩, by simp [intOf]; omega⟩
      · exact (Below.heap_setCell _ _ _ _ c1).trans ((hbW.block c (by simp at c2; omega)).trans (HR1.out c c1 c2))
      · obtain ⟨y, hy⟩ := HV2.out j hj
        by_cases ej : k = j
        · subst ej
          have hsz := (Array.getElem?_eq_some_iff.1 hy).1
          exact ⟨_, by rw [Array.getElem?_setIfInBounds, if_pos rfl, if_pos hsz]⟩
        · exact ⟨y, by rw [Array.getElem?_setIfInBounds, if_neg ej]; exact hy⟩
    obtain rfl : k = sz.length := by omega
    have hct : ∀ o, wr.cell? ⟨w.heap.size, o, none⟩ = w2.cell? ⟨w.heap.size, o, none⟩ := fun o => cell_congr ((HR1.out w.heap.size (by omega) (by simp; omega)).trans (Below.heap_alloc w2 _ _ k2)) o
    have hs2' := hs2.same (W' := wr) (fun c c1 c2 => (HR1.out c (by simp at c1; omega) (by simp; omega)).trans (Below.heap_alloc w2 _ c c2))
    go_wp2_with fail
    refine (H1.out _ hBr).mono ?_; rintro r w5 ⟨s5, p5, rfl, hs5, hp5, hb5⟩
    obtain ⟨g5, cap5, rfl, hg5, hg5', -, -⟩ := hs5.holds hz.out
    obtain ⟨ra, rn, rc, rfl⟩ := hp5.form
    have hsz5 := hb5.size
    have k5 : w.heap.size < w5.heap.size := by omega
    have m5' : w1.heap.size < w5.heap.size := by omega
    have n5 : w2.heap.size < w5.heap.size := by omega
    have hB5 : Below w.heap.size w w5 := hBr.trans (hb5.mono (by omega))
    obtain ⟨p0, p1, p2, p3, p4, p5, p6, p7, p8, p9, p10, -⟩ := cells11 ((hb5.block w1.heap.size (by omega)).trans ((HR1.out w1.heap.size (by omega) (by simp; omega)).trans PW.out))
    obtain ⟨q0, q1, q2, q3, q4, q5, q6, q7, q8, q9, q10, -⟩ := cells11 ((hb5.block w2.heap.size (by omega)).trans ((HR1.out w2.heap.size (by omega) (by simp)).trans QW.out))
    clear hc1 hf1 hc2 hf2 hb2 hB12
    go_wp2_with fail
    refine (same_eq (kz sz) _ _ _ (holds8_below hs5.holds8 ((Below.refl _ _).alloc (Nat.le_refl _) _)) (holds8_below hs2'.holds8 (hb5.alloc (by have := hb5.size; omega) _)) (kz_len sz _ hl1)).mono ?_; rintro r w6 ⟨rfl, m7, rfl⟩
    go_wp2_with fail
    refine (awake_any _).mono ?_; rintro e w7 ⟨rfl, hb7⟩
    go_wp2
    go_ret
    exact ⟨rfl, ((hB5.alloc (by omega) _).trans (below_draws _ _ _)).trans (hb7.mono (by show w.heap.size ≤ (w5.alloc _).heap.size; simp; omega))⟩
end Go.Proofs.Ytcjmjmmajckjhaa
