/- The walk of shape.Spot, where the tree may be. No condition. -/
import Derived.Test.YtahenngmaoellaaN32
import Derived.Sort.QuietIn
import Derived.BigRegionIn
import Derived.Test.YtahenngmaoellaaN33
set_option linter.all false
set_option maxRecDepth 100000
set_option maxHeartbeats 8000000
namespace Go.Proofs.Ytahenngmaoellaa
open Go.ChangeShapes Go.WideShapes Go.ChangeAt Go.RowKit Go.Joins Go.Shelf Go.Maps
open Go.Lib (hid)
attribute [local go_sem] Oper.semAt_some
theorem one_way {G X : Prop} (h : G → X) (g : G) : X := h g
theorem spot_ok (t : TreeV) (hl : 0 ≤ t.l ∧ t.l ≤ 4294967295) (total : Nat) (ht : (total : Int) ≤ 18446744073709551615) (h : t.err total = 0) (row : Int) (at_ : Nat) (w : World) :
    Calls Try.prog 11 #[t.val, .int .u64 total, .int .i64 row, .int .u64 at_] w fun e w' => e = .returned (.tuple #[(if t.there total row at_ then (t.spot total row.toNat at_).val else SpotV.zero.val), .int .i64 (if t.there total row at_ then 0 else 6)]) ∧ Below w.heap.size w w' := by
  have hv := TreeV.err_valid h
  obtain ⟨L, hL⟩ : ∃ L, t.rowsOf total = L := ⟨_, rfl⟩
  obtain ⟨hl1, hl2, hln, -⟩ := TreeV.ok_facts hl h
  have hvf := TreeV.valid_facts hv
  have hfn : t.f = (t.fn : Int) := by unfold TreeV.fn; omega
  have hfb : (t.fn : Int) ≤ 18446744073709551615 := by omega
  have hRI : RowsIs t.fn t.pn (lvs total t.ln) L := by rw [← hL]; exact TreeV.rows_is h
  have hLe := rows_le hl1 ht hRI
  have HF := hid hfn
  have HLn := hid hln
  clear hfn hln hvf
  have H := hid h
  clear h
  refine (callsIn_wide (n := 9)).1 ?_
  refine callsIn_of_wp_marks Try.func11 rfl trivial ?_ rfl
  unfold TreeV.val
  simp only [Try.ntmps11, List.size_toArray, List.length_cons, List.length_nil, Nat.reduceAdd, Nat.reduceSub, Array.replicate_succ, Array.replicate_zero, List.push_toArray, List.append_toArray, List.nil_append, List.cons_append]
  gi_wp2_with fail
  refine wpIn_scope_wide ?_
  gi_wp2_with fail
  refine ⟨trivial, ?_⟩
  refine (callsIn_wide.2 (svalid_any t hl total ht _)).mono ?_; rintro e w1 ⟨rfl, hb1⟩
  rw [H.out]
  obtain ⟨hc, hf⟩ := bcell hb1
  have hs1 := hb1.size
  simp at hs1
  have k0 : w.heap.size < w1.heap.size := by omega
  have k1 : w.heap.size + 1 < w1.heap.size := by omega
  have k2 : w.heap.size + 1 + 1 < w1.heap.size := by omega
  have k3 : w.heap.size + 1 + 1 + 1 < w1.heap.size := by omega
  have k4 : w.heap.size + 1 + 1 + 1 + 1 < w1.heap.size := by omega
  have k5 : w.heap.size + 1 + 1 + 1 + 1 + 1 < w1.heap.size := by omega
  have hBw : Below w.heap.size w w1 := by
    refine Below.trans ?_ (hb1.mono (by simp; omega))
    repeat (first | exact Below.refl _ _ | (refine Below.alloc ?_ (by simp; omega) _) | (refine Below.alloc ?_ (by simp) _))
  gi_wp2_with fail
  refine wpIn_label ?_
  gi_wp2_with fail
  refine ⟨trivial, ?_⟩
  refine (callsIn_wide.2 (each_any t total _)).mono ?_; rintro e w2 ⟨rfl, rfl⟩
  gi_wp2_with fail
  have r0f : w1.cell? ⟨w.heap.size, 2, none⟩ = some (.int .i64 t.f) := (hc _ _ (by simp; omega)).trans (by simp [go_sem])
  have r0l : w1.cell? ⟨w.heap.size, 4, none⟩ = some (.int .u32 t.l) := (hc _ _ (by simp; omega)).trans (by simp [go_sem])
  have r1 : w1.cell? ⟨w.heap.size + 1, 0, none⟩ = some (.int .u64 total) := (hc _ _ (by simp)).trans (by simp [go_sem])
  have r2 : w1.cell? ⟨w.heap.size + 1 + 1, 0, none⟩ = some (.int .i64 row) := (hc _ _ (by simp)).trans (by simp [go_sem])
  have r3 : w1.cell? ⟨w.heap.size + 1 + 1 + 1, 0, none⟩ = some (.int .u64 at_) := (hc _ _ (by simp)).trans (by simp [go_sem])
  have b4 : w1.heap[w.heap.size + 1 + 1 + 1 + 1]? = some (Obj.cells #[.int .i64 0, .int .u64 0, .int .u64 0, .int .u64 0, .bool false, .bool false] 44 (0, 0)) := by
    rw [hb1.block _ (by simp)]
    rw [Below.heap_alloc _ _ _ (by simp)]
    exact World.alloc_heap_new_at _ _ (by simp)
  have b5 : w1.heap[w.heap.size + 1 + 1 + 1 + 1 + 1]? = some (Obj.cells #[.int .i64 0] 32 (0, 0)) := by
    rw [hb1.block _ (by simp)]
    exact World.alloc_heap_new_at _ _ (by simp)
  have hbx : (((w1.alloc (.cells #[.int .u64 0] 28)).alloc (.cells t.arr 26)).alloc (.cells #[.int .u64 total] 28)).heap[w1.heap.size]? = some (Obj.cells #[.int .u64 0] 28 (0, 0)) := by
    rw [Below.heap_alloc _ _ _ (by simp; omega), Below.heap_alloc _ _ _ (by simp)]
    exact World.alloc_heap_new _ _
  have hT2 : (((w1.alloc (.cells #[.int .u64 0] 28)).alloc (.cells t.arr 26)).alloc (.cells #[.int .u64 total] 28)).heap[w1.heap.size + 1]? = some (Obj.cells t.arr 26 (0, 0)) := by
    rw [Below.heap_alloc _ _ _ (by simp)]
    exact World.alloc_heap_new_at _ _ (by simp)
  have hN2 : (((w1.alloc (.cells #[.int .u64 0] 28)).alloc (.cells t.arr 26)).alloc (.cells #[.int .u64 total] 28)).heap[w1.heap.size + 1 + 1]? = some (Obj.cells #[.int .u64 total] 28 (0, 0)) :=
    World.alloc_heap_new_at _ _ (by simp)
  have hB0 : Below w1.heap.size w1 (((w1.alloc (.cells #[.int .u64 0] 28)).alloc (.cells t.arr 26)).alloc (.cells #[.int .u64 total] 28)) := (((Below.refl _ w1).alloc (Nat.le_refl _) _).alloc (by simp) _).alloc (by simp; omega) _
  have hst := each_stops (9 - 1) t hl total ht hv _ _ _ hT2 hN2 L hL
  refine wpIn_rangeFunc_ownG rfl (by omega) (gf := 34) (lb := #[.pointer (some ⟨w1.heap.size + 1, 0, none⟩), .pointer (some ⟨w1.heap.size + 1 + 1, 0, none⟩)]) rfl trivial (enters_of Try.func34 (by kernel_rfl) rfl)
    hst (fun h k => h.trans k) (fun W l o o' _ hl ho _ => KpT.putObj W l o o' hl ho) (Below.refl _ _) (fun _ => rfl)
    (SpotI w1 L row) (SpotX w t total L row at_)
    (SpotI.own (by simp; omega)) (fun c => SpotX.own (by simp; omega))
    ⟨fun k hk => (by cases hk), hbx, hB0⟩
    (fun x => { tmps := #[.agg #[.int .i64 t.k, .int .i64 t.d, .int .i64 t.f, .int .i64 t.p, .int .u32 t.l, .int .i64 t.i, .slice t.ka t.kl t.kc, .slice t.sa t.sl t.sc, .slice t.pa t.pl t.pc], .int .u64 total, .int .i64 row, .int .u64 at_, .pointer (some ⟨w.heap.size, 0, none⟩), .pointer (some ⟨w.heap.size + 1, 0, none⟩), .pointer (some ⟨w.heap.size + 1 + 1, 0, none⟩), .pointer (some ⟨w.heap.size + 1 + 1 + 1, 0, none⟩), .pointer (some ⟨w.heap.size + 1 + 1 + 1 + 1, 0, none⟩), .pointer (some ⟨w.heap.size + 1 + 1 + 1 + 1 + 1, 0, none⟩), .int .i64 0,
      .pointer (some ⟨w1.heap.size, 0, none⟩), .int .i64 (x.1 : Nat), .int .u64 (nth L x.1 : Nat), undef, undef, undef, .agg #[.int .i64 t.k, .int .i64 t.d, .int .i64 t.f, .int .i64 t.p, .int .u32 t.l, .int .i64 t.i, .slice t.ka t.kl t.kc, .slice t.sa t.sl t.sc, .slice t.pa t.pl t.pc], .int .u64 total, .int .i64 0, .int .i64 0, .bool false, undef, undef, .agg #[.int .i64 t.k, .int .i64 t.d, .int .i64 t.f, .int .i64 t.p, .int .u32 t.l, .int .i64 t.i, .slice t.ka t.kl t.kc, .slice t.sa t.sl t.sc, .slice t.pa t.pl t.pc], .int .u64 total,
      .func (.func 34) #[] #[.pointer (some ⟨w1.heap.size + 1, 0, none⟩), .pointer (some ⟨w1.heap.size + 1 + 1, 0, none⟩)], .int .i64 (x.1 : Nat), .int .u64 (nth L x.1 : Nat), undef, undef, undef, undef, undef, undef, undef, undef, undef, undef, undef, undef, undef, undef, undef, undef, undef, undef, undef, undef, undef, undef, undef, undef, undef, undef, undef, undef, undef, undef, undef, undef, undef, undef, undef, undef, undef, undef, undef, undef, undef, undef, undef, undef, undef, undef, undef, undef, undef, undef, undef, undef, undef, undef, undef, undef, undef, undef, undef, undef, undef], defers := [] }) ?assign ?body ?done ?stop
  case assign =>
    intro l x W K hK
    simp only [encR]
    gi_wp2
    exact hK
  case body =>
    rintro l pre x W ⟨hlt, hbw, hB⟩ -
    have hs2 := hB.size
    have gf : W.cell? ⟨w.heap.size, 2, none⟩ = some (.int .i64 t.fn) := by rw [← HF.out]; exact (hB.cell (p := ⟨w.heap.size, 2, none⟩) k0).trans r0f
    have gl : W.cell? ⟨w.heap.size, 4, none⟩ = some (.int .u32 t.ln) := by rw [← HLn.out]; exact (hB.cell (p := ⟨w.heap.size, 4, none⟩) k0).trans r0l
    have g1 := (hB.cell (p := ⟨w.heap.size + 1, 0, none⟩) k1).trans r1
    have g2 := (hB.cell (p := ⟨w.heap.size + 1 + 1, 0, none⟩) k2).trans r2
    have g3 := (hB.cell (p := ⟨w.heap.size + 1 + 1 + 1, 0, none⟩) k3).trans r3
    have d4 := (hB.block _ k4).trans b4
    have d5 := (hB.block _ k5).trans b5
    have gb := cell_of_heap hbw 0
    have fb := unfrozen_of_block hbw 0
    have f0 := unfrozen_of_block d4 0
    have f1 := unfrozen_of_block d4 1
    have f2 := unfrozen_of_block d4 2
    have f3 := unfrozen_of_block d4 3
    have f4 := unfrozen_of_block d4 4
    have f5 := unfrozen_of_block d4 5
    have f6 := unfrozen_of_block d5 0
    have c0 := cell_of_heap d4 0
    have c1 := cell_of_heap d4 1
    have c2 := cell_of_heap d4 2
    have c3 := cell_of_heap d4 3
    have c4 := cell_of_heap d4 4
    have c5 := cell_of_heap d4 5
    have c6 := cell_of_heap d5 0
    simp only [List.getElem?_toArray, List.getElem?_cons_zero, List.getElem?_cons_succ] at c0 c1 c2 c3 c4 c5 c6 gb
    have m0 : w.heap.size < W.heap.size := by omega
    have m1 : w.heap.size + 1 < W.heap.size := by omega
    have m2 : w.heap.size + 1 + 1 < W.heap.size := by omega
    have m3 : w.heap.size + 1 + 1 + 1 < W.heap.size := by omega
    have m4 : w.heap.size + 1 + 1 + 1 + 1 < W.heap.size := by omega
    have m5 : w.heap.size + 1 + 1 + 1 + 1 + 1 < W.heap.size := by omega
    have m6 : w1.heap.size < W.heap.size := (Array.getElem?_eq_some_iff.1 hbw).1
    have HBw := hid (hBw.trans (hB.mono (by omega)))
    have HLT := hid hlt
    have HB := hid hB
    have HBW := hid hbw
    have D4 := hid d4
    have D5 := hid d5
    clear hlt hB hbw d4 d5
    have hx2 : (nth L x.1 : Int) ≤ 18446744073709551615 := hLe x.1 x.2
    by_cases hA : (x.1 : Int) < row
    · gi_wp2
      go_goals
      exact ⟨(KeepsOthers.setCell _ _ _).from _, KpT.setCell (p := ⟨w1.heap.size, 0, none⟩) HBW.out (by decide) (by decide) _, fun k hk => by
        rcases List.mem_append.1 hk with h | h
        · exact HLT.out k h
        · rw [List.mem_singleton.1 h]; exact hA, by rw [belowN_snoc]; exact block_setCell HBW.out _, HB.out.setCell (Nat.le_refl _) _⟩
    · by_cases hC : row < 0
      · gi_wp2
        go_goals
        exact ⟨KeepsFrom.refl _ _, ⟨pre, x, rfl, HLT.out, by omega, .inr ⟨rfl, .inl hC, D4.out, D5.out⟩⟩, HBw.out⟩
      · have q0 : (row < 0) = False := eq_false (by omega)
        by_cases hC2 : (nth L x.1 : Nat) ≤ at_
        · have q1 : ((nth L x.1 : Int) ≤ (at_ : Int)) = True := eq_true (by omega)
          gi_wp2
          go_goals
          exact ⟨KeepsFrom.refl _ _, ⟨pre, x, rfl, HLT.out, by omega, .inr ⟨rfl, .inr hC2, D4.out, D5.out⟩⟩, HBw.out⟩
        · have q1 : ((nth L x.1 : Int) ≤ (at_ : Int)) = False := eq_false (by omega)
          have z0 : 0 ≤ row := by omega
          have z1 : row ≤ (x.1 : Nat) := by omega
          have z2 : at_ < nth L x.1 := by omega
          by_cases hR : 1 ≤ row
          · have z3 : row.toNat ≠ 0 := by omega
            have q2 : (1 ≤ row) = True := eq_true hR
            by_cases hN : nth L x.1 = 1
            · have q3 : ((nth L x.1 : Int) == 1) = true := by rw [beq_iff_eq]; omega
              have HN := hid hN
              clear hN
              gi_wp2
              apply one_way
              · intro hk
                gi_region
                all_goals exact hk
              gi_wp2
              apply one_way
              · intro hk
                gi_region
                all_goals exact hk
              gi_wp2
              go_goals
              exact RetP.drew (RetP.drew (spot_ret HLT.out z0 z1 z2 HBw.out D4.out D5.out (by unfold spotF; rw [Int.toNat_of_nonneg z0, if_pos ⟨Nat.pos_of_ne_zero z3, HN.out⟩])))
            · have q3 : ((nth L x.1 : Int) == 1) = false := by rw [beq_eq_false_iff_ne]; omega
              by_cases hZ : (at_ : Int) = (nth L x.1 : Int) - 1
              · have q4 : ((at_ : Int) == (nth L x.1 : Int) - 1) = true := by rw [beq_iff_eq]; exact hZ
                have HZ := hid hZ
                clear hZ
                gi_wp2
                apply one_way
                · intro hk
                  gi_region
                  all_goals exact hk
                gi_wp2
                apply one_way
                · intro hk
                  gi_region
                  all_goals exact hk
                gi_wp2
                go_goals
                exact RetP.drew (RetP.drew (spot_ret HLT.out z0 z1 z2 HBw.out D4.out D5.out (by unfold spotF; rw [Int.toNat_of_nonneg z0, if_neg (fun h => hN h.2), if_pos HZ.out, if_neg z3, if_neg z3])))
              · have q4 : ((at_ : Int) == (nth L x.1 : Int) - 1) = false := by rw [beq_eq_false_iff_ne]; exact hZ
                have HZ := hid hZ
                clear hZ
                gi_wp2
                apply one_way
                · intro hk
                  gi_region
                  all_goals exact hk
                gi_wp2
                apply one_way
                · intro hk
                  gi_region
                  all_goals exact hk
                gi_wp2
                apply one_way
                · intro hk
                  refine region_round (F := Fence.wide) (by kernel_rfl) (by kernel_rfl) ?_
                  refine wpAnyIn_take (i := 1) (v := ?_) rfl rfl (by kernel_rfl) (by kernel_rfl) (by kernel_rfl) (fun _ _ _ h => h) ⟨Or.inl ⟨by rfl, ?_⟩, fun _ => rfl⟩ ?_
                  rotate_left
                  · (intro w; go_simp; try with_reducible rfl)
                  refine wpAnyIn_take (i := 5) (v := ?_) rfl rfl (by kernel_rfl) (by kernel_rfl) (by kernel_rfl) (fun _ _ _ h => h) ⟨Or.inl ⟨by rfl, ?_⟩, fun _ => rfl⟩ ?_
                  rotate_left
                  · (intro w; go_simp; try with_reducible rfl)
                  refine wpAnyIn_ready (rs := [0, 3]) (by kernel_rfl) (by simp) ?_
                  refine AllReadyIn.cons rfl (fun K hK => ?_) ?_
                  · go_simp
                    refine hK _ _ ?_
                    clear hK K
                    refine wpAnyIn_take (i := 2) (v := ?_) rfl rfl (by kernel_rfl) (by kernel_rfl) (by kernel_rfl) (fun _ _ _ h => h) ⟨Or.inl ⟨by rfl, ?_⟩, fun _ => rfl⟩ ?_
                    rotate_left
                    · (intro w; go_simp; try with_reducible rfl)
                    refine wpAnyIn_take (i := 7) (v := ?_) rfl rfl (by kernel_rfl) (by kernel_rfl) (by kernel_rfl) (fun _ _ _ h => h) ⟨Or.inl ⟨by rfl, ?_⟩, fun _ => rfl⟩ ?_
                    rotate_left
                    · (intro w; go_simp; try with_reducible rfl)
                    refine wpAnyIn_ready (rs := [3, 8]) (by kernel_rfl) (by simp) ?_
                    refine AllReadyIn.cons rfl (fun K hK => ?_) ?_
                    · go_simp
                      refine hK _ _ ?_
                      clear hK K
                      refine wpAnyIn_take (i := 4) (v := ?_) rfl rfl (by kernel_rfl) (by kernel_rfl) (by kernel_rfl) (fun _ _ _ h => h) ⟨Or.inl ⟨by rfl, ?_⟩, fun _ => rfl⟩ ?_
                      rotate_left
                      · (intro w; go_simp; try with_reducible rfl)
                      refine wpAnyIn_take (i := 6) (v := ?_) rfl rfl (by kernel_rfl) (by kernel_rfl) (by kernel_rfl) (fun _ _ _ h => h) ⟨Or.inl ⟨by rfl, ?_⟩, fun _ => rfl⟩ ?_
                      rotate_left
                      · (intro w; go_simp; try with_reducible rfl)
                      refine wpAnyIn_ready (rs := [8]) (by kernel_rfl) (by simp) ?_
                      refine AllReadyIn.cons rfl (fun K hK => ?_) ?_
                      · go_simp
                        refine hK _ _ ?_
                        clear hK K
                        refine wpAnyIn_take (i := 9) (v := ?_) rfl rfl (by kernel_rfl) (by kernel_rfl) (by kernel_rfl) (fun _ _ _ h => h) ⟨Or.inl ⟨by rfl, ?_⟩, fun _ => rfl⟩ ?_
                        rotate_left
                        · (intro w; go_simp; try with_reducible rfl)
                        refine wpAnyIn_ready (rs := [10]) (by kernel_rfl) (by simp) ?_
                        refine AllReadyIn.cons rfl (fun K hK => ?_) ?_
                        · go_simp
                          refine hK _ _ ?_
                          clear hK K
                          refine wpAnyIn_done (by kernel_rfl) ?_ _
                          exact hk
                        exact AllReadyIn.nil
                      exact AllReadyIn.nil
                    refine AllReadyIn.cons rfl (fun K hK => ?_) ?_
                    · go_simp
                      refine hK _ _ ?_
                      clear hK K
                      refine wpAnyIn_ready (rs := [3]) (by kernel_rfl) (by simp) ?_
                      refine AllReadyIn.cons rfl (fun K hK => ?_) ?_
                      · go_simp
                        refine hK _ _ ?_
                        clear hK K
                        refine wpAnyIn_take (i := 4) (v := ?_) rfl rfl (by kernel_rfl) (by kernel_rfl) (by kernel_rfl) (fun _ _ _ h => h) ⟨Or.inl ⟨by rfl, ?_⟩, fun _ => rfl⟩ ?_
                        rotate_left
                        · (intro w; go_simp; try with_reducible rfl)
                        refine wpAnyIn_take (i := 6) (v := ?_) rfl rfl (by kernel_rfl) (by kernel_rfl) (by kernel_rfl) (fun _ _ _ h => h) ⟨Or.inl ⟨by rfl, ?_⟩, fun _ => rfl⟩ ?_
                        rotate_left
                        · (intro w; go_simp; try with_reducible rfl)
                        refine wpAnyIn_take (i := 9) (v := ?_) rfl rfl (by kernel_rfl) (by kernel_rfl) (by kernel_rfl) (fun _ _ _ h => h) ⟨Or.inl ⟨by rfl, ?_⟩, fun _ => rfl⟩ ?_
                        rotate_left
                        · (intro w; go_simp; try with_reducible rfl)
                        refine wpAnyIn_ready (rs := [10]) (by kernel_rfl) (by simp) ?_
                        refine AllReadyIn.cons rfl (fun K hK => ?_) ?_
                        · go_simp
                          refine hK _ _ ?_
                          clear hK K
                          refine wpAnyIn_done (by kernel_rfl) ?_ _
                          exact hk
                        exact AllReadyIn.nil
                      exact AllReadyIn.nil
                    exact AllReadyIn.nil
                  refine AllReadyIn.cons rfl (fun K hK => ?_) ?_
                  · go_simp
                    refine hK _ _ ?_
                    clear hK K
                    refine wpAnyIn_take (i := 4) (v := ?_) rfl rfl (by kernel_rfl) (by kernel_rfl) (by kernel_rfl) (fun _ _ _ h => h) ⟨Or.inl ⟨by rfl, ?_⟩, fun _ => rfl⟩ ?_
                    rotate_left
                    · (intro w; go_simp; try with_reducible rfl)
                    refine wpAnyIn_take (i := 6) (v := ?_) rfl rfl (by kernel_rfl) (by kernel_rfl) (by kernel_rfl) (fun _ _ _ h => h) ⟨Or.inl ⟨by rfl, ?_⟩, fun _ => rfl⟩ ?_
                    rotate_left
                    · (intro w; go_simp; try with_reducible rfl)
                    refine wpAnyIn_ready (rs := [0]) (by kernel_rfl) (by simp) ?_
                    refine AllReadyIn.cons rfl (fun K hK => ?_) ?_
                    · go_simp
                      refine hK _ _ ?_
                      clear hK K
                      refine wpAnyIn_take (i := 2) (v := ?_) rfl rfl (by kernel_rfl) (by kernel_rfl) (by kernel_rfl) (fun _ _ _ h => h) ⟨Or.inl ⟨by rfl, ?_⟩, fun _ => rfl⟩ ?_
                      rotate_left
                      · (intro w; go_simp; try with_reducible rfl)
                      refine wpAnyIn_take (i := 7) (v := ?_) rfl rfl (by kernel_rfl) (by kernel_rfl) (by kernel_rfl) (fun _ _ _ h => h) ⟨Or.inl ⟨by rfl, ?_⟩, fun _ => rfl⟩ ?_
                      rotate_left
                      · (intro w; go_simp; try with_reducible rfl)
                      refine wpAnyIn_ready (rs := [8]) (by kernel_rfl) (by simp) ?_
                      refine AllReadyIn.cons rfl (fun K hK => ?_) ?_
                      · go_simp
                        refine hK _ _ ?_
                        clear hK K
                        refine wpAnyIn_take (i := 9) (v := ?_) rfl rfl (by kernel_rfl) (by kernel_rfl) (by kernel_rfl) (fun _ _ _ h => h) ⟨Or.inl ⟨by rfl, ?_⟩, fun _ => rfl⟩ ?_
                        rotate_left
                        · (intro w; go_simp; try with_reducible rfl)
                        refine wpAnyIn_ready (rs := [10]) (by kernel_rfl) (by simp) ?_
                        refine AllReadyIn.cons rfl (fun K hK => ?_) ?_
                        · go_simp
                          refine hK _ _ ?_
                          clear hK K
                          refine wpAnyIn_done (by kernel_rfl) ?_ _
                          exact hk
                        exact AllReadyIn.nil
                      exact AllReadyIn.nil
                    exact AllReadyIn.nil
                  exact AllReadyIn.nil
                gi_wp2
                go_goals
                exact RetP.drew (RetP.drew (RetP.drew (spot_ret HLT.out z0 z1 z2 HBw.out D4.out D5.out (by unfold spotF; rw [Int.toNat_of_nonneg z0, if_neg (fun h => hN h.2), if_neg HZ.out, if_neg z3]))))
          · have z4 : row.toNat = 0 := by omega
            have q2 : (1 ≤ row) = False := eq_false hR
            by_cases hZ : (at_ : Int) = (nth L x.1 : Int) - 1
            · have q4 : ((at_ : Int) == (nth L x.1 : Int) - 1) = true := by rw [beq_iff_eq]; exact hZ
              have HZ := hid hZ
              clear hZ
              gi_wp2
              apply one_way
              · intro hk
                gi_region
                all_goals exact hk
              gi_wp2
              go_goals
              exact RetP.drew (spot_ret HLT.out z0 z1 z2 HBw.out D4.out D5.out (by unfold spotF; rw [Int.toNat_of_nonneg z0, if_neg (fun h => Nat.not_succ_le_zero _ (z4 ▸ h.1)), if_pos HZ.out, if_pos z4, if_pos z4]))
            · have q4 : ((at_ : Int) == (nth L x.1 : Int) - 1) = false := by rw [beq_eq_false_iff_ne]; exact hZ
              have HZ := hid hZ
              clear hZ
              gi_wp2
              apply one_way
              · intro hk
                gi_region
                all_goals exact hk
              gi_wp2
              apply one_way
              · intro hk
                refine region_round (F := Fence.wide) (by kernel_rfl) (by kernel_rfl) ?_
                refine wpAnyIn_take (i := 1) (v := ?_) rfl rfl (by kernel_rfl) (by kernel_rfl) (by kernel_rfl) (fun _ _ _ h => h) ⟨Or.inl ⟨by rfl, ?_⟩, fun _ => rfl⟩ ?_
                rotate_left
                · (intro w; go_simp; try with_reducible rfl)
                refine wpAnyIn_take (i := 5) (v := ?_) rfl rfl (by kernel_rfl) (by kernel_rfl) (by kernel_rfl) (fun _ _ _ h => h) ⟨Or.inl ⟨by rfl, ?_⟩, fun _ => rfl⟩ ?_
                rotate_left
                · (intro w; go_simp; try with_reducible rfl)
                refine wpAnyIn_ready (rs := [0, 3]) (by kernel_rfl) (by simp) ?_
                refine AllReadyIn.cons rfl (fun K hK => ?_) ?_
                · go_simp
                  refine hK _ _ ?_
                  clear hK K
                  refine wpAnyIn_take (i := 2) (v := ?_) rfl rfl (by kernel_rfl) (by kernel_rfl) (by kernel_rfl) (fun _ _ _ h => h) ⟨Or.inl ⟨by rfl, ?_⟩, fun _ => rfl⟩ ?_
                  rotate_left
                  · (intro w; go_simp; try with_reducible rfl)
                  refine wpAnyIn_take (i := 7) (v := ?_) rfl rfl (by kernel_rfl) (by kernel_rfl) (by kernel_rfl) (fun _ _ _ h => h) ⟨Or.inl ⟨by rfl, ?_⟩, fun _ => rfl⟩ ?_
                  rotate_left
                  · (intro w; go_simp; try with_reducible rfl)
                  refine wpAnyIn_ready (rs := [3, 8]) (by kernel_rfl) (by simp) ?_
                  refine AllReadyIn.cons rfl (fun K hK => ?_) ?_
                  · go_simp
                    refine hK _ _ ?_
                    clear hK K
                    refine wpAnyIn_take (i := 4) (v := ?_) rfl rfl (by kernel_rfl) (by kernel_rfl) (by kernel_rfl) (fun _ _ _ h => h) ⟨Or.inl ⟨by rfl, ?_⟩, fun _ => rfl⟩ ?_
                    rotate_left
                    · (intro w; go_simp; try with_reducible rfl)
                    refine wpAnyIn_take (i := 6) (v := ?_) rfl rfl (by kernel_rfl) (by kernel_rfl) (by kernel_rfl) (fun _ _ _ h => h) ⟨Or.inl ⟨by rfl, ?_⟩, fun _ => rfl⟩ ?_
                    rotate_left
                    · (intro w; go_simp; try with_reducible rfl)
                    refine wpAnyIn_ready (rs := [8]) (by kernel_rfl) (by simp) ?_
                    refine AllReadyIn.cons rfl (fun K hK => ?_) ?_
                    · go_simp
                      refine hK _ _ ?_
                      clear hK K
                      refine wpAnyIn_take (i := 9) (v := ?_) rfl rfl (by kernel_rfl) (by kernel_rfl) (by kernel_rfl) (fun _ _ _ h => h) ⟨Or.inl ⟨by rfl, ?_⟩, fun _ => rfl⟩ ?_
                      rotate_left
                      · (intro w; go_simp; try with_reducible rfl)
                      refine wpAnyIn_ready (rs := [10]) (by kernel_rfl) (by simp) ?_
                      refine AllReadyIn.cons rfl (fun K hK => ?_) ?_
                      · go_simp
                        refine hK _ _ ?_
                        clear hK K
                        refine wpAnyIn_done (by kernel_rfl) ?_ _
                        exact hk
                      exact AllReadyIn.nil
                    exact AllReadyIn.nil
                  refine AllReadyIn.cons rfl (fun K hK => ?_) ?_
                  · go_simp
                    refine hK _ _ ?_
                    clear hK K
                    refine wpAnyIn_ready (rs := [3]) (by kernel_rfl) (by simp) ?_
                    refine AllReadyIn.cons rfl (fun K hK => ?_) ?_
                    · go_simp
                      refine hK _ _ ?_
                      clear hK K
                      refine wpAnyIn_take (i := 4) (v := ?_) rfl rfl (by kernel_rfl) (by kernel_rfl) (by kernel_rfl) (fun _ _ _ h => h) ⟨Or.inl ⟨by rfl, ?_⟩, fun _ => rfl⟩ ?_
                      rotate_left
                      · (intro w; go_simp; try with_reducible rfl)
                      refine wpAnyIn_take (i := 6) (v := ?_) rfl rfl (by kernel_rfl) (by kernel_rfl) (by kernel_rfl) (fun _ _ _ h => h) ⟨Or.inl ⟨by rfl, ?_⟩, fun _ => rfl⟩ ?_
                      rotate_left
                      · (intro w; go_simp; try with_reducible rfl)
                      refine wpAnyIn_take (i := 9) (v := ?_) rfl rfl (by kernel_rfl) (by kernel_rfl) (by kernel_rfl) (fun _ _ _ h => h) ⟨Or.inl ⟨by rfl, ?_⟩, fun _ => rfl⟩ ?_
                      rotate_left
                      · (intro w; go_simp; try with_reducible rfl)
                      refine wpAnyIn_ready (rs := [10]) (by kernel_rfl) (by simp) ?_
                      refine AllReadyIn.cons rfl (fun K hK => ?_) ?_
                      · go_simp
                        refine hK _ _ ?_
                        clear hK K
                        refine wpAnyIn_done (by kernel_rfl) ?_ _
                        exact hk
                      exact AllReadyIn.nil
                    exact AllReadyIn.nil
                  exact AllReadyIn.nil
                refine AllReadyIn.cons rfl (fun K hK => ?_) ?_
                · go_simp
                  refine hK _ _ ?_
                  clear hK K
                  refine wpAnyIn_take (i := 4) (v := ?_) rfl rfl (by kernel_rfl) (by kernel_rfl) (by kernel_rfl) (fun _ _ _ h => h) ⟨Or.inl ⟨by rfl, ?_⟩, fun _ => rfl⟩ ?_
                  rotate_left
                  · (intro w; go_simp; try with_reducible rfl)
                  refine wpAnyIn_take (i := 6) (v := ?_) rfl rfl (by kernel_rfl) (by kernel_rfl) (by kernel_rfl) (fun _ _ _ h => h) ⟨Or.inl ⟨by rfl, ?_⟩, fun _ => rfl⟩ ?_
                  rotate_left
                  · (intro w; go_simp; try with_reducible rfl)
                  refine wpAnyIn_ready (rs := [0]) (by kernel_rfl) (by simp) ?_
                  refine AllReadyIn.cons rfl (fun K hK => ?_) ?_
                  · go_simp
                    refine hK _ _ ?_
                    clear hK K
                    refine wpAnyIn_take (i := 2) (v := ?_) rfl rfl (by kernel_rfl) (by kernel_rfl) (by kernel_rfl) (fun _ _ _ h => h) ⟨Or.inl ⟨by rfl, ?_⟩, fun _ => rfl⟩ ?_
                    rotate_left
                    · (intro w; go_simp; try with_reducible rfl)
                    refine wpAnyIn_take (i := 7) (v := ?_) rfl rfl (by kernel_rfl) (by kernel_rfl) (by kernel_rfl) (fun _ _ _ h => h) ⟨Or.inl ⟨by rfl, ?_⟩, fun _ => rfl⟩ ?_
                    rotate_left
                    · (intro w; go_simp; try with_reducible rfl)
                    refine wpAnyIn_ready (rs := [8]) (by kernel_rfl) (by simp) ?_
                    refine AllReadyIn.cons rfl (fun K hK => ?_) ?_
                    · go_simp
                      refine hK _ _ ?_
                      clear hK K
                      refine wpAnyIn_take (i := 9) (v := ?_) rfl rfl (by kernel_rfl) (by kernel_rfl) (by kernel_rfl) (fun _ _ _ h => h) ⟨Or.inl ⟨by rfl, ?_⟩, fun _ => rfl⟩ ?_
                      rotate_left
                      · (intro w; go_simp; try with_reducible rfl)
                      refine wpAnyIn_ready (rs := [10]) (by kernel_rfl) (by simp) ?_
                      refine AllReadyIn.cons rfl (fun K hK => ?_) ?_
                      · go_simp
                        refine hK _ _ ?_
                        clear hK K
                        refine wpAnyIn_done (by kernel_rfl) ?_ _
                        exact hk
                      exact AllReadyIn.nil
                    exact AllReadyIn.nil
                  exact AllReadyIn.nil
                exact AllReadyIn.nil
              gi_wp2
              go_goals
              exact RetP.drew (RetP.drew (spot_ret HLT.out z0 z1 z2 HBw.out D4.out D5.out (by unfold spotF; rw [Int.toNat_of_nonneg z0, if_neg (fun h => Nat.not_succ_le_zero _ (z4 ▸ h.1)), if_neg HZ.out, if_pos z4])))
  case done =>
    rintro D ys W hD hys ⟨hlt, hbw, hB⟩ hK
    have hnot : ¬ t.there total row at_ := by subst hL; exact spot_past hys hlt
    have hs1W := hB.size
    have hBw := hBw.trans (hB.mono (by omega))
    have d4 := (hB.block _ k4).trans b4
    have d5 := (hB.block _ k5).trans b5
    have hlD : w1.heap.size ≤ D := by simp at hD; omega
    have f0 := unfrozen_of_block d4 0
    have f1 := unfrozen_of_block d4 1
    have f2 := unfrozen_of_block d4 2
    have f3 := unfrozen_of_block d4 3
    have f4 := unfrozen_of_block d4 4
    have f5 := unfrozen_of_block d4 5
    have f6 := unfrozen_of_block d5 0
    have c0 := cell_of_heap d4 0
    have c1 := cell_of_heap d4 1
    have c2 := cell_of_heap d4 2
    have c3 := cell_of_heap d4 3
    have c4 := cell_of_heap d4 4
    have c5 := cell_of_heap d4 5
    have c6 := cell_of_heap d5 0
    simp only [List.getElem?_toArray, List.getElem?_cons_zero, List.getElem?_cons_succ] at c0 c1 c2 c3 c4 c5 c6
    have m4 : w.heap.size + 1 + 1 + 1 + 1 < W.heap.size := by omega
    have m5 : w.heap.size + 1 + 1 + 1 + 1 + 1 < W.heap.size := by omega
    have HB := hid hB
    have HK := hid hK
    have D4 := hid d4
    have D5 := hid d5
    have HY := hid hys
    have HT := hid hlt
    clear hB hbw d4 d5 hK hys hlt
    gi_wp2
    have e4 := (Below.heap_setCell ((((((W.setCell ⟨w.heap.size + 1 + 1 + 1 + 1, 0, none⟩ (.int .i64 0)).setCell ⟨w.heap.size + 1 + 1 + 1 + 1, 1, none⟩ (.int .u64 0)).setCell ⟨w.heap.size + 1 + 1 + 1 + 1, 2, none⟩ (.int .u64 0)).setCell ⟨w.heap.size + 1 + 1 + 1 + 1, 3, none⟩ (.int .u64 0)).setCell ⟨w.heap.size + 1 + 1 + 1 + 1, 4, none⟩ (.bool false)).setCell ⟨w.heap.size + 1 + 1 + 1 + 1, 5, none⟩ (.bool false)) ⟨w.heap.size + 1 + 1 + 1 + 1 + 1, 0, none⟩ (.int .i64 6) (w.heap.size + 1 + 1 + 1 + 1) (by simp)).trans (block_set6 D4.out (.int .i64 0) (.int .u64 0) (.int .u64 0) (.int .u64 0) (.bool false) (.bool false))
    have e5 := block_setCell (i := 0) ((other_set6 (c := w.heap.size + 1 + 1 + 1 + 1 + 1) (b := w.heap.size + 1 + 1 + 1 + 1) (by omega) (.int .i64 0) (.int .u64 0) (.int .u64 0) (.int .u64 0) (.bool false) (.bool false)).trans D5.out) (.int .i64 6)
    have eK := (Below.heap_setCell ((((((W.setCell ⟨w.heap.size + 1 + 1 + 1 + 1, 0, none⟩ (.int .i64 0)).setCell ⟨w.heap.size + 1 + 1 + 1 + 1, 1, none⟩ (.int .u64 0)).setCell ⟨w.heap.size + 1 + 1 + 1 + 1, 2, none⟩ (.int .u64 0)).setCell ⟨w.heap.size + 1 + 1 + 1 + 1, 3, none⟩ (.int .u64 0)).setCell ⟨w.heap.size + 1 + 1 + 1 + 1, 4, none⟩ (.bool false)).setCell ⟨w.heap.size + 1 + 1 + 1 + 1, 5, none⟩ (.bool false)) ⟨w.heap.size + 1 + 1 + 1 + 1 + 1, 0, none⟩ (.int .i64 6) D (by show D ≠ w.heap.size + 1 + 1 + 1 + 1 + 1; omega)).trans ((other_set6 (c := D) (b := w.heap.size + 1 + 1 + 1 + 1) (by omega) (.int .i64 0) (.int .u64 0) (.int .u64 0) (.int .u64 0) (.bool false) (.bool false)).trans HK.out)
    have eB := (below_set6 hBw (b := w.heap.size + 1 + 1 + 1 + 1) (by omega) (.int .i64 0) (.int .u64 0) (.int .u64 0) (.int .u64 0) (.bool false) (.bool false)).setCell (p := ⟨w.heap.size + 1 + 1 + 1 + 1 + 1, 0, none⟩) (by show w.heap.size ≤ w.heap.size + 1 + 1 + 1 + 1 + 1; omega) (.int .i64 6)
    have hfin := belowK_b (w := w1) (Nat.le_refl _) _ D _ (.deferred none) hlD eK rfl rfl
    refine ⟨by simp, .inl ⟨_, _, rfl, run_takeDeferred eK, ?_⟩⟩
    refine ⟨_, spot_results rfl rfl rfl (b := w.heap.size + 1 + 1 + 1 + 1) (c := w.heap.size + 1 + 1 + 1 + 1 + 1) ((hfin.block _ k4).trans e4) ((hfin.block _ k5).trans e5) rfl, ?_, eB.trans (hfin.mono (by omega))⟩
    rfl
  case stop =>
    rintro D c pre W hD hpre ⟨⟨ini, k, rfl, hlt, hk, hcase⟩, hB⟩ hK
    have hlD : w1.heap.size ≤ D := by simp at hD; omega
    rcases hcase with ⟨rfl, r0, r1, e4, e5⟩ | ⟨rfl, r0, d4, d5⟩
    · have hh : t.there total row at_ ∧ spotF t.fn t.ln total row.toNat at_ (nth L k.1) (belowN _ ini) = (t.spot total row.toNat at_).val.cells := by subst hL; exact spot_found ht hl1 H.out hpre.1 hlt hk r0 r1
      rw [hh.2] at e4
      have E4 := hid e4
      have E5 := hid e5
      have HK := hid hK
      have hh1 := hh.1
      clear e4 e5 hK hh hlt hpre
      gi_wp2
      have hfin := belowK_b (w := w1) (Nat.le_refl _) W D _ (.deferred none) hlD HK.out rfl rfl
      refine ⟨by simp, .inl ⟨_, _, rfl, run_takeDeferred HK.out, ?_⟩⟩
      refine ⟨_, spot_results rfl rfl rfl (b := w.heap.size + 1 + 1 + 1 + 1) (c := w.heap.size + 1 + 1 + 1 + 1 + 1) ((hfin.block _ k4).trans E4.out) ((hfin.block _ k5).trans E5.out) rfl, ?_, hB.trans (hfin.mono (by omega))⟩
      rfl
    · have hnot : ¬ t.there total row at_ := by subst hL; exact spot_notfound hpre.1 hlt hk r0
      have hs1W := (Array.getElem?_eq_some_iff.1 hK).1
      have hBw := hB
      replace d4 : W.heap[w.heap.size + 1 + 1 + 1 + 1]? = some (Obj.cells #[.int .i64 0, .int .u64 0, .int .u64 0, .int .u64 0, .bool false, .bool false] 44 (0, 0)) := d4
      clear hB hlt hpre
      have f0 := unfrozen_of_block d4 0
      have f1 := unfrozen_of_block d4 1
      have f2 := unfrozen_of_block d4 2
      have f3 := unfrozen_of_block d4 3
      have f4 := unfrozen_of_block d4 4
      have f5 := unfrozen_of_block d4 5
      have f6 := unfrozen_of_block d5 0
      have c0 := cell_of_heap d4 0
      have c1 := cell_of_heap d4 1
      have c2 := cell_of_heap d4 2
      have c3 := cell_of_heap d4 3
      have c4 := cell_of_heap d4 4
      have c5 := cell_of_heap d4 5
      have c6 := cell_of_heap d5 0
      simp only [List.getElem?_toArray, List.getElem?_cons_zero, List.getElem?_cons_succ] at c0 c1 c2 c3 c4 c5 c6
      have m4 : w.heap.size + 1 + 1 + 1 + 1 < W.heap.size := by omega
      have m5 : w.heap.size + 1 + 1 + 1 + 1 + 1 < W.heap.size := by omega
      have HK := hid hK
      have D4 := hid d4
      have D5 := hid d5
      clear d4 d5 hK
      gi_wp2
      have e4 := (Below.heap_setCell ((((((W.setCell ⟨w.heap.size + 1 + 1 + 1 + 1, 0, none⟩ (.int .i64 0)).setCell ⟨w.heap.size + 1 + 1 + 1 + 1, 1, none⟩ (.int .u64 0)).setCell ⟨w.heap.size + 1 + 1 + 1 + 1, 2, none⟩ (.int .u64 0)).setCell ⟨w.heap.size + 1 + 1 + 1 + 1, 3, none⟩ (.int .u64 0)).setCell ⟨w.heap.size + 1 + 1 + 1 + 1, 4, none⟩ (.bool false)).setCell ⟨w.heap.size + 1 + 1 + 1 + 1, 5, none⟩ (.bool false)) ⟨w.heap.size + 1 + 1 + 1 + 1 + 1, 0, none⟩ (.int .i64 6) (w.heap.size + 1 + 1 + 1 + 1) (by simp)).trans (block_set6 D4.out (.int .i64 0) (.int .u64 0) (.int .u64 0) (.int .u64 0) (.bool false) (.bool false))
      have e5 := block_setCell (i := 0) ((other_set6 (c := w.heap.size + 1 + 1 + 1 + 1 + 1) (b := w.heap.size + 1 + 1 + 1 + 1) (by omega) (.int .i64 0) (.int .u64 0) (.int .u64 0) (.int .u64 0) (.bool false) (.bool false)).trans D5.out) (.int .i64 6)
      have eK := (Below.heap_setCell ((((((W.setCell ⟨w.heap.size + 1 + 1 + 1 + 1, 0, none⟩ (.int .i64 0)).setCell ⟨w.heap.size + 1 + 1 + 1 + 1, 1, none⟩ (.int .u64 0)).setCell ⟨w.heap.size + 1 + 1 + 1 + 1, 2, none⟩ (.int .u64 0)).setCell ⟨w.heap.size + 1 + 1 + 1 + 1, 3, none⟩ (.int .u64 0)).setCell ⟨w.heap.size + 1 + 1 + 1 + 1, 4, none⟩ (.bool false)).setCell ⟨w.heap.size + 1 + 1 + 1 + 1, 5, none⟩ (.bool false)) ⟨w.heap.size + 1 + 1 + 1 + 1 + 1, 0, none⟩ (.int .i64 6) D (by show D ≠ w.heap.size + 1 + 1 + 1 + 1 + 1; omega)).trans ((other_set6 (c := D) (b := w.heap.size + 1 + 1 + 1 + 1) (by omega) (.int .i64 0) (.int .u64 0) (.int .u64 0) (.int .u64 0) (.bool false) (.bool false)).trans HK.out)
      have eB := (below_set6 hBw (b := w.heap.size + 1 + 1 + 1 + 1) (by omega) (.int .i64 0) (.int .u64 0) (.int .u64 0) (.int .u64 0) (.bool false) (.bool false)).setCell (p := ⟨w.heap.size + 1 + 1 + 1 + 1 + 1, 0, none⟩) (by show w.heap.size ≤ w.heap.size + 1 + 1 + 1 + 1 + 1; omega) (.int .i64 6)
      have hfin := belowK_b (w := w1) (Nat.le_refl _) _ D _ (.deferred none) hlD eK rfl rfl
      refine ⟨by simp, .inl ⟨_, _, rfl, run_takeDeferred eK, ?_⟩⟩
      refine ⟨_, spot_results rfl rfl rfl (b := w.heap.size + 1 + 1 + 1 + 1) (c := w.heap.size + 1 + 1 + 1 + 1 + 1) ((hfin.block _ k4).trans e4) ((hfin.block _ k5).trans e5) rfl, ?_, eB.trans (hfin.mono (by omega))⟩
      rfl
end Go.Proofs.Ytahenngmaoellaa
