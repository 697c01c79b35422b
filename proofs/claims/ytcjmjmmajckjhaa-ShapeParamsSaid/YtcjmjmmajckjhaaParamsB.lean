/- Every node's parameters, where there is a node. No condition. -/
import Derived.Test.YtcjmjmmajckjhaaParamsA
namespace Go.Proofs.Ytcjmjmmajckjhaa
open Go.ChangeShapes Go.WideShapes Go.ChangeAt Go.RowKit Go.Joins Go.Shelf Go.Maps
attribute [local go_sem] Oper.semAt_some

theorem keep11 {W w1 : World} {c b : Nat} (hlt : c < b) (h : ∀ o, W.cell? ⟨c, o, none⟩ = w1.cell? ⟨c, o, none⟩) (v0 v1 v2 v3 v4 v5 v6 v7 v8 v9 v10 : Value) (o : Nat) : (((((((((((W.setCell ⟨b, 0, none⟩ v0).setCell ⟨b, 1, none⟩ v1).setCell ⟨b, 2, none⟩ v2).setCell ⟨b, 3, none⟩ v3).setCell ⟨b, 4, none⟩ v4).setCell ⟨b, 5, none⟩ v5).setCell ⟨b, 6, none⟩ v6).setCell ⟨b, 7, none⟩ v7).setCell ⟨b, 8, none⟩ v8).setCell ⟨b, 9, none⟩ v9).setCell ⟨b, 10, none⟩ v10).cell? ⟨c, o, none⟩ = w1.cell? ⟨c, o, none⟩ :=
  ((below_set11 (Below.refl b W) (Nat.le_refl b) v0 v1 v2 v3 v4 v5 v6 v7 v8 v9 v10).cell (p := ⟨c, o, none⟩) hlt).trans (h o)
set_option maxRecDepth 100000 in
set_option maxHeartbeats 400000 in
theorem params_ok (t : TreeV) (total : Nat) (row : Int) (at_ : Nat) {z0 : Int} {z1 z2 z3 : Int} {z4 z5 : Bool} {sz pz : List Int}
    (H1 : Hid (∀ w, Calls Try.prog 42 #[t.val, .int .u64 total, .int .i64 row, .int .u64 at_] w fun r w' => r = .returned (.tuple #[.agg #[.int .i64 z0, .int .u64 z1, .int .u64 z2, .int .u64 z3, .bool z4, .bool z5], .int .i64 0]) ∧ Below w.heap.size w w')) (w : World)
    (hsz : Hid (Holds8 w (.slice t.sa t.sl t.sc) sz)) (hpz : Hid (Holds8 w (.slice t.pa t.pl t.pc) pz)) (hz1 : Hid (∀ z ∈ sz, 0 ≤ z ∧ z ≤ 255)) (hz2 : Hid (∀ z ∈ pz, 0 ≤ z ∧ z ≤ 255)) (hl1 : Hid (sz.length ≤ 65535)) (hl2 : Hid (pz.length ≤ 65535)) :
    Calls Try.prog 48 #[t.val, .int .u64 total, .int .i64 row, .int .u64 at_] w fun r w' => ∃ s p, r = .returned (.tuple #[parVal t row at_ s p, .int .i64 0]) ∧ SideIs w.heap.size w' sz s ∧ SideIs w.heap.size w' pz p ∧ Below w.heap.size w w' := by
  unfold TreeV.val parVal at *
  go_enter Try.func48, Try.ntmps48
  go_wp2_with fail
  refine (H1.out _).mono ?_; rintro r w1 ⟨rfl, hb1⟩
  obtain ⟨hc, hf1⟩ := bcell hb1
  have hs1 := hb1.size
  simp at hs1
  have k0 : w.heap.size < w1.heap.size := by omega
  have k1 : w.heap.size + 1 < w1.heap.size := by omega
  have b1 : w1.heap[w.heap.size + 1]? = some (Obj.cells #[.int .i64 0, .int .i64 0, .int .i64 0, .int .i64 0, .int .u32 0, .int .u64 0, .int .u32 0, .int .i64 0, .int .i64 0, .slice none 0 0, .slice none 0 0] 99 (0, 0)) := by
    rw [hb1.block _ (by simp)]
    exact World.alloc_heap_new_at _ _ (by simp)
  have B1 := Lib.hid b1
  have hBW : Below w.heap.size w w1 := below_alloc_then _ (Below.trans ((Below.refl _ _).alloc (Nat.le_refl _) _) (hb1.mono (by simp)))
  clear b1
  go_wp2_with fail
  go_region_held3 (fun w' => ∀ o, w'.cell? ⟨w.heap.size, o, none⟩ = w1.cell? ⟨w.heap.size, o, none⟩) (first | with_reducible assumption | with_reducible exact keep11 (Nat.lt_succ_self _) K3 _ _ _ _ _ _ _ _ _ _ _ | (intro o; exact ((Below.refl _ w1).alloc (Nat.le_refl _) _).drew.cell (p := ⟨w.heap.size, o, none⟩) k0) | (intro o; exact (Below.refl _ w1).drew.cell (p := ⟨w.heap.size, o, none⟩) k0)) (first
    | (go_at_call_of 72 (Value.slice t.sa t.sl t.sc); refine (side_any sz _ _ ?_ hz1.out hl1.out).mono ?_; exact holds8_below hsz.out (hBW.trans (by first | exact ((Below.refl _ w1).alloc (Nat.le_refl _) _).drew.mono (by omega) | exact (Below.refl _ w1).drew.mono (by omega))); rintro e w2 ⟨u, rfl, hu, hb2⟩; obtain ⟨ua, un, uc, rfl⟩ := hu.form; have hB2 : Below w1.heap.size w1 w2 := (by first | exact (((Below.refl _ w1).alloc (Nat.le_refl _) _).drew).trans (hb2.mono (by simp)) | exact (Below.refl _ w1).drew.trans (hb2.mono (by simp))); have K2 : ∀ o, w2.cell? ⟨w.heap.size, o, none⟩ = w1.cell? ⟨w.heap.size, o, none⟩ := fun o => hB2.cell (p := ⟨w.heap.size, o, none⟩) k0; have hs2 := hB2.size; have hub : w1.heap.size ≤ w2.heap.size := hs2)
    | (go_at_call_of 72 (Value.slice t.pa t.pl t.pc); refine (side_any pz _ _ ?_ hz2.out hl2.out).mono ?_; exact holds8_below hpz.out (hBW.trans (hB2.mono (by omega))); rintro e w3 ⟨p, rfl, hp, hb3⟩; obtain ⟨pa, pn, pc, rfl⟩ := hp.form; have hB3 : Below w1.heap.size w1 w3 := hB2.trans (hb3.mono hs2); have B3 := (hB3.block _ k1).trans B1.out; obtain ⟨x0, x1, x2, x3, x4, x5, x6, x7, x8, x9, x10, xf⟩ := cells11 B3; have B3 := Lib.hid B3; have K3 : ∀ o, w3.cell? ⟨w.heap.size, o, none⟩ = w1.cell? ⟨w.heap.size, o, none⟩ := fun o => hB3.cell (p := ⟨w.heap.size, o, none⟩) k0; have hs3 := hB3.size; clear hf1))
  go_wp2
  have hu1 := hu.le (base' := w1.heap.size) (by first | (show w1.heap.size ≤ (w1.alloc _).heap.size; simp) | exact Nat.le_refl _)
  have hp1 := hp.le (base' := w1.heap.size) hub
  refine bodyPost_ret (params_results rfl rfl rfl (b := w.heap.size + 1) (T := 99) (fr := (0, 0)) (block_set11 B3.out _ _ _ _ _ _ _ _ _ _ _) rfl) rfl ⟨_, _, rfl, (hu1.same fun g g1 g2 => ?_).le (by omega), (hp1.same fun g g1 g2 => ?_).le (by omega), below_set11 (hBW.trans (hB3.mono (by omega))) (by omega) _ _ _ _ _ _ _ _ _ _ _⟩
  · exact (other_set11 (by omega) _ _ _ _ _ _ _ _ _ _ _).trans (hb3.block g g2)
  · exact other_set11 (by omega) _ _ _ _ _ _ _ _ _ _ _
set_option maxRecDepth 100000 in
set_option maxHeartbeats 400000 in
theorem refParams_ok (t : TreeV) (total : Nat) (row : Int) (at_ : Nat) {z0 : Int} {z1 z2 z3 : Int} {z4 z5 : Bool} {sz pz : List Int}
    (H1 : Hid (∀ w, Calls Try.prog 43 #[t.val, .int .u64 total, .int .i64 row, .int .u64 at_] w fun r w' => r = .returned (.tuple #[.agg #[.int .i64 z0, .int .u64 z1, .int .u64 z2, .int .u64 z3, .bool z4, .bool z5], .int .i64 0]) ∧ Below w.heap.size w w')) (w : World)
    (hsz : Hid (Holds8 w (.slice t.sa t.sl t.sc) sz)) (hpz : Hid (Holds8 w (.slice t.pa t.pl t.pc) pz)) (hz1 : Hid (∀ z ∈ sz, 0 ≤ z ∧ z ≤ 255)) (hz2 : Hid (∀ z ∈ pz, 0 ≤ z ∧ z ≤ 255)) (hl1 : Hid (sz.length ≤ 65535)) (hl2 : Hid (pz.length ≤ 65535)) :
    Calls Try.prog 49 #[t.val, .int .u64 total, .int .i64 row, .int .u64 at_] w fun r w' => ∃ s p, r = .returned (.tuple #[parVal t row at_ s p, .int .i64 0]) ∧ SideIs w.heap.size w' sz s ∧ SideIs w.heap.size w' pz p ∧ Below w.heap.size w w' := by
  unfold TreeV.val parVal at *
  go_enter Try.func49, Try.ntmps49
  go_wp2_with fail
  refine (H1.out _).mono ?_; rintro r w1 ⟨rfl, hb1⟩
  obtain ⟨hc, hf1⟩ := bcell hb1
  have hs1 := hb1.size
  simp at hs1
  have k0 : w.heap.size < w1.heap.size := by omega
  have k1 : w.heap.size + 1 < w1.heap.size := by omega
  have b1 : w1.heap[w.heap.size + 1]? = some (Obj.cells #[.int .i64 0, .int .i64 0, .int .i64 0, .int .i64 0, .int .u32 0, .int .u64 0, .int .u32 0, .int .i64 0, .int .i64 0, .slice none 0 0, .slice none 0 0] 99 (0, 0)) := by
    rw [hb1.block _ (by simp)]
    exact World.alloc_heap_new_at _ _ (by simp)
  have B1 := Lib.hid b1
  have hBW : Below w.heap.size w w1 := below_alloc_then _ (Below.trans ((Below.refl _ _).alloc (Nat.le_refl _) _) (hb1.mono (by simp)))
  clear b1
  go_wp2_with fail
  go_region_held3 (fun w' => ∀ o, w'.cell? ⟨w.heap.size, o, none⟩ = w1.cell? ⟨w.heap.size, o, none⟩) (first | with_reducible assumption | with_reducible exact keep11 (Nat.lt_succ_self _) K3 _ _ _ _ _ _ _ _ _ _ _ | (intro o; exact ((Below.refl _ w1).alloc (Nat.le_refl _) _).drew.cell (p := ⟨w.heap.size, o, none⟩) k0) | (intro o; exact (Below.refl _ w1).drew.cell (p := ⟨w.heap.size, o, none⟩) k0)) (first
    | (go_at_call_of 73 (Value.slice t.sa t.sl t.sc); refine (kept_any sz _ _ ?_ hz1.out hl1.out).mono ?_; exact holds8_below hsz.out (hBW.trans (by first | exact ((Below.refl _ w1).alloc (Nat.le_refl _) _).drew.mono (by omega) | exact (Below.refl _ w1).drew.mono (by omega))); rintro e w2 ⟨u, rfl, hu, hb2⟩; obtain ⟨ua, un, uc, rfl⟩ := hu.form; have hB2 : Below w1.heap.size w1 w2 := (by first | exact (((Below.refl _ w1).alloc (Nat.le_refl _) _).drew).trans (hb2.mono (by simp)) | exact (Below.refl _ w1).drew.trans (hb2.mono (by simp))); have K2 : ∀ o, w2.cell? ⟨w.heap.size, o, none⟩ = w1.cell? ⟨w.heap.size, o, none⟩ := fun o => hB2.cell (p := ⟨w.heap.size, o, none⟩) k0; have hs2 := hB2.size; have hub : w1.heap.size ≤ w2.heap.size := hs2)
    | (go_at_call_of 73 (Value.slice t.pa t.pl t.pc); refine (kept_any pz _ _ ?_ hz2.out hl2.out).mono ?_; exact holds8_below hpz.out (hBW.trans (hB2.mono (by omega))); rintro e w3 ⟨p, rfl, hp, hb3⟩; obtain ⟨pa, pn, pc, rfl⟩ := hp.form; have hB3 : Below w1.heap.size w1 w3 := hB2.trans (hb3.mono hs2); have B3 := (hB3.block _ k1).trans B1.out; obtain ⟨x0, x1, x2, x3, x4, x5, x6, x7, x8, x9, x10, xf⟩ := cells11 B3; have B3 := Lib.hid B3; have K3 : ∀ o, w3.cell? ⟨w.heap.size, o, none⟩ = w1.cell? ⟨w.heap.size, o, none⟩ := fun o => hB3.cell (p := ⟨w.heap.size, o, none⟩) k0; have hs3 := hB3.size; clear hf1))
  go_wp2
  have hu1 := hu.le (base' := w1.heap.size) (by first | (show w1.heap.size ≤ (w1.alloc _).heap.size; simp) | exact Nat.le_refl _)
  have hp1 := hp.le (base' := w1.heap.size) hub
  refine bodyPost_ret (params_results rfl rfl rfl (b := w.heap.size + 1) (T := 99) (fr := (0, 0)) (block_set11 B3.out _ _ _ _ _ _ _ _ _ _ _) rfl) rfl ⟨_, _, rfl, (hu1.same fun g g1 g2 => ?_).le (by omega), (hp1.same fun g g1 g2 => ?_).le (by omega), below_set11 (hBW.trans (hB3.mono (by omega))) (by omega) _ _ _ _ _ _ _ _ _ _ _⟩
  · exact (other_set11 (by omega) _ _ _ _ _ _ _ _ _ _ _).trans (hb3.block g g2)
  · exact other_set11 (by omega) _ _ _ _ _ _ _ _ _ _ _
end Go.Proofs.Ytcjmjmmajckjhaa
