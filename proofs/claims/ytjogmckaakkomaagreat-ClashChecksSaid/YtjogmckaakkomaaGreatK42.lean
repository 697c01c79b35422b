/- Two calls compared, by the program and by the reference. No condition. -/
import Derived.Test.YtjogmckaakkomaaGreatK27
import Derived.Test.YtjogmckaakkomaaGreatK41
namespace Go.Proofs.YtjogmckaakkomaaGreat
open Go.ChangeShapes Go.WideShapes Go.ChangeAt Go.RowKit Go.Joins Go.Shelf Go.Maps
attribute [local go_sem] Oper.semAt_some

theorem BD {B : Nat} {a w : World} {n : Nat} (h : Below B a w) : Below B a (w.drewN n) := ⟨h.os, h.tape, h.output, h.size, h.block⟩
/-- A call's parts. -/
structure CallV where
 kind : Int
 block : List Int
 key : List Int
 last : Bool
 out : Int
 data : List Int
/-- A call in memory. -/
def CallAt (w : World) (v : Value) (c : CallV) : Prop := ∃ bv kv dv, v = .agg (callC c.kind bv kv c.last c.out dv) ∧ Hold w bv c.block ∧ Hold w kv c.key ∧ Hold w dv c.data
theorem CallAt.below {w w' : World} {v : Value} {c : CallV} (h : CallAt w v c) (hb : Below w.heap.size w w') : CallAt w' v c := by
 obtain ⟨bv, kv, dv, e, h1, h2, h3⟩ := h
 exact ⟨bv, kv, dv, e, h1.below hb, h2.below hb, h3.below hb⟩
/-- Two calls are the same. -/
def sameC (a b : CallV) : Bool := (a.kind == b.kind) && ((a.last == b.last) && ((a.out == b.out) && (decide (a.block = b.block) && (decide (a.key = b.key) && decide (a.data = b.data)))))
theorem sameC_self (a : CallV) : sameC a a = true := by simp [sameC]
set_option maxRecDepth 100000 in
set_option maxHeartbeats 4000000 in
theorem unlike_ok (a b : CallV) (va vb : Value) (w : World) (ha : CallAt w va a) (hb : CallAt w vb b) :
  Calls Tryz.prog 7 #[va, vb] w fun e w' => e = .returned (.bool (!sameC a b)) ∧ Below w.heap.size w w' := by
 obtain ⟨bv1, kv1, dv1, rfl, h1, h2, h3⟩ := ha
 obtain ⟨bv2, kv2, dv2, rfl, h4, h5, h6⟩ := hb
 unfold sameC
 obtain ⟨k1, xs1, xs2, la1, o1, xs3⟩ := a
 obtain ⟨k2, ys1, ys2, la2, o2, ys3⟩ := b
 dsimp only at *
 obtain ⟨b0, hb0⟩ : ∃ b0, w.heap.size = b0 := ⟨_, rfl⟩
 obtain ⟨b1, hb1⟩ : ∃ b1, (w.alloc (.cells (callC k1 bv1 kv1 la1 o1 dv1) 25)).heap.size = b1 := ⟨_, rfl⟩
 have hsz : w.heap.size < (w.alloc (.cells (callC k1 bv1 kv1 la1 o1 dv1) 25)).heap.size := (Array.getElem?_eq_some_iff.1 (World.alloc_heap_new w (.cells (callC k1 bv1 kv1 la1 o1 dv1) 25))).1
 have hne : b0 < b1 := by rw [← hb0, ← hb1]; exact hsz
 have hbA : Below b0 w ((w.alloc (.cells (callC k1 bv1 kv1 la1 o1 dv1) 25)).alloc (.cells (callC k2 bv2 kv2 la2 o2 dv2) 25)) := by rw [← hb0]; exact ((Below.refl _ _).alloc (Nat.le_refl _) _).alloc (Nat.le_of_lt hsz) _
 have r0 : ((w.alloc (.cells (callC k1 bv1 kv1 la1 o1 dv1) 25)).alloc (.cells (callC k2 bv2 kv2 la2 o2 dv2) 25)).heap[b0]? = some (.cells (callC k1 bv1 kv1 la1 o1 dv1) 25 (0, 0)) := by
  rw [← hb0]; exact (Below.heap_alloc _ _ _ hsz).trans (World.alloc_heap_new w _)
 have r1 : ((w.alloc (.cells (callC k1 bv1 kv1 la1 o1 dv1) 25)).alloc (.cells (callC k2 bv2 kv2 la2 o2 dv2) 25)).heap[b1]? = some (.cells (callC k2 bv2 kv2 la2 o2 dv2) 25 (0, 0)) := by
  rw [← hb1]; exact World.alloc_heap_new (w.alloc _) _
 have H1 := Lib.hid (h1.below (hb0 ▸ hbA))
 have H2 := Lib.hid (h2.below (hb0 ▸ hbA))
 have H3 := Lib.hid (h3.below (hb0 ▸ hbA))
 have H4 := Lib.hid (h4.below (hb0 ▸ hbA))
 have H5 := Lib.hid (h5.below (hb0 ▸ hbA))
 have H6 := Lib.hid (h6.below (hb0 ▸ hbA))
 clear h1 h2 h3 h4 h5 h6
 obtain ⟨q1, hq1⟩ : ∃ q, (k1 == k2) = q := ⟨_, rfl⟩
 obtain ⟨q2, hq2⟩ : ∃ q, (la1 == la2) = q := ⟨_, rfl⟩
 obtain ⟨q3, hq3⟩ : ∃ q, (o1 == o2) = q := ⟨_, rfl⟩
 obtain ⟨q4, hq4⟩ : ∃ q, decide (xs1 = ys1) = q := ⟨_, rfl⟩
 obtain ⟨q5, hq5⟩ : ∃ q, decide (xs2 = ys2) = q := ⟨_, rfl⟩
 obtain ⟨q6, hq6⟩ : ∃ q, decide (xs3 = ys3) = q := ⟨_, rfl⟩
 rw [hq1, hq2, hq3, hq4, hq5, hq6]
 have hn1 : (k1 != k2) = !q1 := by rw [← hq1]; rfl
 have hn2 : (la1 != la2) = !q2 := by rw [← hq2]; rfl
 have hn3 : (o1 != o2) = !q3 := by rw [← hq3]; rfl
 have S4 := Lib.hid (show ∀ W, Below ((w.alloc (.cells (callC k1 bv1 kv1 la1 o1 dv1) 25)).alloc (.cells (callC k2 bv2 kv2 la2 o2 dv2) 25)).heap.size ((w.alloc (.cells (callC k1 bv1 kv1 la1 o1 dv1) 25)).alloc (.cells (callC k2 bv2 kv2 la2 o2 dv2) 25)) W → Calls Tryz.prog 26 #[bv1, bv2] W fun e w' => e = .returned (.bool q4) ∧ w' = W from fun W hW => hq4 ▸ same_ok _ _ _ _ W (H1.out.below hW) (H4.out.below hW))
 have S5 := Lib.hid (show ∀ W, Below ((w.alloc (.cells (callC k1 bv1 kv1 la1 o1 dv1) 25)).alloc (.cells (callC k2 bv2 kv2 la2 o2 dv2) 25)).heap.size ((w.alloc (.cells (callC k1 bv1 kv1 la1 o1 dv1) 25)).alloc (.cells (callC k2 bv2 kv2 la2 o2 dv2) 25)) W → Calls Tryz.prog 26 #[kv1, kv2] W fun e w' => e = .returned (.bool q5) ∧ w' = W from fun W hW => hq5 ▸ same_ok _ _ _ _ W (H2.out.below hW) (H5.out.below hW))
 have S6 := Lib.hid (show ∀ W, Below ((w.alloc (.cells (callC k1 bv1 kv1 la1 o1 dv1) 25)).alloc (.cells (callC k2 bv2 kv2 la2 o2 dv2) 25)).heap.size ((w.alloc (.cells (callC k1 bv1 kv1 la1 o1 dv1) 25)).alloc (.cells (callC k2 bv2 kv2 la2 o2 dv2) 25)) W → Calls Tryz.prog 26 #[dv1, dv2] W fun e w' => e = .returned (.bool q6) ∧ w' = W from fun W hW => hq6 ▸ same_ok _ _ _ _ W (H3.out.below hW) (H6.out.below hW))
 clear hq4 hq5 hq6 H1 H2 H3 H4 H5 H6
 unfold callC at *
 go_enter Tryz.func7, Tryz.ntmps7
 go_upto_region 1 with (fail)
 generalize ((w.alloc (.cells #[.int .i64 k1, bv1, kv1, .bool la1, .int .i64 o1, dv1] 25)).alloc (.cells #[.int .i64 k2, bv2, kv2, .bool la2, .int .i64 o2, dv2] 25)) = W at *
 have c00 : W.cell? ⟨b0, 0, none⟩ = some (.int .i64 k1) := cell_of_heap r0 0
 have c01 : W.cell? ⟨b0, 1, none⟩ = some (bv1) := cell_of_heap r0 1
 have c02 : W.cell? ⟨b0, 2, none⟩ = some (kv1) := cell_of_heap r0 2
 have c03 : W.cell? ⟨b0, 3, none⟩ = some (.bool la1) := cell_of_heap r0 3
 have c04 : W.cell? ⟨b0, 4, none⟩ = some (.int .i64 o1) := cell_of_heap r0 4
 have c05 : W.cell? ⟨b0, 5, none⟩ = some (dv1) := cell_of_heap r0 5
 have c10 : W.cell? ⟨b1, 0, none⟩ = some (.int .i64 k2) := cell_of_heap r1 0
 have c11 : W.cell? ⟨b1, 1, none⟩ = some (bv2) := cell_of_heap r1 1
 have c12 : W.cell? ⟨b1, 2, none⟩ = some (kv2) := cell_of_heap r1 2
 have c13 : W.cell? ⟨b1, 3, none⟩ = some (.bool la2) := cell_of_heap r1 3
 have c14 : W.cell? ⟨b1, 4, none⟩ = some (.int .i64 o2) := cell_of_heap r1 4
 have c15 : W.cell? ⟨b1, 5, none⟩ = some (dv2) := cell_of_heap r1 5
 have HA := Lib.hid hbA
 have hs0 : b0 < W.heap.size := (Array.getElem?_eq_some_iff.1 r0).1
 have hs1 : b1 < W.heap.size := (Array.getElem?_eq_some_iff.1 r1).1
 clear r0 r1 hbA hb1 hsz
 cases q1
 case false =>
  go_wp2_with fail
  go_ret
  exact ⟨rfl, by rw [hb0]; exact HA.out⟩
 cases q2
 case false =>
  go_wp2_with fail
  go_ret
  exact ⟨rfl, by rw [hb0]; exact HA.out⟩
 cases q3
 case false =>
  go_wp2_with fail
  go_ret
  exact ⟨rfl, by rw [hb0]; exact HA.out⟩
 cases q4
 case false =>
  go_wp2_with fail
  refine (S4.out _ (Below.refl _ _)).mono ?_; rintro e w9 ⟨rfl, hw⟩
  have hw9 := hw; subst hw9; clear hw
  go_wp2_with fail
  go_ret
  exact ⟨rfl, by rw [hb0]; exact HA.out⟩
 cases q5
 case false =>
  go_wp2_with fail
  refine (S4.out _ (Below.refl _ _)).mono ?_; rintro e w9 ⟨rfl, hw⟩
  have hw9 := hw; subst hw9; clear hw
  go_wp2_with fail
  refine (S5.out _ (Below.refl _ _)).mono ?_; rintro e w9 ⟨rfl, hw⟩
  have hw9 := hw; subst hw9; clear hw
  go_wp2_with fail
  go_ret
  exact ⟨rfl, by rw [hb0]; exact HA.out⟩
 cases q6
 case false =>
  go_wp2_with fail
  refine (S4.out _ (Below.refl _ _)).mono ?_; rintro e w9 ⟨rfl, hw⟩
  have hw9 := hw; subst hw9; clear hw
  go_wp2_with fail
  refine (S5.out _ (Below.refl _ _)).mono ?_; rintro e w9 ⟨rfl, hw⟩
  have hw9 := hw; subst hw9; clear hw
  go_wp2_with fail
  refine (S6.out _ (Below.refl _ _)).mono ?_; rintro e w9 ⟨rfl, hw⟩
  have hw9 := hw; subst hw9; clear hw
  go_wp2_with fail
  go_ret
  exact ⟨rfl, by rw [hb0]; exact HA.out⟩
 go_wp2_with fail
 refine (S4.out _ (Below.refl _ _)).mono ?_; rintro e w9 ⟨rfl, hw⟩
 have hw9 := hw; subst hw9; clear hw
 go_wp2_with fail
 refine (S5.out _ (Below.refl _ _)).mono ?_; rintro e w9 ⟨rfl, hw⟩
 have hw9 := hw; subst hw9; clear hw
 go_wp2_with fail
 refine (S6.out _ (Below.refl _ _)).mono ?_; rintro e w9 ⟨rfl, hw⟩
 have hw9 := hw; subst hw9; clear hw
 go_wp2_with fail
 go_ret
 exact ⟨rfl, by rw [hb0]; exact HA.out⟩
set_option maxRecDepth 100000 in
set_option maxHeartbeats 4000000 in
theorem alike_ok (a b : CallV) (va vb : Value) (w : World) (ha : CallAt w va a) (hb : CallAt w vb b) :
  Calls Tryz.prog 15 #[va, vb] w fun e w' => e = .returned (.bool (sameC a b)) ∧ Below w.heap.size w w' := by
 obtain ⟨bv1, kv1, dv1, rfl, h1, h2, h3⟩ := ha
 obtain ⟨bv2, kv2, dv2, rfl, h4, h5, h6⟩ := hb
 unfold sameC
 obtain ⟨k1, xs1, xs2, la1, o1, xs3⟩ := a
 obtain ⟨k2, ys1, ys2, la2, o2, ys3⟩ := b
 dsimp only at *
 obtain ⟨b0, hb0⟩ : ∃ b0, w.heap.size = b0 := ⟨_, rfl⟩
 obtain ⟨b1, hb1⟩ : ∃ b1, (w.alloc (.cells (callC k1 bv1 kv1 la1 o1 dv1) 25)).heap.size = b1 := ⟨_, rfl⟩
 have hsz : w.heap.size < (w.alloc (.cells (callC k1 bv1 kv1 la1 o1 dv1) 25)).heap.size := (Array.getElem?_eq_some_iff.1 (World.alloc_heap_new w (.cells (callC k1 bv1 kv1 la1 o1 dv1) 25))).1
 have hne : b0 < b1 := by rw [← hb0, ← hb1]; exact hsz
 have hbA : Below b0 w ((w.alloc (.cells (callC k1 bv1 kv1 la1 o1 dv1) 25)).alloc (.cells (callC k2 bv2 kv2 la2 o2 dv2) 25)) := by rw [← hb0]; exact ((Below.refl _ _).alloc (Nat.le_refl _) _).alloc (Nat.le_of_lt hsz) _
 have r0 : ((w.alloc (.cells (callC k1 bv1 kv1 la1 o1 dv1) 25)).alloc (.cells (callC k2 bv2 kv2 la2 o2 dv2) 25)).heap[b0]? = some (.cells (callC k1 bv1 kv1 la1 o1 dv1) 25 (0, 0)) := by
  rw [← hb0]; exact (Below.heap_alloc _ _ _ hsz).trans (World.alloc_heap_new w _)
 have r1 : ((w.alloc (.cells (callC k1 bv1 kv1 la1 o1 dv1) 25)).alloc (.cells (callC k2 bv2 kv2 la2 o2 dv2) 25)).heap[b1]? = some (.cells (callC k2 bv2 kv2 la2 o2 dv2) 25 (0, 0)) := by
  rw [← hb1]; exact World.alloc_heap_new (w.alloc _) _
 have H1 := Lib.hid (h1.below (hb0 ▸ hbA))
 have H2 := Lib.hid (h2.below (hb0 ▸ hbA))
 have H3 := Lib.hid (h3.below (hb0 ▸ hbA))
 have H4 := Lib.hid (h4.below (hb0 ▸ hbA))
 have H5 := Lib.hid (h5.below (hb0 ▸ hbA))
 have H6 := Lib.hid (h6.below (hb0 ▸ hbA))
 clear h1 h2 h3 h4 h5 h6
 obtain ⟨q1, hq1⟩ : ∃ q, (k1 == k2) = q := ⟨_, rfl⟩
 obtain ⟨q2, hq2⟩ : ∃ q, (la1 == la2) = q := ⟨_, rfl⟩
 obtain ⟨q3, hq3⟩ : ∃ q, (o1 == o2) = q := ⟨_, rfl⟩
 obtain ⟨q4, hq4⟩ : ∃ q, decide (xs1 = ys1) = q := ⟨_, rfl⟩
 obtain ⟨q5, hq5⟩ : ∃ q, decide (xs2 = ys2) = q := ⟨_, rfl⟩
 obtain ⟨q6, hq6⟩ : ∃ q, decide (xs3 = ys3) = q := ⟨_, rfl⟩
 rw [hq1, hq2, hq3, hq4, hq5, hq6]
 have hn1 : (k1 != k2) = !q1 := by rw [← hq1]; rfl
 have hn2 : (la1 != la2) = !q2 := by rw [← hq2]; rfl
 have hn3 : (o1 != o2) = !q3 := by rw [← hq3]; rfl
 have S4 := Lib.hid (show ∀ W, Below ((w.alloc (.cells (callC k1 bv1 kv1 la1 o1 dv1) 25)).alloc (.cells (callC k2 bv2 kv2 la2 o2 dv2) 25)).heap.size ((w.alloc (.cells (callC k1 bv1 kv1 la1 o1 dv1) 25)).alloc (.cells (callC k2 bv2 kv2 la2 o2 dv2) 25)) W → Calls Tryz.prog 29 #[bv1, bv2] W fun e w' => e = .returned (.bool q4) ∧ ∃ m, w' = W.drewN m from fun W hW => hq4 ▸ refSame_ok _ _ _ _ W (H1.out.below hW) (H4.out.below hW))
 have S5 := Lib.hid (show ∀ W, Below ((w.alloc (.cells (callC k1 bv1 kv1 la1 o1 dv1) 25)).alloc (.cells (callC k2 bv2 kv2 la2 o2 dv2) 25)).heap.size ((w.alloc (.cells (callC k1 bv1 kv1 la1 o1 dv1) 25)).alloc (.cells (callC k2 bv2 kv2 la2 o2 dv2) 25)) W → Calls Tryz.prog 29 #[kv1, kv2] W fun e w' => e = .returned (.bool q5) ∧ ∃ m, w' = W.drewN m from fun W hW => hq5 ▸ refSame_ok _ _ _ _ W (H2.out.below hW) (H5.out.below hW))
 have S6 := Lib.hid (show ∀ W, Below ((w.alloc (.cells (callC k1 bv1 kv1 la1 o1 dv1) 25)).alloc (.cells (callC k2 bv2 kv2 la2 o2 dv2) 25)).heap.size ((w.alloc (.cells (callC k1 bv1 kv1 la1 o1 dv1) 25)).alloc (.cells (callC k2 bv2 kv2 la2 o2 dv2) 25)) W → Calls Tryz.prog 29 #[dv1, dv2] W fun e w' => e = .returned (.bool q6) ∧ ∃ m, w' = W.drewN m from fun W hW => hq6 ▸ refSame_ok _ _ _ _ W (H3.out.below hW) (H6.out.below hW))
 clear hq4 hq5 hq6 H1 H2 H3 H4 H5 H6
 unfold callC at *
 go_enter Tryz.func15, Tryz.ntmps15
 go_upto_region 1 with (fail)
 generalize ((w.alloc (.cells #[.int .i64 k1, bv1, kv1, .bool la1, .int .i64 o1, dv1] 25)).alloc (.cells #[.int .i64 k2, bv2, kv2, .bool la2, .int .i64 o2, dv2] 25)) = W at *
 have c00 : W.cell? ⟨b0, 0, none⟩ = some (.int .i64 k1) := cell_of_heap r0 0
 have c01 : W.cell? ⟨b0, 1, none⟩ = some (bv1) := cell_of_heap r0 1
 have c02 : W.cell? ⟨b0, 2, none⟩ = some (kv1) := cell_of_heap r0 2
 have c03 : W.cell? ⟨b0, 3, none⟩ = some (.bool la1) := cell_of_heap r0 3
 have c04 : W.cell? ⟨b0, 4, none⟩ = some (.int .i64 o1) := cell_of_heap r0 4
 have c05 : W.cell? ⟨b0, 5, none⟩ = some (dv1) := cell_of_heap r0 5
 have c10 : W.cell? ⟨b1, 0, none⟩ = some (.int .i64 k2) := cell_of_heap r1 0
 have c11 : W.cell? ⟨b1, 1, none⟩ = some (bv2) := cell_of_heap r1 1
 have c12 : W.cell? ⟨b1, 2, none⟩ = some (kv2) := cell_of_heap r1 2
 have c13 : W.cell? ⟨b1, 3, none⟩ = some (.bool la2) := cell_of_heap r1 3
 have c14 : W.cell? ⟨b1, 4, none⟩ = some (.int .i64 o2) := cell_of_heap r1 4
 have c15 : W.cell? ⟨b1, 5, none⟩ = some (dv2) := cell_of_heap r1 5
 have HA := Lib.hid hbA
 have hs0 : b0 < W.heap.size := (Array.getElem?_eq_some_iff.1 r0).1
 have hs1 : b1 < W.heap.size := (Array.getElem?_eq_some_iff.1 r1).1
 clear r0 r1 hbA hb1 hsz
 cases q1
 case false =>
  go_wp2_with fail
  go_ret
  exact ⟨rfl, by rw [hb0]; exact HA.out⟩
 cases q2
 case false =>
  go_wp2_with fail
  go_ret
  exact ⟨rfl, by rw [hb0]; exact HA.out⟩
 cases q3
 case false =>
  go_wp2_with fail
  go_ret
  exact ⟨rfl, by rw [hb0]; exact HA.out⟩
 cases q4
 case false =>
  go_wp2_with fail
  refine (S4.out _ (Below.refl _ _)).mono ?_; rintro e w4 ⟨rfl, m4, rfl⟩
  go_wp2_with fail
  go_ret
  exact ⟨rfl, by rw [hb0]; exact BD HA.out⟩
 cases q5
 case false =>
  go_wp2_with fail
  refine (S4.out _ (Below.refl _ _)).mono ?_; rintro e w4 ⟨rfl, m4, rfl⟩
  go_wp2_with fail
  refine (S5.out _ (BD (Below.refl _ _))).mono ?_; rintro e w5 ⟨rfl, m5, rfl⟩
  go_wp2_with fail
  go_ret
  exact ⟨rfl, by rw [hb0]; exact BD HA.out⟩
 cases q6
 case false =>
  go_wp2_with fail
  refine (S4.out _ (Below.refl _ _)).mono ?_; rintro e w4 ⟨rfl, m4, rfl⟩
  go_wp2_with fail
  refine (S5.out _ (BD (Below.refl _ _))).mono ?_; rintro e w5 ⟨rfl, m5, rfl⟩
  go_wp2_with fail
  refine (S6.out _ (BD (Below.refl _ _))).mono ?_; rintro e w6 ⟨rfl, m6, rfl⟩
  go_wp2_with fail
  go_ret
  exact ⟨rfl, by rw [hb0]; exact BD HA.out⟩
 go_wp2_with fail
 refine (S4.out _ (Below.refl _ _)).mono ?_; rintro e w4 ⟨rfl, m4, rfl⟩
 go_wp2_with fail
 refine (S5.out _ (BD (Below.refl _ _))).mono ?_; rintro e w5 ⟨rfl, m5, rfl⟩
 go_wp2_with fail
 refine (S6.out _ (BD (Below.refl _ _))).mono ?_; rintro e w6 ⟨rfl, m6, rfl⟩
 go_wp2_with fail
 go_ret
 exact ⟨rfl, by rw [hb0]; exact BD HA.out⟩
end Go.Proofs.YtjogmckaakkomaaGreat
