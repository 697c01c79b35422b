/- The state at first, by the reference. No condition. -/
import Derived.Test.YtjogmckaakkomaaGreatB40
import Derived.Test.YtjogmckaakkomaaGreatB22
import Derived.Test.YtjogmckaakkomaaGreatB31
import Derived.Test.YtjogmckaakkomaaGreatB33
import Derived.Test.YtjogmckaakkomaaGreatB39
import Derived.Test.YtjogmckaakkomaaGreatB04
set_option linter.all false
set_option maxRecDepth 100000
set_option maxHeartbeats 8000000
namespace Go.Proofs.YtjogmckaakkomaaGreat
open Go.ChangeShapes Go.WideShapes Go.ChangeAt Go.RowKit Go.Joins Go.Shelf Go.Maps
open Go.Lib (hid)
attribute [local go_sem] Oper.semAt_some
/-- The cells of the reference's node. -/
def rN (kd : Int) (v : Nat → Nat) (sa pe kv : Value) (la : Bool) (mv : Value) (cnt : Int) : Array Value := #[.int .i64 kd, .int .i64 (v 1 : Nat), .int .i64 (v 2 : Nat), .int .i64 (v 3 : Nat), .int .i64 (v 4 : Nat), .int .u32 (v 5 : Nat), .int .u64 (v 6 : Nat), .int .u32 (v 7 : Nat), .int .i64 (v 8 : Nat), .int .i64 (v 9 : Nat), sa, pe, kv, .bool la, .int .u64 0, .int .u64 0, .int .u64 0, .int .u64 0, .int .u64 0, .int .u64 0, .int .u64 0, .int .u64 0, .int .u64 0, .int .u64 0, .int .u64 0, .int .u64 0, .int .u64 0, .int .u64 0, .int .u64 0, .int .u64 0, .bool false, .int .u64 0, .int .u64 0, mv, .int .u64 cnt]
def rNode (big : Bool) (w : World) (np : Nat) (v : Nat → Nat) (sa pe kv : Value) (la : Bool) (mv : Value) (cnt : Int) : Prop := w.heap[np]? = some (.cells (rN (kB big) v sa pe kv la mv cnt) 125 (0, 0))
/-- The parameters' cells. -/
def parC (v : Nat → Nat) (sa pe : Value) : Array Value := #[.int .i64 (v 1 : Nat), .int .i64 (v 2 : Nat), .int .i64 (v 3 : Nat), .int .i64 (v 4 : Nat), .int .u32 (v 5 : Nat), .int .u64 (v 6 : Nat), .int .u32 (v 7 : Nat), .int .i64 (v 8 : Nat), .int .i64 (v 9 : Nat), sa, pe]
theorem rN_par (kd : Int) (v : Nat → Nat) (sa pe kv : Value) (la : Bool) (mv : Value) (cnt : Int) : ∀ j, j < (parC v sa pe).size → (rN kd v sa pe kv la mv cnt)[1 + j]? = (parC v sa pe)[j]? := by
 intro j hj
 have hj : j < 11 := hj
 rcases (show j = 0 ∨ j = 1 ∨ j = 2 ∨ j = 3 ∨ j = 4 ∨ j = 5 ∨ j = 6 ∨ j = 7 ∨ j = 8 ∨ j = 9 ∨ j = 10 by omega) with rfl | rfl | rfl | rfl | rfl | rfl | rfl | rfl | rfl | rfl | rfl <;> rfl
theorem setL_bounds {b zs : List Int} {p : Nat} (hb : ∀ z ∈ b, 0 ≤ z ∧ z ≤ 255) (hz : ∀ z ∈ zs, 0 ≤ z ∧ z ≤ 255) : ∀ z ∈ setL b p zs, 0 ≤ z ∧ z ≤ 255 := by
 intro z h
 unfold setL at h
 rcases List.mem_append.1 h with h | h
 ·rcases List.mem_append.1 h with h | h
  ·exact hb z (List.mem_of_mem_take h)
  ·exact hz z h
 ·exact hb z (List.mem_of_mem_drop h)
theorem encF_bounds (big x0 : Bool) (v : Nat → Nat) : ∀ k, ∀ z ∈ encF big x0 v k, 0 ≤ z ∧ z ≤ 255
 | 0, z, h => by rw [List.eq_of_mem_replicate h]; omega
 | k + 1, z, h => by
  rw [encF] at h
  split at h
  ·exact encF_bounds big x0 v k z h
  ·exact setL_bounds (encF_bounds big x0 v k) (bytesK_bounds _ _) z h
theorem blkP_bounds {big : Bool} {v : Nat → Nat} {z1 z2 : List Int} (h1 : ∀ z ∈ z1, 0 ≤ z ∧ z ≤ 255) (h2 : ∀ z ∈ z2, 0 ≤ z ∧ z ≤ 255) : ∀ z ∈ blkP big v z1 z2, 0 ≤ z ∧ z ≤ 255 :=
 setL_bounds (setL_bounds (encF_bounds _ _ _ _) h1) h2
theorem refFirst_true (v : Nat → Nat) (z1 z2 : List Int) (sa pe kv mv : Value) (la : Bool) (cnt : Int) (np : Nat) (w : World) (hN : rNode true w np v sa pe kv la mv cnt) (hP : ParOk true v) (h1 : Hold w sa z1) (h2 : Hold w pe z2) (hl1 : z1.length ≤ 16) (hl2 : z2.length ≤ 16) :
  Calls Tryz.prog 103 #[.pointer (some ⟨np, 0, none⟩)] w fun e w' => e = .returned (.agg (arrV .u64 (st16 (h0Z true (blkP true v z1 z2))))) ∧ Below w.heap.size w w' := by
 obtain ⟨b0, hb0⟩ : ∃ b0, w.heap.size = b0 := ⟨_, rfl⟩
 have hnp : np < b0 := by rw [← hb0]; exact (Array.getElem?_eq_some_iff.1 hN).1
 have hEN := fun (W : World) (hb : Below b0 w W) => refEncode_true v z1 z2 sa pe W hP (h1.below (hb0 ▸ hb)) (h2.below (hb0 ▸ hb)) hl1 hl2
 have hbz : ∀ z ∈ blkP true v z1 z2, 0 ≤ z ∧ z ≤ 255 := blkP_bounds h1.1 h2.1
 have hbl := blkP_length (big := true) (v := v) hl1 hl2
 generalize blkP true v z1 z2 = bs at *
 obtain ⟨H, hH0⟩ : ∃ H, h0Z true bs = H := ⟨_, rfl⟩
 have hHw : Words 64 8 H := by rw [← hH0]; exact h0Z_words true bs
 have hH1 : startL .u64 IVb 8 bs = H := by rw [← hH0]; rfl
 rw [hH0]
 have hN' : w.heap[np]? = some (.cells (rN 1 v sa pe kv la mv cnt) 125 (0, 0)) := hN
 have HEN_ := hid hEN
 have HBZ_ := hid hbz
 have HBL_ := hid hbl
 have HH1_ := hid hH1
 have HHW_ := hid hHw
 have HNR := hid hN'
 have c30 : w.cell? ⟨np, 30, none⟩ = some (.bool false) := cell_of_heap hN' 30
 have c0n : w.cell? ⟨np, 0, none⟩ = some (.int .i64 1) := cell_of_heap hN' 0
 have hnpw : np < w.heap.size := by omega
 clear hN hN' hEN hbz hbl hH0 hH1 hHw hP h1 h2
 go_enter Tryz.func103, Tryz.ntmps103
 go_upto_region 4 with (fail)
 have hs2 : ((w.alloc (.cells #[.int .u64 0, .int .u64 0, .int .u64 0, .int .u64 0, .int .u64 0, .int .u64 0, .int .u64 0, .int .u64 0, .int .u64 0, .int .u64 0, .int .u64 0, .int .u64 0, .int .u64 0, .int .u64 0, .int .u64 0, .int .u64 0] 123)).alloc (.cells #[.int .u64 0, .int .u64 0, .int .u64 0, .int .u64 0, .int .u64 0, .int .u64 0, .int .u64 0, .int .u64 0, .int .u64 0, .int .u64 0, .int .u64 0, .int .u64 0, .int .u64 0, .int .u64 0, .int .u64 0, .int .u64 0] 123)).heap.size = b0 + 2 := by simp [hb0]
 have r0 : ((w.alloc (.cells #[.int .u64 0, .int .u64 0, .int .u64 0, .int .u64 0, .int .u64 0, .int .u64 0, .int .u64 0, .int .u64 0, .int .u64 0, .int .u64 0, .int .u64 0, .int .u64 0, .int .u64 0, .int .u64 0, .int .u64 0, .int .u64 0] 123)).alloc (.cells #[.int .u64 0, .int .u64 0, .int .u64 0, .int .u64 0, .int .u64 0, .int .u64 0, .int .u64 0, .int .u64 0, .int .u64 0, .int .u64 0, .int .u64 0, .int .u64 0, .int .u64 0, .int .u64 0, .int .u64 0, .int .u64 0] 123)).heap[b0]? = some (.cells #[.int .u64 0, .int .u64 0, .int .u64 0, .int .u64 0, .int .u64 0, .int .u64 0, .int .u64 0, .int .u64 0, .int .u64 0, .int .u64 0, .int .u64 0, .int .u64 0, .int .u64 0, .int .u64 0, .int .u64 0, .int .u64 0] 123 (0, 0)) := by rw [Below.heap_alloc _ _ _ (by simp [hb0]), ← hb0]; exact World.alloc_heap_new _ _
 have r1 : ((w.alloc (.cells #[.int .u64 0, .int .u64 0, .int .u64 0, .int .u64 0, .int .u64 0, .int .u64 0, .int .u64 0, .int .u64 0, .int .u64 0, .int .u64 0, .int .u64 0, .int .u64 0, .int .u64 0, .int .u64 0, .int .u64 0, .int .u64 0] 123)).alloc (.cells #[.int .u64 0, .int .u64 0, .int .u64 0, .int .u64 0, .int .u64 0, .int .u64 0, .int .u64 0, .int .u64 0, .int .u64 0, .int .u64 0, .int .u64 0, .int .u64 0, .int .u64 0, .int .u64 0, .int .u64 0, .int .u64 0] 123)).heap[b0 + 1]? = some (.cells (arrV .u64 (fillS H (st16 Z8) 0)) 123 (0, 0)) := by rw [show b0 + 1 = (w.alloc (.cells #[.int .u64 0, .int .u64 0, .int .u64 0, .int .u64 0, .int .u64 0, .int .u64 0, .int .u64 0, .int .u64 0, .int .u64 0, .int .u64 0, .int .u64 0, .int .u64 0, .int .u64 0, .int .u64 0, .int .u64 0, .int .u64 0] 123)).heap.size by simp [hb0]]; exact World.alloc_heap_new _ _
 have hb2 : Below b0 w ((w.alloc (.cells #[.int .u64 0, .int .u64 0, .int .u64 0, .int .u64 0, .int .u64 0, .int .u64 0, .int .u64 0, .int .u64 0, .int .u64 0, .int .u64 0, .int .u64 0, .int .u64 0, .int .u64 0, .int .u64 0, .int .u64 0, .int .u64 0] 123)).alloc (.cells #[.int .u64 0, .int .u64 0, .int .u64 0, .int .u64 0, .int .u64 0, .int .u64 0, .int .u64 0, .int .u64 0, .int .u64 0, .int .u64 0, .int .u64 0, .int .u64 0, .int .u64 0, .int .u64 0, .int .u64 0, .int .u64 0] 123)) := by rw [← hb0]; exact ((Below.refl _ _).alloc (Nat.le_refl _) _).alloc (by simp) _
 generalize ((w.alloc (.cells #[.int .u64 0, .int .u64 0, .int .u64 0, .int .u64 0, .int .u64 0, .int .u64 0, .int .u64 0, .int .u64 0, .int .u64 0, .int .u64 0, .int .u64 0, .int .u64 0, .int .u64 0, .int .u64 0, .int .u64 0, .int .u64 0] 123)).alloc (.cells #[.int .u64 0, .int .u64 0, .int .u64 0, .int .u64 0, .int .u64 0, .int .u64 0, .int .u64 0, .int .u64 0, .int .u64 0, .int .u64 0, .int .u64 0, .int .u64 0, .int .u64 0, .int .u64 0, .int .u64 0, .int .u64 0] 123)) = W2 at *
 have hn2 : W2.heap[np]? = some (.cells (rN 1 v sa pe kv la mv cnt) 125 (0, 0)) := (hb2.block np hnp).trans HNR.out
 have R0 := hid r0
 have R1 := hid r1
 have HB2 := hid hb2
 have HN2 := hid hn2
 clear r0 r1 hb2 hn2 c30 c0n HNR hnpw
 refine wp_region_c (n := 14) (w0 := W2) (B := W2.heap.size) [.v 21 (.pointer (some ⟨np, 0, none⟩)), .v 22 (.pointer (some ⟨np, 0, none⟩)), .v 23 (.pointer (some ⟨np, 0, none⟩)), .v 24 (.int .i64 1), .v 25 (.pointer (some ⟨np, 0, none⟩)), .v 26 (.pointer (some ⟨np, 0, none⟩)), .v 27 (.pointer (some ⟨np, 1, none⟩)), .v 28 (.agg (parC v sa pe)), .p 29 (fun u W => ∃ r, u = .tuple #[r, .int .i64 0] ∧ W.ownsRow W2.heap.size 5 1 r 64 (bs.map encB)), .p 20 (fun u W => ∃ r, u = .tuple #[r, .int .i64 0] ∧ W.ownsRow W2.heap.size 5 1 r 64 (bs.map encB)), .p 30 (fun u W => W.ownsRow W2.heap.size 5 1 u 64 (bs.map encB)), .v 31 (.int .i64 0), .p 4 (fun u W => W.ownsRow W2.heap.size 5 1 u 64 (bs.map encB)), .v 5 (.int .i64 0)] (by exact ⟨(fun _ _ _ h hb => by obtain ⟨r, e, h⟩ := h; exact ⟨r, e, ownsRow_same' h (fun g _ hg => hb.block g hg)⟩), (fun _ _ _ h hb => by obtain ⟨r, e, h⟩ := h; exact ⟨r, e, ownsRow_same' h (fun g _ hg => hb.block g hg)⟩), (fun _ _ _ h hb => ownsRow_same' h (fun g _ hg => hb.block g hg)), (fun _ _ _ h hb => ownsRow_same' h (fun g _ hg => hb.block g hg)), trivial⟩) (Below.refl _ _).drew (Nat.le_refl _) ?_ ?_
 ·repeat' (with_reducible first | exact eachO_nil | refine eachO_cons ?_ ?_)
  all_goals try
   intro A x W hA hW hBW hdep D K hK
   have a0 := hA.2 0 (by decide)
   conv at a0 => rhs; whnf
   simp only [DepF, nthF] at D
   clear hdep hA
   go_simp
   exact hK _ _ BR rfl
  ·intro A x W hA hW hBW hdep _ K hK
   have g23 := gv hA hdep 2 23
   clear hdep hA
   have g0 := rowStay HN2.out hW
   have c0 : W.cell? ⟨np, 0, none⟩ = some (.int .i64 1) := cell_of_heap g0 0
   go_simp
   exact hK _ _ BR rfl
  ·intro A x W hA hW hBW hdep _ K hK
   have g27 := gv hA hdep 6 27
   clear hdep hA
   have g0 := rowStay HN2.out hW
   refine wp_load_part 76 _ rfl np 1 g27 125 _ (parC v sa pe) (0, 0) _ g0 Tryz.underlying76 rfl (by kernel_rfl) (rN_par _ _ _ _ _ _ _ _) (hK _ _ (Below.refl _ _) rfl)
  ·intro A x W hA hW hBW hdep _ K hK
   have g24 := gv hA hdep 3 24
   have g28 := gv hA hdep 7 28
   clear hdep hA
   go_simp
   refine (HEN_.out W (HB2.out.trans (hW.mono (by omega)))).mono ?_; rintro e w' ⟨⟨r, rfl, ho⟩, hb⟩; exact hK _ _ hb ⟨r, rfl, ownsRow_le ho hBW⟩
  ·intro A x W hA hW hBW hdep _ K hK
   have g29 : (fun u W => ∃ r, u = .tuple #[r, .int .i64 0] ∧ W.ownsRow W2.heap.size 5 1 r 64 (bs.map encB)) (x 29) W := hdep ⟨8, .data⟩ (by simp) rfl _ rfl
   have a29 : A.tmps.getD 29 undef = x 29 := hA.1 29 (by decide)
   clear hdep hA
   go_simp
   exact hK _ _ (Below.refl _ _) (a29 ▸ g29)
  ·intro A x W hA hW hBW hdep _ K hK
   have g20 : (fun u W => ∃ r, u = .tuple #[r, .int .i64 0] ∧ W.ownsRow W2.heap.size 5 1 r 64 (bs.map encB)) (x 20) W := hdep ⟨9, .data⟩ (by simp) rfl _ rfl
   have a20 : A.tmps.getD 20 undef = x 20 := hA.1 20 (by decide)
   clear hdep hA
   obtain ⟨r, er, hr⟩ := g20
   rw [er] at a20
   go_simp
   exact hK _ _ (Below.refl _ _) hr
  ·intro A x W hA hW hBW hdep _ K hK
   have g20 : (fun u W => ∃ r, u = .tuple #[r, .int .i64 0] ∧ W.ownsRow W2.heap.size 5 1 r 64 (bs.map encB)) (x 20) W := hdep ⟨9, .data⟩ (by simp) rfl _ rfl
   have a20 : A.tmps.getD 20 undef = x 20 := hA.1 20 (by decide)
   clear hdep hA
   obtain ⟨r, er, hr⟩ := g20
   rw [er] at a20
   go_simp
   exact hK _ _ BR rfl
  ·intro A x W hA hW hBW hdep _ K hK
   have g30 : (fun u W => W.ownsRow W2.heap.size 5 1 u 64 (bs.map encB)) (x 30) W := hdep ⟨10, .data⟩ (by simp) rfl _ rfl
   have a30 : A.tmps.getD 30 undef = x 30 := hA.1 30 (by decide)
   clear hdep hA
   go_simp
   exact hK _ _ (Below.refl _ _) (a30 ▸ g30)
 intro x W hW hBW hall
 obtain ⟨e29, e20, e30, e4, -⟩ := hall
 change (fun u W => ∃ r, u = .tuple #[r, .int .i64 0] ∧ W.ownsRow W2.heap.size 5 1 r 64 (bs.map encB)) (x 29) W at e29
 change (fun u W => ∃ r, u = .tuple #[r, .int .i64 0] ∧ W.ownsRow W2.heap.size 5 1 r 64 (bs.map encB)) (x 20) W at e20
 change (fun u W => W.ownsRow W2.heap.size 5 1 u 64 (bs.map encB)) (x 30) W at e30
 change (fun u W => W.ownsRow W2.heap.size 5 1 u 64 (bs.map encB)) (x 4) W at e4
 refine thenTail_nil ?_
 simp only [layS, Act.put, List.setIfInBounds_toArray, List.set_cons_zero, List.set_cons_succ]
 have hh4 := own_holds8 e4
 have hb5 : Below b0 w W := HB2.out.trans (hW.mono (by omega))
 have g0 := rowStay HN2.out hW
 have r0 := rowStay R0.out hW
 have r1 := rowStay R1.out hW
 have c0n : W.cell? ⟨np, 0, none⟩ = some (.int .i64 1) := cell_of_heap g0 0
 have hnpw : np < W.heap.size := (Array.getElem?_eq_some_iff.1 g0).1
 have hWs : b0 + 2 ≤ W.heap.size := by have := hW.size; omega
 have R0_ := hid r0
 have R1_ := hid r1
 have HB5 := hid hb5
 have HH4 := hid hh4
 clear e29 e20 e30 e4 hh4 hb5 g0 r0 r1 hW hBW R0 R1 HB2 HN2 hs2
 go_wp2_with fail
 refine (refStart64 bs _ _ HH4.out HBZ_.out HBL_.out).mono ?_; rintro e w1 ⟨rfl, hb1⟩
 rw [HH1_.out]
 have hs1 := hb1.size
 have k0 := rowStay R0_.out hb1
 have k1 := rowStay R1_.out hb1
 have hbw : Below b0 w w1 := HB5.out.trans (hb1.mono (by omega))
 have K0 := hid k0
 have K1 := hid k1
 have HBW := hid hbw
 clear k0 k1 hbw hb1 R0_ R1_ HB5 HH4 c0n hnpw
 go_upto_region 7 with ((with_reducible show wpList _ _ _ (Oper.mk none (Op.store 150 _ _) _ _ _ _ :: _) _ _); refine wpList_store_row rfl 150 _ _ rfl w1.heap.size (arrV .u64 H) rfl rfl 150 _ (World.alloc_heap_new _ _) (by rw [arrV_size, HHW_.out.1]; kernel_rfl) (by rw [arrV_size, HHW_.out.1]; rfl) arrV_all ?_)
 refine letterW ?_
 intro W7 hW7
 obtain ⟨bv, hbv⟩ : ∃ bv, w1.heap.size = bv := ⟨_, rfl⟩
 have m0 : W7.heap[b0]? = some (.cells #[.int .u64 0, .int .u64 0, .int .u64 0, .int .u64 0, .int .u64 0, .int .u64 0, .int .u64 0, .int .u64 0, .int .u64 0, .int .u64 0, .int .u64 0, .int .u64 0, .int .u64 0, .int .u64 0, .int .u64 0, .int .u64 0] 123 (0, 0)) := by rw [hW7]; exact (setRow_other (w1.alloc _) _ _ _ (by omega)).trans ((Below.heap_alloc _ _ _ (by omega)).trans K0.out)
 have m1 : W7.heap[b0 + 1]? = some (.cells (arrV .u64 (fillS H (st16 Z8) 0)) 123 (0, 0)) := by rw [hW7]; exact (setRow_other (w1.alloc _) _ _ _ (by omega)).trans ((Below.heap_alloc _ _ _ (by omega)).trans K1.out)
 have m2 : W7.heap[bv]? = some (.cells (arrV .u64 H) 150 (0, 0)) := by rw [hW7, ← hbv]; exact setRow_heap _ _ _ _ _ _ (World.alloc_heap_new _ _)
 have hB7 : Below b0 w W7 := by rw [hW7]; exact below_setRow (HBW.out.alloc (by omega) _) (by omega) _
 have hbs7 : bv < W7.heap.size := (Array.getElem?_eq_some_iff.1 m2).1
 have hbvb : b0 + 2 ≤ bv := by omega
 rw [hbv]
 have M0 := hid m0
 have M1 := hid m1
 have M2 := hid m2
 have HB7 := hid hB7
 clear hW7 hbv m0 m1 m2 hB7 K0 K1 HBW hs1 hWs
 go_wp2_with fail
 go_loopw [8] (fun i wr => ∃ j : Nat, i = .int .i64 (j : Nat) ∧ j ≤ 8 ∧ wr.heap[b0 + 1]? = some (.cells (arrV .u64 (fillS H (st16 Z8) j)) 123 (0, 0)) ∧ But (b0 + 1) W7 wr) (fun i _ => 8 - (intOf i).toNat)
 case atStart => exact ⟨0, rfl, by omega, M1.out, But.refl _ _⟩
 case round =>
  obtain ⟨j, rfl, hj, hrow, hb⟩ := hrel
  have HROW := hid hrow
  have HB := hid hb
  have hwrs : bv < wr.heap.size := by have := hb.size; omega
  have h16 : (st16 Z8).length = 16 := rfl
  by_cases hlt : j < 8
  case pos =>
   have c0 : wr.cell? ⟨bv, j, none⟩ = some (.int .u64 (wd H j)) := by rw [cell_of_heap ((hb.block bv (by omega) (by omega)).trans M2.out) j, arr_get (by rw [HHW_.out.1]; omega)]
   have hfl : (fillS H (st16 Z8) j).length = 16 := by rw [fillS_length (by rw [HHW_.out.1]; omega) (by omega), h16]
   have c1 : wr.cell? ⟨b0 + 1, j, none⟩ = some (.int .u64 (wd (fillS H (st16 Z8) j) j)) := by rw [cell_of_heap hrow j, arr_get (by omega)]
   have f1 := frozen_of_row wr (b0 + 1) j _ _ hrow
   have hst := heap_setCell_same wr (b0 + 1) j _ _ (.int .u64 (wd H j)) hrow
   rw [arrV_set, fillS_set (by rw [HHW_.out.1]; omega) (by omega)] at hst
   have hbd := wd_bounds HHW_.out hlt
   have HST := hid hst
   have hjj : (j : Int) < 8 := by omega
   generalize wd (fillS H (st16 Z8) j) j = zo at c1
   generalize wd H j = zj at *
   obtain ⟨hbd1, hbd2⟩ := hbd
   clear hst hfl hrow hb h16
   go_wp2
   exact ⟨⟨j + 1, rfl, by omega, HST.out, HB.out.set _ _⟩, by simp [intOf]; omega⟩
  obtain rfl : j = 8 := by omega
  rw [fill_all HHW_.out.1 rfl] at hrow
  have n1 := (hb.block b0 (by omega) (by omega)).trans M0.out
  have hb9 : Below b0 w wr := HB7.out.trans (hb.below (by omega) (by omega))
  have hR16 := st16_words (by decide) HHW_.out
  have hwr1 : b0 + 1 < wr.heap.size := by omega
  clear hb h16 hj hlt HROW
  go_wp2_with (first | ((with_reducible show wpList _ _ _ (Oper.mk (some 51) _ _ _ _ _ :: _) _ _); refine wpList_load_row rfl 123 _ rfl (b0 + 1) rfl _ _ _ _ hrow Tryz.underlying123 rfl (by rw [arrV_size, hR16.1]; kernel_rfl) ?_) | ((with_reducible show wpList _ _ _ (Oper.mk none (Op.store 123 _ _) _ _ _ _ :: _) _ _); refine wpList_store_row rfl 123 _ _ rfl b0 (arrV .u64 (st16 H)) rfl rfl 123 _ n1 (by rw [arrV_size, hR16.1]; kernel_rfl) (by rw [arrV_size, hR16.1]; rfl) arrV_all ?_))
  exact bodyPost_ret (results_cell_row rfl _ _ b0 123 _ _ _ rfl (setRow_heap _ _ _ _ _ _ n1) Tryz.underlying123 rfl (by rw [arrV_size, hR16.1]; kernel_rfl)) rfl ⟨rfl, by rw [hb0]; exact below_setRow hb9 (Nat.le_refl _) _⟩
theorem refFirst_false (v : Nat → Nat) (z1 z2 : List Int) (sa pe kv mv : Value) (la : Bool) (cnt : Int) (np : Nat) (w : World) (hN : rNode false w np v sa pe kv la mv cnt) (hP : ParOk false v) (h1 : Hold w sa z1) (h2 : Hold w pe z2) (hl1 : z1.length ≤ 8) (hl2 : z2.length ≤ 8) :
  Calls Tryz.prog 103 #[.pointer (some ⟨np, 0, none⟩)] w fun e w' => e = .returned (.agg (arrV .u64 (st16 (h0Z false (blkP false v z1 z2))))) ∧ Below w.heap.size w w' := by
 obtain ⟨b0, hb0⟩ : ∃ b0, w.heap.size = b0 := ⟨_, rfl⟩
 have hnp : np < b0 := by rw [← hb0]; exact (Array.getElem?_eq_some_iff.1 hN).1
 have hEN := fun (W : World) (hb : Below b0 w W) => refEncode_false v z1 z2 sa pe W hP (h1.below (hb0 ▸ hb)) (h2.below (hb0 ▸ hb)) hl1 hl2
 have hbz : ∀ z ∈ blkP false v z1 z2, 0 ≤ z ∧ z ≤ 255 := blkP_bounds h1.1 h2.1
 have hbl := blkP_length (big := false) (v := v) hl1 hl2
 generalize blkP false v z1 z2 = bs at *
 obtain ⟨H, hH0⟩ : ∃ H, h0Z false bs = H := ⟨_, rfl⟩
 have hHw : Words 32 8 H := by rw [← hH0]; exact h0Z_words false bs
 have hH1 : startL .u32 IVs 4 bs = H := by rw [← hH0]; rfl
 rw [hH0]
 have hN' : w.heap[np]? = some (.cells (rN 2 v sa pe kv la mv cnt) 125 (0, 0)) := hN
 have HEN_ := hid hEN
 have HBZ_ := hid hbz
 have HBL_ := hid hbl
 have HH1_ := hid hH1
 have HHW_ := hid hHw
 have HNR := hid hN'
 have c30 : w.cell? ⟨np, 30, none⟩ = some (.bool false) := cell_of_heap hN' 30
 have c0n : w.cell? ⟨np, 0, none⟩ = some (.int .i64 2) := cell_of_heap hN' 0
 have hnpw : np < w.heap.size := by omega
 clear hN hN' hEN hbz hbl hH0 hH1 hHw hP h1 h2
 go_enter Tryz.func103, Tryz.ntmps103
 go_upto_region 4 with (fail)
 have hs2 : ((w.alloc (.cells #[.int .u64 0, .int .u64 0, .int .u64 0, .int .u64 0, .int .u64 0, .int .u64 0, .int .u64 0, .int .u64 0, .int .u64 0, .int .u64 0, .int .u64 0, .int .u64 0, .int .u64 0, .int .u64 0, .int .u64 0, .int .u64 0] 123)).alloc (.cells #[.int .u64 0, .int .u64 0, .int .u64 0, .int .u64 0, .int .u64 0, .int .u64 0, .int .u64 0, .int .u64 0, .int .u64 0, .int .u64 0, .int .u64 0, .int .u64 0, .int .u64 0, .int .u64 0, .int .u64 0, .int .u64 0] 123)).heap.size = b0 + 2 := by simp [hb0]
 have r0 : ((w.alloc (.cells #[.int .u64 0, .int .u64 0, .int .u64 0, .int .u64 0, .int .u64 0, .int .u64 0, .int .u64 0, .int .u64 0, .int .u64 0, .int .u64 0, .int .u64 0, .int .u64 0, .int .u64 0, .int .u64 0, .int .u64 0, .int .u64 0] 123)).alloc (.cells #[.int .u64 0, .int .u64 0, .int .u64 0, .int .u64 0, .int .u64 0, .int .u64 0, .int .u64 0, .int .u64 0, .int .u64 0, .int .u64 0, .int .u64 0, .int .u64 0, .int .u64 0, .int .u64 0, .int .u64 0, .int .u64 0] 123)).heap[b0]? = some (.cells #[.int .u64 0, .int .u64 0, .int .u64 0, .int .u64 0, .int .u64 0, .int .u64 0, .int .u64 0, .int .u64 0, .int .u64 0, .int .u64 0, .int .u64 0, .int .u64 0, .int .u64 0, .int .u64 0, .int .u64 0, .int .u64 0] 123 (0, 0)) := by rw [Below.heap_alloc _ _ _ (by simp [hb0]), ← hb0]; exact World.alloc_heap_new _ _
 have r1 : ((w.alloc (.cells #[.int .u64 0, .int .u64 0, .int .u64 0, .int .u64 0, .int .u64 0, .int .u64 0, .int .u64 0, .int .u64 0, .int .u64 0, .int .u64 0, .int .u64 0, .int .u64 0, .int .u64 0, .int .u64 0, .int .u64 0, .int .u64 0] 123)).alloc (.cells #[.int .u64 0, .int .u64 0, .int .u64 0, .int .u64 0, .int .u64 0, .int .u64 0, .int .u64 0, .int .u64 0, .int .u64 0, .int .u64 0, .int .u64 0, .int .u64 0, .int .u64 0, .int .u64 0, .int .u64 0, .int .u64 0] 123)).heap[b0 + 1]? = some (.cells (arrV .u64 (fillS H (st16 Z8) 0)) 123 (0, 0)) := by rw [show b0 + 1 = (w.alloc (.cells #[.int .u64 0, .int .u64 0, .int .u64 0, .int .u64 0, .int .u64 0, .int .u64 0, .int .u64 0, .int .u64 0, .int .u64 0, .int .u64 0, .int .u64 0, .int .u64 0, .int .u64 0, .int .u64 0, .int .u64 0, .int .u64 0] 123)).heap.size by simp [hb0]]; exact World.alloc_heap_new _ _
 have hb2 : Below b0 w ((w.alloc (.cells #[.int .u64 0, .int .u64 0, .int .u64 0, .int .u64 0, .int .u64 0, .int .u64 0, .int .u64 0, .int .u64 0, .int .u64 0, .int .u64 0, .int .u64 0, .int .u64 0, .int .u64 0, .int .u64 0, .int .u64 0, .int .u64 0] 123)).alloc (.cells #[.int .u64 0, .int .u64 0, .int .u64 0, .int .u64 0, .int .u64 0, .int .u64 0, .int .u64 0, .int .u64 0, .int .u64 0, .int .u64 0, .int .u64 0, .int .u64 0, .int .u64 0, .int .u64 0, .int .u64 0, .int .u64 0] 123)) := by rw [← hb0]; exact ((Below.refl _ _).alloc (Nat.le_refl _) _).alloc (by simp) _
 generalize ((w.alloc (.cells #[.int .u64 0, .int .u64 0, .int .u64 0, .int .u64 0, .int .u64 0, .int .u64 0, .int .u64 0, .int .u64 0, .int .u64 0, .int .u64 0, .int .u64 0, .int .u64 0, .int .u64 0, .int .u64 0, .int .u64 0, .int .u64 0] 123)).alloc (.cells #[.int .u64 0, .int .u64 0, .int .u64 0, .int .u64 0, .int .u64 0, .int .u64 0, .int .u64 0, .int .u64 0, .int .u64 0, .int .u64 0, .int .u64 0, .int .u64 0, .int .u64 0, .int .u64 0, .int .u64 0, .int .u64 0] 123)) = W2 at *
 have hn2 : W2.heap[np]? = some (.cells (rN 2 v sa pe kv la mv cnt) 125 (0, 0)) := (hb2.block np hnp).trans HNR.out
 have R0 := hid r0
 have R1 := hid r1
 have HB2 := hid hb2
 have HN2 := hid hn2
 clear r0 r1 hb2 hn2 c30 c0n HNR hnpw
 refine wp_region_c (n := 14) (w0 := W2) (B := W2.heap.size) [.v 21 (.pointer (some ⟨np, 0, none⟩)), .v 22 (.pointer (some ⟨np, 0, none⟩)), .v 23 (.pointer (some ⟨np, 0, none⟩)), .v 24 (.int .i64 2), .v 25 (.pointer (some ⟨np, 0, none⟩)), .v 26 (.pointer (some ⟨np, 0, none⟩)), .v 27 (.pointer (some ⟨np, 1, none⟩)), .v 28 (.agg (parC v sa pe)), .p 29 (fun u W => ∃ r, u = .tuple #[r, .int .i64 0] ∧ W.ownsRow W2.heap.size 5 1 r 32 (bs.map encB)), .p 20 (fun u W => ∃ r, u = .tuple #[r, .int .i64 0] ∧ W.ownsRow W2.heap.size 5 1 r 32 (bs.map encB)), .p 30 (fun u W => W.ownsRow W2.heap.size 5 1 u 32 (bs.map encB)), .v 31 (.int .i64 0), .p 4 (fun u W => W.ownsRow W2.heap.size 5 1 u 32 (bs.map encB)), .v 5 (.int .i64 0)] (by exact ⟨(fun _ _ _ h hb => by obtain ⟨r, e, h⟩ := h; exact ⟨r, e, ownsRow_same' h (fun g _ hg => hb.block g hg)⟩), (fun _ _ _ h hb => by obtain ⟨r, e, h⟩ := h; exact ⟨r, e, ownsRow_same' h (fun g _ hg => hb.block g hg)⟩), (fun _ _ _ h hb => ownsRow_same' h (fun g _ hg => hb.block g hg)), (fun _ _ _ h hb => ownsRow_same' h (fun g _ hg => hb.block g hg)), trivial⟩) (Below.refl _ _).drew (Nat.le_refl _) ?_ ?_
 ·repeat' (with_reducible first | exact eachO_nil | refine eachO_cons ?_ ?_)
  all_goals try
   intro A x W hA hW hBW hdep D K hK
   have a0 := hA.2 0 (by decide)
   conv at a0 => rhs; whnf
   simp only [DepF, nthF] at D
   clear hdep hA
   go_simp
   exact hK _ _ BR rfl
  ·intro A x W hA hW hBW hdep _ K hK
   have g23 := gv hA hdep 2 23
   clear hdep hA
   have g0 := rowStay HN2.out hW
   have c0 : W.cell? ⟨np, 0, none⟩ = some (.int .i64 2) := cell_of_heap g0 0
   go_simp
   exact hK _ _ BR rfl
  ·intro A x W hA hW hBW hdep _ K hK
   have g27 := gv hA hdep 6 27
   clear hdep hA
   have g0 := rowStay HN2.out hW
   refine wp_load_part 76 _ rfl np 1 g27 125 _ (parC v sa pe) (0, 0) _ g0 Tryz.underlying76 rfl (by kernel_rfl) (rN_par _ _ _ _ _ _ _ _) (hK _ _ (Below.refl _ _) rfl)
  ·intro A x W hA hW hBW hdep _ K hK
   have g24 := gv hA hdep 3 24
   have g28 := gv hA hdep 7 28
   clear hdep hA
   go_simp
   refine (HEN_.out W (HB2.out.trans (hW.mono (by omega)))).mono ?_; rintro e w' ⟨⟨r, rfl, ho⟩, hb⟩; exact hK _ _ hb ⟨r, rfl, ownsRow_le ho hBW⟩
  ·intro A x W hA hW hBW hdep _ K hK
   have g29 : (fun u W => ∃ r, u = .tuple #[r, .int .i64 0] ∧ W.ownsRow W2.heap.size 5 1 r 32 (bs.map encB)) (x 29) W := hdep ⟨8, .data⟩ (by simp) rfl _ rfl
   have a29 : A.tmps.getD 29 undef = x 29 := hA.1 29 (by decide)
   clear hdep hA
   go_simp
   exact hK _ _ (Below.refl _ _) (a29 ▸ g29)
  ·intro A x W hA hW hBW hdep _ K hK
   have g20 : (fun u W => ∃ r, u = .tuple #[r, .int .i64 0] ∧ W.ownsRow W2.heap.size 5 1 r 32 (bs.map encB)) (x 20) W := hdep ⟨9, .data⟩ (by simp) rfl _ rfl
   have a20 : A.tmps.getD 20 undef = x 20 := hA.1 20 (by decide)
   clear hdep hA
   obtain ⟨r, er, hr⟩ := g20
   rw [er] at a20
   go_simp
   exact hK _ _ (Below.refl _ _) hr
  ·intro A x W hA hW hBW hdep _ K hK
   have g20 : (fun u W => ∃ r, u = .tuple #[r, .int .i64 0] ∧ W.ownsRow W2.heap.size 5 1 r 32 (bs.map encB)) (x 20) W := hdep ⟨9, .data⟩ (by simp) rfl _ rfl
   have a20 : A.tmps.getD 20 undef = x 20 := hA.1 20 (by decide)
   clear hdep hA
   obtain ⟨r, er, hr⟩ := g20
   rw [er] at a20
   go_simp
   exact hK _ _ BR rfl
  ·intro A x W hA hW hBW hdep _ K hK
   have g30 : (fun u W => W.ownsRow W2.heap.size 5 1 u 32 (bs.map encB)) (x 30) W := hdep ⟨10, .data⟩ (by simp) rfl _ rfl
   have a30 : A.tmps.getD 30 undef = x 30 := hA.1 30 (by decide)
   clear hdep hA
   go_simp
   exact hK _ _ (Below.refl _ _) (a30 ▸ g30)
 intro x W hW hBW hall
 obtain ⟨e29, e20, e30, e4, -⟩ := hall
 change (fun u W => ∃ r, u = .tuple #[r, .int .i64 0] ∧ W.ownsRow W2.heap.size 5 1 r 32 (bs.map encB)) (x 29) W at e29
 change (fun u W => ∃ r, u = .tuple #[r, .int .i64 0] ∧ W.ownsRow W2.heap.size 5 1 r 32 (bs.map encB)) (x 20) W at e20
 change (fun u W => W.ownsRow W2.heap.size 5 1 u 32 (bs.map encB)) (x 30) W at e30
 change (fun u W => W.ownsRow W2.heap.size 5 1 u 32 (bs.map encB)) (x 4) W at e4
 refine thenTail_nil ?_
 simp only [layS, Act.put, List.setIfInBounds_toArray, List.set_cons_zero, List.set_cons_succ]
 have hh4 := own_holds8 e4
 have hb5 : Below b0 w W := HB2.out.trans (hW.mono (by omega))
 have g0 := rowStay HN2.out hW
 have r0 := rowStay R0.out hW
 have r1 := rowStay R1.out hW
 have c0n : W.cell? ⟨np, 0, none⟩ = some (.int .i64 2) := cell_of_heap g0 0
 have hnpw : np < W.heap.size := (Array.getElem?_eq_some_iff.1 g0).1
 have hWs : b0 + 2 ≤ W.heap.size := by have := hW.size; omega
 have R0_ := hid r0
 have R1_ := hid r1
 have HB5 := hid hb5
 have HH4 := hid hh4
 clear e29 e20 e30 e4 hh4 hb5 g0 r0 r1 hW hBW R0 R1 HB2 HN2 hs2
 go_wp2_with fail
 refine (refStart32 bs _ _ HH4.out HBZ_.out HBL_.out).mono ?_; rintro e w1 ⟨rfl, hb1⟩
 rw [HH1_.out]
 have hs1 := hb1.size
 have k0 := rowStay R0_.out hb1
 have k1 := rowStay R1_.out hb1
 have hbw : Below b0 w w1 := HB5.out.trans (hb1.mono (by omega))
 have K0 := hid k0
 have K1 := hid k1
 have HBW := hid hbw
 clear k0 k1 hbw hb1 R0_ R1_ HB5 HH4 c0n hnpw
 go_upto_region 13 with ((with_reducible show wpList _ _ _ (Oper.mk none (Op.store 160 _ _) _ _ _ _ :: _) _ _); refine wpList_store_row rfl 160 _ _ rfl w1.heap.size (arrV .u32 H) rfl rfl 160 _ (World.alloc_heap_new _ _) (by rw [arrV_size, HHW_.out.1]; kernel_rfl) (by rw [arrV_size, HHW_.out.1]; rfl) arrV_all ?_)
 refine letterW ?_
 intro W7 hW7
 obtain ⟨bv, hbv⟩ : ∃ bv, w1.heap.size = bv := ⟨_, rfl⟩
 have m0 : W7.heap[b0]? = some (.cells #[.int .u64 0, .int .u64 0, .int .u64 0, .int .u64 0, .int .u64 0, .int .u64 0, .int .u64 0, .int .u64 0, .int .u64 0, .int .u64 0, .int .u64 0, .int .u64 0, .int .u64 0, .int .u64 0, .int .u64 0, .int .u64 0] 123 (0, 0)) := by rw [hW7]; exact (setRow_other (w1.alloc _) _ _ _ (by omega)).trans ((Below.heap_alloc _ _ _ (by omega)).trans K0.out)
 have m1 : W7.heap[b0 + 1]? = some (.cells (arrV .u64 (fillS H (st16 Z8) 0)) 123 (0, 0)) := by rw [hW7]; exact (setRow_other (w1.alloc _) _ _ _ (by omega)).trans ((Below.heap_alloc _ _ _ (by omega)).trans K1.out)
 have m2 : W7.heap[bv]? = some (.cells (arrV .u32 H) 160 (0, 0)) := by rw [hW7, ← hbv]; exact setRow_heap _ _ _ _ _ _ (World.alloc_heap_new _ _)
 have hB7 : Below b0 w W7 := by rw [hW7]; exact below_setRow (HBW.out.alloc (by omega) _) (by omega) _
 have hbs7 : bv < W7.heap.size := (Array.getElem?_eq_some_iff.1 m2).1
 have hbvb : b0 + 2 ≤ bv := by omega
 rw [hbv]
 have M0 := hid m0
 have M1 := hid m1
 have M2 := hid m2
 have HB7 := hid hB7
 clear hW7 hbv m0 m1 m2 hB7 K0 K1 HBW hs1 hWs
 go_wp2_with fail
 go_loopw [11] (fun i wr => ∃ j : Nat, i = .int .i64 (j : Nat) ∧ j ≤ 8 ∧ wr.heap[b0 + 1]? = some (.cells (arrV .u64 (fillS H (st16 Z8) j)) 123 (0, 0)) ∧ But (b0 + 1) W7 wr) (fun i _ => 8 - (intOf i).toNat)
 case atStart => exact ⟨0, rfl, by omega, M1.out, But.refl _ _⟩
 case round =>
  obtain ⟨j, rfl, hj, hrow, hb⟩ := hrel
  have HROW := hid hrow
  have HB := hid hb
  have hwrs : bv < wr.heap.size := by have := hb.size; omega
  have h16 : (st16 Z8).length = 16 := rfl
  by_cases hlt : j < 8
  case pos =>
   have c0 : wr.cell? ⟨bv, j, none⟩ = some (.int .u32 (wd H j)) := by rw [cell_of_heap ((hb.block bv (by omega) (by omega)).trans M2.out) j, arr_get (by rw [HHW_.out.1]; omega)]
   have hfl : (fillS H (st16 Z8) j).length = 16 := by rw [fillS_length (by rw [HHW_.out.1]; omega) (by omega), h16]
   have c1 : wr.cell? ⟨b0 + 1, j, none⟩ = some (.int .u64 (wd (fillS H (st16 Z8) j) j)) := by rw [cell_of_heap hrow j, arr_get (by omega)]
   have f1 := frozen_of_row wr (b0 + 1) j _ _ hrow
   have hst := heap_setCell_same wr (b0 + 1) j _ _ (.int .u64 (wd H j)) hrow
   rw [arrV_set, fillS_set (by rw [HHW_.out.1]; omega) (by omega)] at hst
   have hbd := wd_bounds HHW_.out hlt
   have hcv : IntKind.u64.wrap (wd H j) = wd H j := u64_wrap_id _ hbd.1 (by have := hbd.2; simp at this; omega)
   have HST := hid hst
   have hjj : (j : Int) < 8 := by omega
   generalize wd (fillS H (st16 Z8) j) j = zo at c1
   generalize wd H j = zj at *
   obtain ⟨hbd1, hbd2⟩ := hbd
   clear hst hfl hrow hb h16
   go_wp2
   exact ⟨⟨j + 1, rfl, by omega, HST.out, HB.out.set _ _⟩, by simp [intOf]; omega⟩
  obtain rfl : j = 8 := by omega
  rw [fill_all HHW_.out.1 rfl] at hrow
  have n1 := (hb.block b0 (by omega) (by omega)).trans M0.out
  have hb9 : Below b0 w wr := HB7.out.trans (hb.below (by omega) (by omega))
  have hR16 := st16_words (by decide) HHW_.out
  have hwr1 : b0 + 1 < wr.heap.size := by omega
  clear hb h16 hj hlt HROW
  go_wp2_with (first | ((with_reducible show wpList _ _ _ (Oper.mk (some 67) _ _ _ _ _ :: _) _ _); refine wpList_load_row rfl 123 _ rfl (b0 + 1) rfl _ _ _ _ hrow Tryz.underlying123 rfl (by rw [arrV_size, hR16.1]; kernel_rfl) ?_) | ((with_reducible show wpList _ _ _ (Oper.mk none (Op.store 123 _ _) _ _ _ _ :: _) _ _); refine wpList_store_row rfl 123 _ _ rfl b0 (arrV .u64 (st16 H)) rfl rfl 123 _ n1 (by rw [arrV_size, hR16.1]; kernel_rfl) (by rw [arrV_size, hR16.1]; rfl) arrV_all ?_))
  exact bodyPost_ret (results_cell_row rfl _ _ b0 123 _ _ _ rfl (setRow_heap _ _ _ _ _ _ n1) Tryz.underlying123 rfl (by rw [arrV_size, hR16.1]; kernel_rfl)) rfl ⟨rfl, by rw [hb0]; exact below_setRow hb9 (Nat.le_refl _) _⟩
/-- A tree that may be, with its bytes in memory. -/
structure TreeOk (t : TreeV) (kz z1 z2 : List Int) (w : World) : Prop where
 v : t.validE = 0
 l : 0 ≤ t.l ∧ t.l ≤ 4294967295
 k : Hold w (.slice t.ka t.kl t.kc) kz
 s : Hold w (.slice t.sa t.sl t.sc) z1
 p : Hold w (.slice t.pa t.pl t.pc) z2
theorem TreeOk.below {t : TreeV} {kz z1 z2 : List Int} {w w' : World} (h : TreeOk t kz z1 z2 w) (hb : Below w.heap.size w w') : TreeOk t kz z1 z2 w' := ⟨h.v, h.l, h.k.below hb, h.s.below hb, h.p.below hb⟩
theorem hold_len {w : World} {a : Option Addr} {n c : Nat} {zs : List Int} (h : Hold w (.slice a n c) zs) : zs.length = n := by
 obtain ⟨a', c', e, -, -⟩ := h.slice
 simp only [Value.slice.injEq] at e
 exact e.2.1.symm
/-- What a node gives. -/
def TreeV.node (t : TreeV) (kz z1 z2 : List Int) (row i : Nat) (la rt : Bool) (d : List Int) : List Int := callR t.big (t.blk z1 z2 row i) (keyL row kz) la (t.outN rt) d
theorem TreeV.node_bounds (t : TreeV) (kz z1 z2 : List Int) (row i : Nat) (la rt : Bool) (d : List Int) : ∀ a ∈ t.node kz z1 z2 row i la rt d, 0 ≤ a ∧ a ≤ 255 := fun a ha => outZ_bounds _ _ _ _ a (List.mem_of_mem_take ha)
theorem nodeCall_any (big : Bool) (bs kz ds : List Int) (la : Bool) (o : Int) (bv kv dv : Value) (w : World) (hB : Hold w bv bs) (hK : Hold w kv kz) (hD : Hold w dv ds) (hdl : (ds.length : Int) ≤ 140737488355200) (hok : okD big false bs) (hkb0 : keyBad bs kz = false) (ho : 1 ≤ o ∧ o ≤ (mB big : Nat)) :
  Calls Tryz.prog 27 #[.agg (callC (kB big) bv kv la o dv)] w fun e w' => CallIs big bs kz la o ds w e w' := by
 cases big
 ·exact call_false bs kz ds la o bv kv dv w hB hK hD hdl hok hkb0 ho
 ·exact call_true bs kz ds la o bv kv dv w hB hK hD hdl hok hkb0 ho
/-- A node's block and key may be. -/
theorem TreeOk.okD {t : TreeV} {kz z1 z2 : List Int} {w : World} (h : TreeOk t kz z1 z2 w) {row at_ : Nat} (hr : row ≤ 255) (ha : at_ < 281474976710656) :
  Go.Proofs.YtjogmckaakkomaaGreat.okD t.big false (t.blk z1 z2 row at_) ∧ keyBad (t.blk z1 z2 row at_) (keyL row kz) = false ∧ (∀ z ∈ t.blk z1 z2 row at_, 0 ≤ z ∧ z ≤ 255) ∧ ∀ rt : Bool, 1 ≤ t.outN rt ∧ t.outN rt ≤ (mB t.big : Nat) := by
 have hvf := TreeV.valid_facts h.v
 have hmb := TreeV.mB_big h.v
 have e1 := hold_len h.s
 have e2 := hold_len h.p
 have e3 := hold_len h.k
 obtain ⟨h1, h2⟩ := okD_blk (z1 := z1) (z2 := z2) (TreeV.parOk h.v h.l hr ha) (by omega) (by omega)
 refine ⟨h1, ?_, blkP_bounds h.s.1 h.p.1, fun rt => ?_⟩
 ·have h3 : nthz (t.blk z1 z2 row at_) 1 = (t.kl : Int) := h2
  unfold keyBad keyL
  rw [h3]
  refine decide_eq_false ?_
  split
  ·omega
  ·simp
 ·obtain ⟨-, d1, d2, d3, d4, -⟩ := hvf
  cases rt
  ·show 1 ≤ t.i ∧ t.i ≤ _; omega
  ·show 1 ≤ t.d ∧ t.d ≤ _; omega
theorem node_ok {t : TreeV} {kz z1 z2 : List Int} {w : World} (h : TreeOk t kz z1 z2 w) {row at_ : Nat} (hr : row ≤ 255) (ha : at_ < 281474976710656) (la rt : Bool) (ds : List Int) (dv bv kv : Value) (W : World) (b : Nat)
  (ho : W.ownsRow b 5 1 bv (mB t.big) ((t.blk z1 z2 row at_).map encB)) (hk : W.ownsRow b 5 1 kv (keyL row kz).length ((keyL row kz).map encB)) (hd : Hold W dv ds) (hl : ds.length ≤ 1073741824) :
  Calls Tryz.prog 27 #[.agg (callC t.k bv kv la (t.outN rt) dv)] W fun e w' => ∃ u, e = .returned (.tuple #[u, .int .i64 0]) ∧ OwnB W.heap.size w' u (t.node kz z1 z2 row at_ la rt ds) ∧ Below W.heap.size W w' := by
 obtain ⟨h1, h2, h3, h4⟩ := h.okD hr ha
 have hkz : ∀ z ∈ keyL row kz, 0 ≤ z ∧ z ≤ 255 := fun z hz => by
  unfold keyL at hz
  split at hz
  ·exact h.k.1 z hz
  ·cases hz
 rw [← TreeV.kB_big h.v]
 refine (nodeCall_any t.big _ _ ds la _ bv kv dv W (hold_of_own ho h3) (hold_of_own hk hkz) hd (by omega) h1 h2 (h4 rt)).mono ?_
 rintro e w' ⟨⟨u, rfl, hu⟩, hb⟩
 exact ⟨u, rfl, ⟨TreeV.node_bounds t kz z1 z2 row at_ la rt ds, hu⟩, hb⟩
/-- A row's outputs, the first m. -/
def TreeV.rowZ (t : TreeV) (kz z1 z2 : List Int) (row : Nat) (rt : Bool) (L : List (List Int)) (m : Nat) : List (List Int) := (List.range m).map fun i => t.node kz z1 z2 row i (decide (i + 1 = L.length)) rt (nthL L i)
theorem TreeV.rowZ_succ (t : TreeV) (kz z1 z2 : List Int) (row : Nat) (rt : Bool) (L : List (List Int)) (m : Nat) : t.rowZ kz z1 z2 row rt L (m + 1) = t.rowZ kz z1 z2 row rt L m ++ [t.node kz z1 z2 row m (decide (m + 1 = L.length)) rt (nthL L m)] := by simp [TreeV.rowZ, List.range_succ]
theorem TreeV.rowZ_length (t : TreeV) (kz z1 z2 : List Int) (row : Nat) (rt : Bool) (L : List (List Int)) (m : Nat) : (t.rowZ kz z1 z2 row rt L m).length = m := by simp [TreeV.rowZ]
/-- A call of a node, told. -/
structure CallS where
 k : Int
 bs : List Int
 kz : List Int
 la : Bool
 o : Int
 ds : List Int
def CallS.zero : CallS := ⟨0, [], [], false, 0, []⟩
/-- Bytes that stay: of one's own, or those of the first world. -/
def KeepH (w0 : World) (B : Nat) (w : World) (v : Value) (z : List Int) : Prop := OwnB B w v z ∨ Hold w0 v z ∧ Below w0.heap.size w0 w
theorem KeepH.hold {w0 w : World} {B : Nat} {v : Value} {z : List Int} (h : KeepH w0 B w v z) : Hold w v z := by
 rcases h with h | ⟨h, hb⟩
 ·exact h.hold
 ·exact h.below hb
theorem KeepH.kb {w0 w w' : World} {B b : Nat} {v : Value} {z : List Int} (h : KeepH w0 B w v z) (hb : w0.heap.size ≤ b) (k : KB b w w') : KeepH w0 B w' v z := by
 rcases h with h | ⟨h, h2⟩
 ·exact .inl (h.kb k)
 ·exact .inr ⟨h, h2.trans (k.below.mono hb)⟩
theorem KeepH.le {w0 w : World} {B b : Nat} {v : Value} {z : List Int} (h : KeepH w0 B w v z) (hb : b ≤ B) : KeepH w0 b w v z := by
 rcases h with h | h
 ·exact .inl (h.le hb)
 ·exact .inr h
/-- A call's cells. -/
def CallAt (w0 : World) (B : Nat) (w : World) (s : CallS) (c : List Value) : Prop :=
 ∃ a1 n1 c1 a2 n2 c2 a3 n3 c3, c = [.int .i64 s.k, .slice a1 n1 c1, .slice a2 n2 c2, .bool s.la, .int .i64 s.o, .slice a3 n3 c3] ∧ OwnB B w (.slice a1 n1 c1) s.bs ∧ KeepH w0 B w (.slice a2 n2 c2) s.kz ∧ KeepH w0 B w (.slice a3 n3 c3) s.ds
theorem CallAt.kb {w0 w w' : World} {B b : Nat} {s : CallS} {c : List Value} (h : CallAt w0 B w s c) (hb : w0.heap.size ≤ b) (k : KB b w w') : CallAt w0 B w' s c := by
 obtain ⟨a1, n1, c1, a2, n2, c2, a3, n3, c3, e, h1, h2, h3⟩ := h
 exact ⟨a1, n1, c1, a2, n2, c2, a3, n3, c3, e, h1.kb k, h2.kb hb k, h3.kb hb k⟩
theorem CallAt.le {w0 w : World} {B b : Nat} {s : CallS} {c : List Value} (h : CallAt w0 B w s c) (hb : b ≤ B) : CallAt w0 b w s c := by
 obtain ⟨a1, n1, c1, a2, n2, c2, a3, n3, c3, e, h1, h2, h3⟩ := h
 exact ⟨a1, n1, c1, a2, n2, c2, a3, n3, c3, e, h1.le hb, h2.le hb, h3.le hb⟩
/-- A list of calls of one's own. -/
def CallsO (w0 : World) (B : Nat) (w : World) (v : Value) (S : List CallS) : Prop :=
 ∃ cs : List (List Value), cs.length = S.length ∧ w.ownsRow B 25 6 v S.length cs.flatten ∧ ∀ i, i < S.length → CallAt w0 B w (S.getD i .zero) (cs.getD i [])
theorem CallsO.nil (w0 : World) (B : Nat) (w : World) : CallsO w0 B w (.slice none 0 0) [] := ⟨[], rfl, World.ownsRow_nil _ _ _ _, fun i hi => by simp at hi⟩
theorem CallsO.kb {w0 w w' : World} {B b : Nat} {v : Value} {S : List CallS} (h : CallsO w0 B w v S) (hb : w0.heap.size ≤ b) (k : KB b w w') (hs : ∀ g, v.ownBlock = some g → w'.heap[g]? = w.heap[g]?) : CallsO w0 B w' v S := by
 obtain ⟨cs, hl, ho, hx⟩ := h
 refine ⟨cs, hl, ⟨ho.1, ?_⟩, fun i hi => (hx i hi).kb hb k⟩
 rcases ho.2 with h2 | ⟨g, cap, cur, rfl, h1, h2, h3⟩
 ·exact .inl h2
 ·exact .inr ⟨g, cap, cur, rfl, h1, by rw [hs g rfl]; exact h2, h3⟩
theorem own_block_lt {w : World} {B T n s : Nat} {v : Value} {xs : List Value} (ho : w.ownsRow B T s v n xs) : ∀ g, v.ownBlock = some g → g < w.heap.size := by
 intro g hg
 rcases ho.2 with ⟨rfl, -⟩ | ⟨g', cap, cur, rfl, -, h2, -⟩
 ·cases hg
 ·simp only [Value.ownBlock, Option.some.injEq] at hg
  subst hg
  exact (Array.getElem?_eq_some_iff.1 h2).1
theorem CallsO.below {w0 w w' : World} {B : Nat} {v : Value} {S : List CallS} (h : CallsO w0 B w v S) (hw : w0.heap.size ≤ w.heap.size) (k : Below w.heap.size w w') : CallsO w0 B w' v S := by
 refine h.kb hw (KB.of_below k (Nat.le_refl _)) fun g hg => ?_
 obtain ⟨cs, -, ho, -⟩ := h
 exact k.block g (own_block_lt ho g hg)
theorem CallsO.le {w0 w : World} {B b : Nat} {v : Value} {S : List CallS} (h : CallsO w0 B w v S) (hb : b ≤ B) : CallsO w0 b w v S := by
 obtain ⟨cs, hl, ho, hx⟩ := h
 exact ⟨cs, hl, ownsRow_le ho hb, fun i hi => (hx i hi).le hb⟩
theorem getD_snoc {α : Type} (L : List α) (x d : α) (i : Nat) : (L ++ [x]).getD i d = if i < L.length then L.getD i d else if i = L.length then x else d := by
 simp only [List.getD_eq_getElem?_getD]
 by_cases h : i < L.length
 ·rw [List.getElem?_append_left h, if_pos h]
 ·rw [if_neg h, List.getElem?_append_right (by omega)]
  by_cases h2 : i = L.length
  ·subst h2; simp
  ·rw [if_neg h2, List.getElem?_eq_none (by simp; omega)]; rfl
/-- One call more. -/
theorem CallsO.snoc {w0 w w' : World} {B : Nat} {v' : Value} {S : List CallS} {s : CallS} {cs : List (List Value)} {c : List Value} (hx : ∀ i, i < S.length → CallAt w0 B w (S.getD i .zero) (cs.getD i [])) (hl : cs.length = S.length) (hz : CallAt w0 B w s c)
  (ho : w'.ownsRow B 25 6 v' (S.length + 1) (cs.flatten ++ c)) (hb : w0.heap.size ≤ B) (hk : KB B w w') : CallsO w0 B w' v' (S ++ [s]) := by
 refine ⟨cs ++ [c], by simp [hl], by simpa using ho, fun i hi => ?_⟩
 simp only [List.length_append, List.length_singleton] at hi
 rw [getD_snoc, getD_snoc, hl]
 by_cases h : i < S.length
 ·rw [if_pos h, if_pos h]; exact (hx i h).kb hb hk
 ·rw [if_neg h, if_neg h, if_pos (by omega), if_pos (by omega)]; exact hz.kb hb hk
/-- Another row's block stays. -/
theorem own_spare {W W' : World} {B1 B2 T1 T2 s1 s2 n1 n2 : Nat} {v1 v2 : Value} {x1 x2 : List Value} (h1 : W.ownsRow B1 T1 s1 v1 n1 x1) (h2 : W.ownsRow B2 T2 s2 v2 n2 x2) (hT : T1 ≠ T2) (h : Spare (fun k => v1.ownBlock ≠ some k) W W') : ∀ g, v2.ownBlock = some g → W'.heap[g]? = W.heap[g]? := by
 intro g hg
 refine h.block g (own_block_lt h2 g hg) fun e => ?_
 rcases h1.2 with ⟨rfl, -⟩ | ⟨g1, k1, c1, rfl, -, p1, -⟩
 ·cases e
 rcases h2.2 with ⟨rfl, -⟩ | ⟨g2, k2, c2, rfl, -, p2, -⟩
 ·cases hg
 simp only [Value.ownBlock, Option.some.injEq] at e hg
 subst e hg
 rw [p1] at p2
 simp only [Option.some.injEq, Obj.cells.injEq] at p2
 exact hT p2.2.1
theorem own_keep {W W' : World} {B T s n : Nat} {v : Value} {xs : List Value} (h : W.ownsRow B T s v n xs) (hs : ∀ g, v.ownBlock = some g → W'.heap[g]? = W.heap[g]?) : W'.ownsRow B T s v n xs := by
 refine ⟨h.1, ?_⟩
 rcases h.2 with h2 | ⟨g, cap, cur, rfl, h1, h2, h3⟩
 ·exact .inl h2
 ·exact .inr ⟨g, cap, cur, rfl, h1, by rw [hs g rfl]; exact h2, h3⟩
theorem own_slice6 {W : World} {B T s n : Nat} {v : Value} {xs : List Value} (h : W.ownsRow B T s v n xs) : ∃ a n c, v = .slice a n c := by
 rcases h.2 with ⟨rfl, -⟩ | ⟨g, cap, cur, rfl, -⟩
 ·exact ⟨_, _, _, rfl⟩
 ·exact ⟨_, _, _, rfl⟩
/-- Lists of calls, one for each row. -/
def LevO (w0 : World) (B : Nat) (w : World) (v : Value) (SS : List (List CallS)) : Prop :=
 ∃ vs : List Value, w.ownsRow B 35 1 v SS.length vs ∧ ∀ i, i < SS.length → CallsO w0 B w (vs.getD i undef) (SS.getD i [])
theorem LevO.nil (w0 : World) (B : Nat) (w : World) : LevO w0 B w (.slice none 0 0) [] := ⟨[], World.ownsRow_nil _ _ _ _, fun i hi => by simp at hi⟩
theorem LevO.below {w0 w w' : World} {B : Nat} {v : Value} {SS : List (List CallS)} (h : LevO w0 B w v SS) (hw : w0.heap.size ≤ w.heap.size) (k : Below w.heap.size w w') : LevO w0 B w' v SS := by
 obtain ⟨vs, ho, hx⟩ := h
 exact ⟨vs, ownsRow_same' ho (fun g _ g2 => k.block g g2), fun i hi => (hx i hi).below hw k⟩
theorem LevO.le {w0 w : World} {B b : Nat} {v : Value} {SS : List (List CallS)} (h : LevO w0 B w v SS) (hb : b ≤ B) : LevO w0 b w v SS := by
 obtain ⟨vs, ho, hx⟩ := h
 exact ⟨vs, ownsRow_le ho hb, fun i hi => (hx i hi).le hb⟩
theorem LevO.snoc {w0 w w' : World} {B : Nat} {v v' x : Value} {SS : List (List CallS)} {S : List CallS} {vs : List Value} (ho : w.ownsRow B 35 1 v SS.length vs) (hx : ∀ i, i < SS.length → CallsO w0 B w (vs.getD i undef) (SS.getD i [])) (hz : CallsO w0 B w x S)
  (ho' : w'.ownsRow B 35 1 v' (SS.length + 1) (vs ++ [x])) (hb : w0.heap.size ≤ B) (hk : KB B w w') (hsp : Spare (fun k => v.ownBlock ≠ some k) w w') : LevO w0 B w' v' (SS ++ [S]) := by
 have hl : vs.length = SS.length := by have := ho.1; simpa using this
 have one : ∀ u S, CallsO w0 B w u S → CallsO w0 B w' u S := fun u S h => by
  refine h.kb hb hk fun g hg => ?_
  obtain ⟨cs, -, h2, -⟩ := h
  exact own_spare ho h2 (by decide) hsp g hg
 refine ⟨vs ++ [x], by simpa using ho', fun i hi => ?_⟩
 simp only [List.length_append, List.length_singleton] at hi
 rw [getD_snoc, getD_snoc, hl]
 by_cases h : i < SS.length
 ·rw [if_pos h, if_pos h]; exact one _ _ (hx i h)
 ·rw [if_neg h, if_neg h, if_pos (by omega), if_pos (by omega)]; exact one _ _ hz
theorem info_call : (Tryz.prog.info? 25).map (fun i => (i.zero, i.size, i.bytes)) = some (some (.agg #[.int .i64 0, .slice none 0 0, .slice none 0 0, .bool false, .int .i64 0, .slice none 0 0]), 6, 96) := by kernel_rfl
theorem info_calls : (Tryz.prog.info? 35).map (fun i => (i.zero, i.size, i.bytes)) = some (some (.slice none 0 0), 1, 24) := by kernel_rfl
theorem wpList_buildC {ops : Array Oper} {rest : List Oper} {o : Oper} {act : Act} {w : World} {Q : Exit → Act → World → Prop} (hg : o.guard = none) (x : Operand) (ho : o.op = .buildSlice 35 1 #[(0, x)]) (x0 x1 x2 x3 x4 x5 : Value) (hx : act.eval x = .agg #[x0, x1, x2, x3, x4, x5])
  (h : wpList Tryz.prog ops Q rest (act.put o.dst (.slice (some ⟨w.heap.size, 0, none⟩) 1 1)) (w.alloc (.cells #[x0, x1, x2, x3, x4, x5] 25))) : wpList Tryz.prog ops Q (o :: rest) act w := by
 obtain ⟨ib, hib, hzb, hsb, -⟩ := info_parts info_call
 exact wpList_buildSlice hg 35 25 1 _ ho #[x0, x1, x2, x3, x4, x5] ib _ Tryz.underlying35 hib hzb (by rw [hsb]; decide) (by rw [hsb]; decide) (by rw [hsb, show Array.range (1 * 6) = #[0, 1, 2, 3, 4, 5] by decide]; simp [hx, Instr.fill, Value.cells]) h
theorem wpList_buildL {ops : Array Oper} {rest : List Oper} {o : Oper} {act : Act} {w : World} {Q : Exit → Act → World → Prop} (hg : o.guard = none) (x : Operand) (ho : o.op = .buildSlice 64 1 #[(0, x)]) (a : Option Addr) (n k : Nat) (hx : act.eval x = .slice a n k)
  (h : wpList Tryz.prog ops Q rest (act.put o.dst (.slice (some ⟨w.heap.size, 0, none⟩) 1 1)) (w.alloc (.cells #[.slice a n k] 35))) : wpList Tryz.prog ops Q (o :: rest) act w := by
 obtain ⟨ib, hib, hzb, hsb, -⟩ := info_parts info_calls
 exact wpList_buildSlice hg 64 35 1 _ ho #[.slice a n k] ib _ Tryz.underlying64 hib hzb (by rw [hsb]; decide) (by rw [hsb]; decide) (by rw [hsb, show Array.range (1 * 1) = #[0] by decide]; simp [hx, Instr.fill, Value.cells]) h
/-- A node's call. -/
def TreeV.callS (t : TreeV) (kz z1 z2 : List Int) (row i : Nat) (la rt : Bool) (d : List Int) : CallS := ⟨t.k, t.blk z1 z2 row i, keyL row kz, la, t.outN rt, d⟩
/-- A row's calls, the first m. -/
def TreeV.rowC (t : TreeV) (kz z1 z2 : List Int) (row : Nat) (rt : Bool) (L : List (List Int)) (m : Nat) : List CallS := (List.range m).map fun i => t.callS kz z1 z2 row i (decide (i + 1 = L.length)) rt (nthL L i)
theorem TreeV.rowC_succ (t : TreeV) (kz z1 z2 : List Int) (row : Nat) (rt : Bool) (L : List (List Int)) (m : Nat) : t.rowC kz z1 z2 row rt L (m + 1) = t.rowC kz z1 z2 row rt L m ++ [t.callS kz z1 z2 row m (decide (m + 1 = L.length)) rt (nthL L m)] := by simp [TreeV.rowC, List.range_succ]
theorem TreeV.rowC_length (t : TreeV) (kz z1 z2 : List Int) (row : Nat) (rt : Bool) (L : List (List Int)) (m : Nat) : (t.rowC kz z1 z2 row rt L m).length = m := by simp [TreeV.rowC]
theorem cutZ_len {n : Nat} (zs : List Int) (hn : 1 ≤ n) : 1 ≤ (cutZ n zs).length ∧ (cutZ n zs).length ≤ zs.length + 1 := by
 unfold cutZ
 split
 ·exact ⟨Nat.le_refl _, by simp⟩
 ·rename_i h
  have h1 := List.length_pos_iff.2 h
  rw [pieces_length]
  have := cdiv_le (n := zs.length) hn
  have := cdiv_pos (d := n) (show 1 ≤ zs.length from h1)
  omega
theorem cutZ_nth {n : Nat} (zs : List Int) (i : Nat) : (nthL (cutZ n zs) i).length ≤ zs.length := by
 unfold cutZ
 split
 ·cases i <;> simp [nthL]
 ·unfold nthL pieces
  rw [List.getD_eq_getElem?_getD, List.getElem?_map]
  cases (List.range (cdiv zs.length n))[i]? with
  | none => simp
  | some j => exact (piece_sub n zs j).length_le
theorem leaves_ok (t : TreeV) (kz z1 z2 zs : List Int) (v : Value) (w : World) (h : TreeOk t kz z1 z2 w) (hv : Hold w v zs) (hn : zs.length ≤ 4194304) :
  Calls Tryz.prog 24 #[t.val, v] w fun e w' => ∃ u, e = .returned (.tuple #[u, .int .i64 0]) ∧ ListO w.heap.size w' u (t.rowZ kz z1 z2 0 false (cutZ t.ln zs) (cutZ t.ln zs).length) ∧ Below w.heap.size w w' := by
 obtain ⟨b0, hb0⟩ : ∃ b0, w.heap.size = b0 := ⟨_, rfl⟩
 have HT := hid h
 have HV := hid hv
 obtain ⟨ib, hib, hzb, hsb, hbb⟩ := info_parts info_bytes
 have hvl := valid_any t
 simp only [h.v] at hvl
 have HVL := hid hvl
 obtain ⟨va, vc, rfl, -, -⟩ := hv.slice
 have hbA : Below b0 w (w.alloc (.cells #[.int .i64 t.k, .int .i64 t.d, .int .i64 t.f, .int .i64 t.p, .int .u32 t.l, .int .i64 t.i, .slice t.ka t.kl t.kc, .slice t.sa t.sl t.sc, .slice t.pa t.pl t.pc] 34)) := by rw [← hb0]; exact (Below.refl _ _).alloc (Nat.le_refl _) _
 have hrA := World.alloc_heap_new w (.cells #[.int .i64 t.k, .int .i64 t.d, .int .i64 t.f, .int .i64 t.p, .int .u32 t.l, .int .i64 t.i, .slice t.ka t.kl t.kc, .slice t.sa t.sl t.sc, .slice t.pa t.pl t.pc] 34)
 rw [hb0] at hrA
 have hln : 1 ≤ t.ln := by
  have := (TreeV.valid_facts h.v).2.2.2.2.2.2.2.2.1
  have := h.l
  unfold TreeV.ln; omega
 have hcl := cutZ_len zs hln
 have hcn := fun i => cutZ_nth (n := t.ln) zs i
 have HCN := hid hcn
 have HCU := hid (fun (W : World) (hb : Below b0 w W) => cut_ok t h.v h.l zs (.slice va zs.length vc) W (hv.below (hb0 ▸ hb)) (by omega))
 generalize cutZ t.ln zs = L at *
 clear h hv hvl hln hcn
 unfold TreeV.val
 go_enter Tryz.func24, Tryz.ntmps24
 go_upto_region 1 with (fail)
 generalize w.alloc (.cells #[.int .i64 t.k, .int .i64 t.d, .int .i64 t.f, .int .i64 t.p, .int .u32 t.l, .int .i64 t.i, .slice t.ka t.kl t.kc, .slice t.sa t.sl t.sc, .slice t.pa t.pl t.pc] 34) = wA at *
 go_wp2_with ((with_reducible show wpList _ _ _ (Oper.mk _ (Op.load 34 _) _ _ _ _ :: _) _ _); refine wpList_load_row rfl 34 _ rfl b0 rfl _ _ _ _ hrA Tryz.underlying34 rfl (by kernel_rfl) ?_)
 refine (HVL.out wA).mono ?_; rintro e w2 ⟨rfl, hb2⟩
 have hr2 := rowStay hrA hb2
 have hB2 : Below b0 w w2 := hbA.trans (hb2.mono (by have := (Array.getElem?_eq_some_iff.1 hrA).1; omega))
 clear hrA hbA hb2
 go_wp2_with ((with_reducible show wpList _ _ _ (Oper.mk _ (Op.load 34 _) _ _ _ _ :: _) _ _); refine wpList_load_row rfl 34 _ rfl b0 rfl _ _ _ _ hr2 Tryz.underlying34 rfl (by kernel_rfl) ?_)
 refine (HCU.out w2 hB2).mono ?_; rintro e w3 ⟨lv, rfl, hlo, hb3⟩
 have hr3 := rowStay hr2 hb3
 have hb02 := (Array.getElem?_eq_some_iff.1 hr2).1
 have hs3 := hb3.size
 have HLO := hid (hlo.le (show b0 ≤ w2.heap.size by omega))
 have HB3 := hid (hB2.trans (hb3.mono (by omega)))
 have HR3 := hid hr3
 obtain ⟨la, lc, rfl, hlc1, hlc2, -⟩ := hlo.hold
 clear hr2 hB2 hlo hb3 hr3 HVL HCU
 obtain ⟨bL, hbL⟩ : ∃ bL, w3.heap.size = bL := ⟨_, rfl⟩
 go_wp2_with fail
 go_loopw [7, 23] (fun s i wr => ∃ j : Nat, i = .int .i64 (j : Nat) ∧ j ≤ L.length ∧ ListO bL wr s (t.rowZ kz z1 z2 0 false L j) ∧ Below bL w3 wr) (fun _ i _ => L.length - (intOf i).toNat)
 case atStart => exact ⟨0, rfl, Nat.zero_le _, ListO.nil _ _, Below.refl _ _⟩
 case round =>
  obtain ⟨j, rfl, hj, ho, hb⟩ := hrel
  by_cases hlt : j < L.length
  case pos =>
   obtain ⟨la', lc', e, -, -, h3⟩ := (HLO.out.below (hbL ▸ hb)).hold
   obtain ⟨g, off, rfl, h4, h5⟩ := h3.resolve_left (fun e => by rw [e] at hlt; simp at hlt)
   simp only [Value.slice.injEq] at e
   obtain ⟨rfl, -, -⟩ := e
   obtain ⟨x, hx, hxh⟩ := h5 j hlt
   obtain ⟨xa, xc, rfl, -, -⟩ := hxh.slice
   have hlt2 : (j : Int) < L.length := by omega
   have hLn : (L.length : Int) ≤ 16777216 := by omega
   have hxl := HCN.out j
   have HXL := hid hxl
   obtain ⟨ql, hql⟩ : ∃ q : Bool, decide (j + 1 = L.length) = q := ⟨_, rfl⟩
   have hla : ((j : Int) == (L.length : Int) - 1) = ql := by
    rw [← hql, Bool.eq_iff_iff, beq_iff_eq, decide_eq_true_eq]; omega
   have HQL := hid hql
   have hju : IntKind.u64.wrap (j : Int) = (j : Int) := u64_wrap_id _ (by omega) (by omega)
   obtain ⟨vs, hvo, hvx⟩ := ho
   have hvl : vs.length = j := by have := hvo.1; rw [TreeV.rowZ_length] at this; omega
   rw [TreeV.rowZ_length] at hvo hvx
   have HVX := hid hvx
   obtain ⟨a8, n8, k8, rfl⟩ := own_slice hvo
   have HVO := hid hvo
   have HB := hid hb
   have HXH := hid hxh
   have hrr : wr.heap[b0]? = some (.cells #[.int .i64 t.k, .int .i64 t.d, .int .i64 t.f, .int .i64 t.p, .int .u32 t.l, .int .i64 t.i, .slice t.ka t.kl t.kc, .slice t.sa t.sl t.sc, .slice t.pa t.pl t.pc] 34 (0, 0)) := rowStay HR3.out (hbL ▸ hb)
   have hTr := HT.out.below (hb0 ▸ (HB3.out.trans (hb.mono (by omega))))
   have HTR := hid hTr
   have hbLr : bL ≤ wr.heap.size := by have := hb.size; omega
   clear hvo hvx hxl hql h5 h3 hxh hb hTr
   go_wp2_with ((with_reducible show wpList _ _ _ (Oper.mk _ (Op.load 34 _) _ _ _ _ :: _) _ _); refine wpList_load_row rfl 34 _ rfl b0 rfl _ _ _ _ hrr Tryz.underlying34 rfl (by kernel_rfl) ?_)
   refine (treeCall_ok t HTR.out.v HTR.out.l z1 z2 kz 0 j (by omega) (by omega) ql false xa (nthL L j).length xc wr HTR.out.s HTR.out.p HTR.out.k).mono ?_; rintro e w4 ⟨bv, kv, rfl, hbo, hko, hb4⟩
   have HX4 := hid (HXH.out.below hb4)
   have HBO := hid hbo
   have HKO := hid hko
   have HB4 := hid hb4
   clear hbo hko hb4
   go_wp2_with fail
   refine (node_ok HTR.out (row := 0) (at_ := j) (by omega) (by omega) ql false (nthL L j) (.slice xa (nthL L j).length xc) bv kv w4 wr.heap.size HBO.out HKO.out HX4.out (by have := HXL.out; omega)).mono ?_; rintro e w5 ⟨u, rfl, hO, hb5⟩
   obtain ⟨a6, k6, rfl, -, -⟩ := hO.hold.slice
   have hs4 := HB4.out.size
   have hs5 := hb5.size
   have HK5 := hid ((KB.of_below HB4.out hbLr).trans (KB.of_below hb5 (by omega)))
   have HO5 := hid (hO.le (show bL ≤ w4.heap.size by omega))
   have HV5 := hid (show w5.ownsRow bL 23 1 (.slice a8 n8 k8) j vs from ownsRow_same' (ownsRow_same' HVO.out (fun g _ g2 => HB4.out.block g g2)) (fun g _ g2 => hb5.block g g2))
   have hNd : t.node kz z1 z2 0 j ql false (nthL L j) = t.node kz z1 z2 0 j (decide (j + 1 = L.length)) false (nthL L j) := by rw [HQL.out]
   have HND := hid hNd
   generalize t.node kz z1 z2 0 j ql false (nthL L j) = N at *
   clear hb5 hO hNd HBO HKO HX4
   go_wp2_with (first | ((with_reducible show wpList _ _ _ (Oper.mk _ (Op.buildSlice _ _ _) _ _ _ _ :: _) _ _); refine wpList_build1 rfl _ rfl _ _ _ rfl ?_) | (at_builtin; refine wpList_push rfl _ _ _ rfl bL 23 (by decide) ib (.slice none 0 0) 1 24 Tryz.underlying54 hib hzb hsb hbb rfl (by decide) (.slice a8 n8 k8) j vs [.slice a6 N.length k6] _ rfl HV5.out rfl rfl (by simp [Value.oneCell']) (by unfold maxLen; omega) (by omega) (by omega) ?_; intro v' w' hown' hkb' hsp'))
   refine ⟨⟨j + 1, rfl, by omega, ?_, HB.out.trans (HK5.out.trans hkb').below⟩, by simp [intOf]; omega⟩
   rw [TreeV.rowZ_succ, ← HND.out]
   refine ListO.snoc (w := w5) (vs := vs) (x := .slice a6 N.length k6) (fun i hi => ?_) (by rw [TreeV.rowZ_length]; exact hvl) HO5.out (by rw [TreeV.rowZ_length]; exact hown') hkb'
   rw [TreeV.rowZ_length] at hi
   exact (HVX.out i hi).kb HK5.out
  obtain rfl : j = L.length := by omega
  have HO := hid (ho.le (show b0 ≤ bL by omega))
  have HB := hid (HB3.out.trans (hb.mono (show b0 ≤ bL by omega)))
  clear ho hb
  go_wp2
  go_ret2
  exact ⟨_, rfl, by rw [hb0]; exact HO.out, by rw [hb0]; exact HB.out⟩
theorem rNode_msg {big : Bool} {W : World} {np : Nat} {v : Nat → Nat} {sa pe kv mv x : Value} {la : Bool} {cnt : Int} (h : rNode big W np v sa pe kv la mv cnt) : rNode big (W.setCell ⟨np, 33, none⟩ x) np v sa pe kv la x cnt := heap_setCell_same W np 33 _ _ x h
theorem rNode_cnt {big : Bool} {W : World} {np : Nat} {v : Nat → Nat} {sa pe kv mv : Value} {la : Bool} {cnt x : Int} (h : rNode big W np v sa pe kv la mv cnt) : rNode big (W.setCell ⟨np, 34, none⟩ (.int .u64 x)) np v sa pe kv la mv x := heap_setCell_same W np 34 _ _ _ h
theorem rNode_last {big : Bool} {W : World} {np : Nat} {v : Nat → Nat} {sa pe kv mv : Value} {la b : Bool} {cnt : Int} (h : rNode big W np v sa pe kv la mv cnt) : rNode big (W.setCell ⟨np, 13, none⟩ (.bool b)) np v sa pe kv b mv cnt := heap_setCell_same W np 13 _ _ _ h
theorem own_lt {W : World} {n b : Nat} {v : Value} {xs : List Value} (h : W.ownsRow 0 5 1 v n xs) (hb : v.ownBlock = some b) : b < W.heap.size := by
 rcases h.2 with ⟨rfl, -⟩ | ⟨g, cap, cur, rfl, h1, h2, -⟩
 ·cases hb
 ·simp only [Value.ownBlock, Option.some.injEq] at hb
  subst hb; exact (Array.getElem?_eq_some_iff.1 h2).1
theorem refWrite_any (big : Bool) (v : Nat → Nat) (msg bs : List Int) (sa pe kv mv bv : Value) (la : Bool) (cnt : Int) (np : Nat) (w : World) (hN : rNode big w np v sa pe kv la mv cnt) (hO : w.ownsRow 0 5 1 mv msg.length (msg.map encB)) (hH : Hold w bv bs) (hF : bs ≠ [] → ∀ b, bv.ownBlock = some b → FreeOf np mv b) (hlen : (msg.length : Int) + bs.length ≤ 140737488355328) :
  Calls Tryz.prog 67 #[.pointer (some ⟨np, 0, none⟩), bv] w fun e w' => e = .returned (.tuple #[]) ∧ (∃ mv' cnt', rNode big w' np v sa pe kv la mv' cnt' ∧ w'.ownsRow 0 5 1 mv' (msg ++ bs).length ((msg ++ bs).map encB)) ∧ Spare (FreeOf np mv) w w' := by
 obtain ⟨i0, hi, hz0, hz1, hz2⟩ := info_parts info_u8
 have hnp : np < w.heap.size := (Array.getElem?_eq_some_iff.1 hN).1
 obtain ⟨ba, bc, rfl, hbc1, hbc2⟩ := hH.slice
 obtain ⟨S, hS⟩ : ∃ S, FreeOf np mv = S := ⟨_, rfl⟩
 rw [hS]
 have HN_ := hid hN
 have HO_ := hid hO
 have HH_ := hid hH
 have HF_ := hid hF
 have HS_ := hid hS
 clear hN hO hH hF hS hbc1
 have hbl : (bs.length : Int) ≤ 140737488355328 := by omega
 go_enter Tryz.func67, Tryz.ntmps67
 go_wp2_with fail
 go_loopw [4] (fun i wr => ∃ j : Nat, i = .int .i64 (j : Nat) ∧ j ≤ bs.length ∧ (∃ mv', rNode big wr np v sa pe kv la mv' cnt ∧ wr.ownsRow 0 5 1 mv' (msg.length + j) ((msg ++ bs.take j).map encB) ∧ (mv'.ownBlock = mv.ownBlock ∨ ∀ g, mv'.ownBlock = some g → w.heap.size ≤ g)) ∧ Spare S w wr) (fun i _ => bs.length - (intOf i).toNat)
 case atStart => exact ⟨0, rfl, Nat.zero_le _, ⟨mv, HN_.out, by simpa using HO_.out, .inl rfl⟩, Spare.refl _ _⟩
 case round =>
  obtain ⟨j, rfl, hj, ⟨mv1, hn, ho, hw⟩, hsp⟩ := hrel
  obtain ⟨a1, n1, c1, rfl⟩ := own_slice ho
  have hn1 : n1 = msg.length + j := own_len ho
  subst hn1
  have hnw : np < wr.heap.size := (Array.getElem?_eq_some_iff.1 hn).1
  have HNr := hid hn
  have HOr := hid ho
  have HWr := hid hw
  have HSPr := hid hsp
  by_cases hlt : j < bs.length
  case neg =>
   obtain rfl : j = bs.length := by omega
   have c34 : wr.cell? ⟨np, 34, none⟩ = some (.int .u64 cnt) := cell_of_heap hn 34
   have f34 := frozen_of_row wr np 34 _ _ hn
   clear hn ho hw hsp
   go_wp2
   go_end0
   have hbt := (But.refl np wr).set 34 (.int .u64 (IntKind.u64.wrap (cnt + (bs.length : Int))))
   refine ⟨rfl, ⟨_, _, rNode_cnt HNr.out, ?_⟩, HSPr.out.trans (Spare.of_but ((But.refl np wr).set 34 _)) (fun b _ hb => by have h2 := HS_.out; subst h2; exact hb.1)⟩
   have h1 := HOr.out
   rw [List.take_length] at h1
   rw [List.length_append]
   exact own_but h1 ((But.refl np wr).set 34 _) HNr.out (by decide)
  have hne : bs ≠ [] := fun e => by rw [e] at hlt; simp at hlt
  have hbh : Hold wr (.slice ba bs.length bc) bs := hold_spare HH_.out HH_.out rfl (Spare.refl S w) hsp (fun b hb => by have h4 := HS_.out; subst h4; exact HF_.out hne b hb) hne
  obtain ⟨bb, of', rfl, q1, q2, q3, q4⟩ := hold_nth' hbh (Below.refl _ _) hlt
  have hjj : (j : Int) < bs.length := by omega
  have hbt : msg ++ bs.take (j + 1) = (msg ++ bs.take j) ++ [nthz bs j] := by rw [take_snoc hlt, List.append_assoc]
  have HBT := hid hbt
  have HBH := hid hbh
  obtain ⟨z, hz⟩ : ∃ z, nthz bs j = z := ⟨_, rfl⟩
  rw [hz] at q2 q3 q4
  have HZ := hid hz
  have Q2 := hid q2
  have hml : (msg.length : Int) + j < 140737488355328 := by omega
  clear hn ho hw hsp hbt hbh hz q2
  go_upto_region 3 with (fail)
  have hread : ∀ (W : World) (f : Bool), ((f = false → Below wr.heap.size wr W) ∧ (f = true → W.heap[np]? = some (.cells (rN (kB big) v sa pe kv la (.slice a1 (msg.length + j) c1) cnt) 125 (0, 0)) ∧ Spare (fun b => (Value.slice a1 (msg.length + j) c1).ownBlock ≠ some b) wr W)) → W.cell? ⟨bb, of' + j, none⟩ = some (.int .u8 z) := fun W f hR => by
   cases f
   ·exact ((hR.1 rfl).cell (p := ⟨bb, of' + j, none⟩) q1).trans Q2.out
   ·refine (World.cell?_of_block ((hR.2 rfl).2.block bb q1 ?_)).trans Q2.out
    have h4 := HS_.out; subst h4
    have h5 := (HF_.out hne bb rfl).2
    rcases HWr.out with h6 | h6
    ·rw [h6]; exact h5
    ·intro e; have := h6 bb e; have h7 : bb < w.heap.size := hold_own HH_.out hne rfl; omega
  have hsize : ∀ (W : World) (f : Bool), ((f = false → Below wr.heap.size wr W) ∧ (f = true → W.heap[np]? = some (.cells (rN (kB big) v sa pe kv la (.slice a1 (msg.length + j) c1) cnt) 125 (0, 0)) ∧ Spare (fun b => (Value.slice a1 (msg.length + j) c1).ownBlock ≠ some b) wr W)) → bb < W.heap.size := fun W f hR => by
   cases f
   ·exact Nat.lt_of_lt_of_le q1 (hR.1 rfl).size
   ·exact Nat.lt_of_lt_of_le q1 (hR.2 rfl).2.size
  have hsize2 : ∀ (W : World) (f : Bool), ((f = false → Below wr.heap.size wr W) ∧ (f = true → W.heap[np]? = some (.cells (rN (kB big) v sa pe kv la (.slice a1 (msg.length + j) c1) cnt) 125 (0, 0)) ∧ Spare (fun b => (Value.slice a1 (msg.length + j) c1).ownBlock ≠ some b) wr W)) → wr.heap.size ≤ W.heap.size := fun W f hR => by
   cases f
   ·exact (hR.1 rfl).size
   ·exact (hR.2 rfl).2.size
  refine wp_region_otc (n := 11) (fun f W => (f = false → Below wr.heap.size wr W) ∧ (f = true → W.heap[np]? = some (.cells (rN (kB big) v sa pe kv la (.slice a1 (msg.length + j) c1) cnt) 125 (0, 0)) ∧ Spare (fun b => (Value.slice a1 (msg.length + j) c1).ownBlock ≠ some b) wr W)) 10 [.v 11 (.pointer (some ⟨np, 0, none⟩)), .v 12 (.pointer (some ⟨np, 0, none⟩)), .v 13 (.pointer (some ⟨np, 0, none⟩)), .v 14 (.pointer (some ⟨np, 33, none⟩)), .v 15 (.slice a1 (msg.length + j) c1), .v 16 (.slice (some ⟨bb, of', none⟩) bs.length bc), .v 17 (.int .i64 (j : Nat)), .v 18 (.pointer (some ⟨bb, of' + j, none⟩)), .v 19 (.int .u8 z), .p 20 (fun u W => ∃ q, u = .slice (some ⟨q, 0, none⟩) 1 1 ∧ wr.heap.size ≤ q ∧ W.heap[q]? = some (.cells #[.int .u8 z] 5 (0, 0))), .p 21 (fun u W => W.ownsRow 0 5 1 u (msg.length + (j + 1)) ((msg ++ bs.take (j + 1)).map encB) ∧ (u.ownBlock = (Value.slice a1 (msg.length + j) c1).ownBlock ∨ ∀ g, u.ownBlock = some g → wr.heap.size ≤ g))] (by exact ⟨(fun _ _ hb _ h => by obtain ⟨q, e, h1, h2⟩ := h; exact ⟨q, e, h1, rowStay h2 hb⟩), (fun _ _ hb u h => ⟨ownsRow_same' h.1 (fun g _ hg => hb.block g hg), h.2⟩), trivial⟩) ⟨fun _ => (Below.refl _ _).drew, fun h => (by cases h)⟩ (fun f W W' h hb => ⟨fun e => (h.1 e).trans (hb.mono (h.1 e).size), fun e => ⟨rowStay (h.2 e).1 hb, (h.2 e).2.trans (Spare.of_below _ hb) (fun _ _ h => h)⟩⟩) ?_ ?_ ?_
  ·repeat' (with_reducible first | exact eachO_nil | refine eachO_cons ?_ ?_)
   all_goals try
    refine .inr ?_
    intro A x W f hA hR hf hdep D K hK
    have a0 := hA.2 0 (by decide)
    conv at a0 => rhs; whnf
    have a1 := hA.2 1 (by decide)
    conv at a1 => rhs; whnf
    have a4 := hA.2 4 (by decide)
    conv at a4 => rhs; whnf
    simp only [DepF, nthF] at D
    clear hdep hA
    first
    | go_simp
      exact hK _ _ BR rfl
    | have y0 : W.cell? ⟨bb, of' + j, none⟩ = some (.int .u8 z) := hread W f hR
      have y1 : bb < W.heap.size := hsize W f hR
      go_simp
      exact hK _ _ BR rfl
   any_goals exact .inl rfl
   all_goals refine .inr ?_
   ·intro A x W f hA hR hf hdep _ K hK
    have g14 := gw hA hdep 3 14
    clear hdep hA
    have hf0 : f = false := hf (by kernel_rfl)
    have g0 := rowStay HNr.out (hR.1 hf0)
    have c0 : W.cell? ⟨np, 33, none⟩ = some (.slice a1 (msg.length + j) c1) := cell_of_heap g0 33
    go_simp
    exact hK _ _ BR rfl
   ·intro A x W f hA hR hf hdep _ K hK
    have g19 := gw hA hdep 8 19
    clear hdep hA
    have g19' : A.tmps[19]?.getD undef = .int .u8 z := by rw [← Array.getD_eq_getD_getElem?]; exact g19
    go_simp
    exact hK _ _ ((Below.refl _ _).alloc (Nat.le_refl _) _) ⟨W.heap.size, rfl, hsize2 W f hR, World.alloc_heap_new W _⟩
  ·intro A x W hA hR hdep K hK
   have g15 := gw hA hdep 4 15
   have g20 : (fun u W => ∃ q, u = .slice (some ⟨q, 0, none⟩) 1 1 ∧ wr.heap.size ≤ q ∧ W.heap[q]? = some (.cells #[.int .u8 z] 5 (0, 0))) (x 20) W := hdep ⟨9, .data⟩ (by simp) rfl
   have a20 : A.tmps.getD 20 undef = x 20 := hA.1 20 (by decide)
   clear hdep hA
   have hB := hR.1 rfl
   have ho := ownsRow_same' HOr.out (fun g _ hg => hB.block g hg)
   have g0 := rowStay HNr.out hB
   obtain ⟨qb, eq, hq1, hq2⟩ := g20
   refine wp_append_src2 _ _ 23 rfl 0 5 i0 (.int .u8 0) 1 Tryz.underlying23 hi hz0 hz1 hz2 rfl (.slice a1 (msg.length + j) c1) (msg.length + j) ((msg ++ bs.take j).map encB) g15 ho (.slice (some ⟨qb, 0, none⟩) 1 1) 1 [.int .u8 z] (a20.trans eq) ⟨rfl, by simp [Value.oneCell'], .inr ⟨⟨qb, 0, none⟩, 1, rfl, src_row hq2⟩⟩ (by unfold maxLen; omega) (by omega) (Nat.zero_le _) ?_
   intro v' w' h1 h2 h3
   have h4 : w'.heap[np]? = some (.cells (rN (kB big) v sa pe kv la (.slice a1 (msg.length + j) c1) cnt) 125 (0, 0)) := (h2.block np (Array.getElem?_eq_some_iff.1 g0).1 (own_ne ho g0 (by decide))).trans g0
   have h5 : w'.ownsRow 0 5 1 v' (msg.length + (j + 1)) ((msg ++ bs.take (j + 1)).map encB) := by rw [HBT.out, HZ.out, List.map_append, ← Nat.add_assoc]; exact h1
   have h6 : ∀ b, (Value.slice a1 (msg.length + j) c1).ownBlock = some b → b < wr.heap.size := fun b hb => own_lt HOr.out hb
   refine hK v' w' (fun h => by cases h) ⟨fun h => (by cases h), fun _ => ⟨h4, (Spare.of_below _ hB).trans (Spare.of_grown h2) (fun _ _ h => h)⟩⟩ ⟨.inr (fun _ h => h), .inr (fun _ h => h), .inr (fun _ h => h), .inr (fun _ h => h), .inr (fun _ h => h), .inr (fun _ h => h), .inr (fun _ h => h), .inr (fun _ h => h), .inr (fun _ h => h), .inr (fun u h => by obtain ⟨q, e, k1, k2⟩ := h; exact ⟨q, e, k1, (h2.block q (Array.getElem?_eq_some_iff.1 k2).1 (fun e2 => by have := h6 q e2.symm; omega)).trans k2⟩), .inl rfl, trivial⟩ ⟨h5, ?_⟩
   rcases h3 with h3 | h3
   ·exact .inl h3
   ·refine .inr fun g hg => ?_
    rw [h3] at hg; cases hg; exact hB.size
  intro x W hR hall
  obtain ⟨e20, e21, -⟩ := hall
  change (fun u W => ∃ q, u = .slice (some ⟨q, 0, none⟩) 1 1 ∧ wr.heap.size ≤ q ∧ W.heap[q]? = some (.cells #[.int .u8 z] 5 (0, 0))) (x 20) W at e20
  change ((fun u W => W.ownsRow 0 5 1 u (msg.length + (j + 1)) ((msg ++ bs.take (j + 1)).map encB) ∧ (u.ownBlock = (Value.slice a1 (msg.length + j) c1).ownBlock ∨ ∀ g, u.ownBlock = some g → wr.heap.size ≤ g))) (x 21) W at e21
  obtain ⟨hr7, hsp7⟩ := hR.2 rfl
  obtain ⟨ho7, how7⟩ := e21
  obtain ⟨a3, n3, c3, e21⟩ := own_slice ho7
  rw [e21] at ho7 how7
  obtain rfl : n3 = msg.length + (j + 1) := own_len ho7
  refine thenTail_cons ?_
  simp only [layS, Act.put, List.setIfInBounds_toArray, List.set_cons_zero, List.set_cons_succ, e21]
  clear e21 e20
  have c33 : W.cell? ⟨np, 33, none⟩ = some (.slice a1 (msg.length + j) c1) := cell_of_heap hr7 33
  have f33 := frozen_of_row W np 33 _ _ hr7
  have hnW : np < W.heap.size := (Array.getElem?_eq_some_iff.1 hr7).1
  have HR7 := hid hr7
  have HO7 := hid ho7
  have HOW7 := hid how7
  have HSP7 := hid hsp7
  clear hr7 ho7 how7 hsp7 hR hread hsize hsize2
  go_wp2_with fail
  refine thenTail_cons ?_
  go_wp2_with fail
  refine thenTail_cons ?_
  go_wp2_with fail
  refine thenTail_nil ?_
  have hb8 : But np W (W.setCell ⟨np, 33, none⟩ (.slice a3 (msg.length + (j + 1)) c3)) := (But.refl np W).set 33 _
  have HN8 := hid (show rNode big (W.setCell ⟨np, 33, none⟩ (.slice a3 (msg.length + (j + 1)) c3)) np v sa pe kv la (.slice a3 (msg.length + (j + 1)) c3) cnt from rNode_msg HR7.out)
  have HO8 := hid (own_but HO7.out hb8 HR7.out (by decide))
  have HW8 := hid (show (Value.slice a3 (msg.length + (j + 1)) c3).ownBlock = mv.ownBlock ∨ ∀ g, (Value.slice a3 (msg.length + (j + 1)) c3).ownBlock = some g → w.heap.size ≤ g from by
   rcases HOW7.out with h3 | h3
   ·rw [h3]; exact HWr.out
   ·exact .inr fun g hg => Nat.le_trans HSPr.out.size (h3 g hg))
  have hsp8 : Spare S w (W.setCell ⟨np, 33, none⟩ (.slice a3 (msg.length + (j + 1)) c3)) := by
   refine (HSPr.out.trans HSP7.out ?_).trans (Spare.of_but hb8) (fun b _ hb => by have h2 := HS_.out; subst h2; exact hb.1)
   intro b hb1 hb2
   have h2 := HS_.out; subst h2
   rcases HWr.out with h3 | h3
   ·rw [h3]; exact hb2.2
   ·intro e; have := h3 b e; omega
  have HSP8 := hid hsp8
  clear hb8 hsp8 c33 f33 hnW
  generalize W.setCell ⟨np, 33, none⟩ (.slice a3 (msg.length + (j + 1)) c3) = W8 at *
  go_wp2
  exact ⟨⟨j + 1, rfl, by omega, ⟨_, HN8.out, HO8.out, HW8.out⟩, HSP8.out⟩, by simp [intOf]; omega⟩
theorem refNew_ok (big : Bool) (v : Nat → Nat) (a1 a2 : Option Addr) (l1 l2 c1 c2 : Nat) (kz : List Int) (kv : Value) (w : World) (hP : ParOk big v) (hl1 : l1 ≤ sB big) (hl2 : l2 ≤ sB big) (hK : Hold w kv kz) (hkl : kz.length ≤ mB big) (hk : kz.length = 0 ∨ kz.length = v 2) :
  Calls Tryz.prog 65 #[.int .i64 (kB big), parN v (.slice a1 l1 c1) (.slice a2 l2 c2), kv] w fun e w' => ∃ np mv, e = .returned (.tuple #[.pointer (some ⟨np, 0, none⟩), .int .i64 0]) ∧ w.heap.size ≤ np ∧ rNode big w' np v (.slice a1 l1 c1) (.slice a2 l2 c2) kv false mv 0 ∧ w'.ownsRow w.heap.size 5 1 mv (keyZ (bB big) kz).length ((keyZ (bB big) kz).map encB) ∧ Below w.heap.size w w' := by
 obtain ⟨b0, hb0⟩ : ∃ b0, w.heap.size = b0 := ⟨_, rfl⟩
 obtain ⟨ka, kc, rfl, hkc1, hkc2⟩ := hK.slice
 have HCK := hid (refCheck_par hP a1 a2 c1 c2 hl1 hl2)
 have hbA : Below b0 w (w.alloc (.cells #[.int .i64 (v 1 : Nat), .int .i64 (v 2 : Nat), .int .i64 (v 3 : Nat), .int .i64 (v 4 : Nat), .int .u32 (v 5 : Nat), .int .u64 (v 6 : Nat), .int .u32 (v 7 : Nat), .int .i64 (v 8 : Nat), .int .i64 (v 9 : Nat), .slice a1 l1 c1, .slice a2 l2 c2] 76)) := by rw [← hb0]; exact (Below.refl _ _).alloc (Nat.le_refl _) _
 have hrA := World.alloc_heap_new w (.cells #[.int .i64 (v 1 : Nat), .int .i64 (v 2 : Nat), .int .i64 (v 3 : Nat), .int .i64 (v 4 : Nat), .int .u32 (v 5 : Nat), .int .u64 (v 6 : Nat), .int .u32 (v 7 : Nat), .int .i64 (v 8 : Nat), .int .i64 (v 9 : Nat), .slice a1 l1 c1, .slice a2 l2 c2] 76)
 rw [hb0] at hrA
 have hq : (((kz.length : Int) != 0) && ((kz.length : Int) != (v 2 : Nat))) = false := by rcases hk with h | h <;> simp [h]
 obtain ⟨q0, hq0⟩ : ∃ q, ((kz.length : Int) != 0) = q := ⟨_, rfl⟩
 obtain ⟨q1, hq1⟩ : ∃ q, ((kz.length : Int) != (v 2 : Nat)) = q := ⟨_, rfl⟩
 rw [hq0, hq1] at hq
 have HK_ := hid hK
 have HKL_ := hid hkl
 clear hP hl1 hl2 hK hkl hk hkc1 hkc2
 unfold parN parV
 unfold parN parV at HCK
 go_enter Tryz.func65, Tryz.ntmps65
 go_upto_region 1 with (fail)
 generalize w.alloc (.cells #[.int .i64 (v 1 : Nat), .int .i64 (v 2 : Nat), .int .i64 (v 3 : Nat), .int .i64 (v 4 : Nat), .int .u32 (v 5 : Nat), .int .u64 (v 6 : Nat), .int .u32 (v 7 : Nat), .int .i64 (v 8 : Nat), .int .i64 (v 9 : Nat), .slice a1 l1 c1, .slice a2 l2 c2] 76) = wA at *
 go_wp2_with ((with_reducible show wpList _ _ _ (Oper.mk _ (Op.load 76 _) _ _ _ _ :: _) _ _); refine wpList_load_row rfl 76 _ rfl b0 rfl _ _ _ _ hrA Tryz.underlying76 rfl (by kernel_rfl) ?_)
 refine (HCK.out wA).mono ?_; rintro e w1 ⟨rfl, hb1⟩
 have hr1 := rowStay hrA hb1
 have hs1 := hb1.size
 have hb0A : b0 < wA.heap.size := (Array.getElem?_eq_some_iff.1 hrA).1
 have hb01 : b0 < w1.heap.size := by omega
 have hbB : Below b0 w w1 := hbA.trans (hb1.mono (by omega))
 have c1k : w1.cell? ⟨b0, 1, none⟩ = some (.int .i64 (v 2 : Nat)) := cell_of_heap hr1 1
 have HBB := hid hbB
 have HR1 := hid hr1
 clear hb1 hbA hrA hbB hs1 hb0A HCK
 cases q0 <;> cases q1 <;> first | (exfalso; cases hq; done) | skip
 all_goals
  clear hq
  go_upto_region 7 with ((with_reducible show wpList _ _ _ (Oper.mk _ (Op.load 76 _) _ _ _ _ :: _) _ _); refine wpList_load_row rfl 76 _ rfl b0 rfl _ _ _ _ hr1 Tryz.underlying76 rfl (by kernel_rfl) ?_)
  change Code.wp _ _ _ _ (w1.alloc (.cells (rN (kB big) v (.slice a1 l1 c1) (.slice a2 l2 c2) (.slice ka kz.length kc) false (.slice none 0 0) 0) 125))
  have hN2 : rNode big (w1.alloc (.cells (rN (kB big) v (.slice a1 l1 c1) (.slice a2 l2 c2) (.slice ka kz.length kc) false (.slice none 0 0) 0) 125)) w1.heap.size v (.slice a1 l1 c1) (.slice a2 l2 c2) (.slice ka kz.length kc) false (.slice none 0 0) 0 := World.alloc_heap_new _ _
  have hb2 : Below b0 w (w1.alloc (.cells (rN (kB big) v (.slice a1 l1 c1) (.slice a2 l2 c2) (.slice ka kz.length kc) false (.slice none 0 0) 0) 125)) := HBB.out.alloc (by omega) _
  obtain ⟨np, hnp⟩ : ∃ np, w1.heap.size = np := ⟨_, rfl⟩
  rw [hnp] at hN2 hb01 ⊢
  generalize (w1.alloc (.cells (rN (kB big) v (.slice a1 l1 c1) (.slice a2 l2 c2) (.slice ka kz.length kc) false (.slice none 0 0) 0) 125)) = W2 at *
  have HN2 := hid hN2
  have HB2 := hid hb2
  have hks := (HK_.out.below (hb0 ▸ hb2))
  have HKS := hid hks
  have hs2 : np < W2.heap.size := (Array.getElem?_eq_some_iff.1 hN2).1
  clear hN2 hb2 hks c1k HR1 hr1 HBB
  go_wp2_with fail
  refine (refKeyed_ok big kz _ W2 HKS.out HKL_.out).mono ?_; rintro e w3 ⟨mv, rfl, ho, hb3⟩
  obtain ⟨ma, mn, mc, rfl⟩ := own_slice ho
  have hr3 := rowStay HN2.out hb3
  have c33 : w3.cell? ⟨np, 33, none⟩ = some (.slice none 0 0) := cell_of_heap hr3 33
  have f33 := frozen_of_row w3 np 33 _ _ hr3
  have hn3 : np < w3.heap.size := (Array.getElem?_eq_some_iff.1 hr3).1
  have hb4 : Below b0 w w3 := HB2.out.trans (hb3.mono (by omega))
  have hbn : But np w3 (w3.setCell ⟨np, 33, none⟩ (.slice ma mn mc)) := (But.refl np w3).set 33 _
  have ho5 : (w3.setCell ⟨np, 33, none⟩ (.slice ma mn mc)).ownsRow w.heap.size 5 1 (.slice ma mn mc) (keyZ (bB big) kz).length ((keyZ (bB big) kz).map encB) := by
   rcases ho.2 with ⟨h2, h3⟩ | ⟨g, cap, cur, h2, h3, h4, h5⟩
   ·exact ⟨ho.1, .inl ⟨h2, h3⟩⟩
   ·refine ⟨ho.1, .inr ⟨g, cap, cur, h2, by omega, ?_, h5⟩⟩
    rw [hbn.block g (Array.getElem?_eq_some_iff.1 h4).1 (by omega)]; exact h4
  have HF := hid (show rNode big (w3.setCell ⟨np, 33, none⟩ (.slice ma mn mc)) np v (.slice a1 l1 c1) (.slice a2 l2 c2) (.slice ka kz.length kc) false (.slice ma mn mc) 0 from rNode_msg hr3)
  have HO := hid ho5
  have HBF := hid (show Below b0 w (w3.setCell ⟨np, 33, none⟩ (.slice ma mn mc)) from hb4.setCell (by show b0 ≤ np; omega) _)
  clear ho hb3 hr3 hb4 hbn ho5
  go_wp2
  go_ret2
  exact ⟨np, _, rfl, by omega, HF.out, HO.out, by rw [hb0]; exact HBF.out⟩
end Go.Proofs.YtjogmckaakkomaaGreat
