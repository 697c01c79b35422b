/- The state at first, by the reference. No condition. -/
import Derived.Test.YtjogmckaakkomaaGreatK43
import Derived.Test.YtjogmckaakkomaaGreatK49
namespace Go.Proofs.YtjogmckaakkomaaGreat
open Go.ChangeShapes Go.WideShapes Go.ChangeAt Go.RowKit Go.Joins Go.Shelf Go.Maps
attribute [local go_sem] Oper.semAt_some

/-- The cells of the reference's node. -/
def rN (kd : Int) (v : Nat → Nat) (sa pe kv : Value) (la : Bool) (mv : Value) (cnt : Int) : Array Value := #[.int .i64 kd, .int .i64 (v 1 : Nat), .int .i64 (v 2 : Nat), .int .i64 (v 3 : Nat), .int .i64 (v 4 : Nat), .int .u32 (v 5 : Nat), .int .u64 (v 6 : Nat), .int .u32 (v 7 : Nat), .int .i64 (v 8 : Nat), .int .i64 (v 9 : Nat), sa, pe, kv, .bool la, .int .u64 0, .int .u64 0, .int .u64 0, .int .u64 0, .int .u64 0, .int .u64 0, .int .u64 0, .int .u64 0, .int .u64 0, .int .u64 0, .int .u64 0, .int .u64 0, .int .u64 0, .int .u64 0, .int .u64 0, .int .u64 0, .bool false, .int .u64 0, .int .u64 0, mv, .int .u64 cnt]
def rNode (big : Bool) (w : World) (np : Nat) (v : Nat → Nat) (sa pe kv : Value) (la : Bool) (mv : Value) (cnt : Int) : Prop := w.heap[np]? = some (.cells (rN (kB big) v sa pe kv la mv cnt) 125 (0, 0))
/-- The parameters' cells. -/
def parC (v : Nat → Nat) (sa pe : Value) : Array Value := #[.int .i64 (v 1 : Nat), .int .i64 (v 2 : Nat), .int .i64 (v 3 : Nat), .int .i64 (v 4 : Nat), .int .u32 (v 5 : Nat), .int .u64 (v 6 : Nat), .int .u32 (v 7 : Nat), .int .i64 (v 8 : Nat), .int .i64 (v 9 : Nat), sa, pe]
theorem rN_par (kd : Int) (v : Nat → Nat) (sa pe kv : Value) (la : Bool) (mv : Value) (cnt : Int) : ∀ j, j < (parC v sa pe).size → (rN kd v sa pe kv la mv cnt)[1 + j]? = (parC v sa pe)[j]? := by
 intro j hj
 have hj : j < 11 := hj
 rcases (show j = 0 ∨ j = 1 ∨ j = 2 ∨ j = 3 ∨ j = 4 ∨ j = 5 ∨ j = 6 ∨ j = 7 ∨ j = 8 ∨ j = 9 ∨ j = 10 by omega) with rfl | rfl | rfl | rfl | rfl | rfl | rfl | rfl | rfl | rfl | rfl <;> rfl
theorem setL_bounds {b zs : List Int} {p : Nat} (hb : ∀ z ∈ b, 0 ≤ z ∧ z ≤ 255) (hz : ∀ z ∈ zs, 0 ≤ z ∧ z ≤ 255) : ∀ z ∈ setL b p zs, 0 ≤ z ∧ z ≤ 255 := by
 intro z h
 unfold setL at h
 rcases List.mem_append.1 h with h | h
 ·rcases List.mem_append.1 h with h | h
  ·exact hb z (List.mem_of_mem_take h)
  ·exact hz z h
 ·exact hb z (List.mem_of_mem_drop h)
theorem encF_bounds (big x0 : Bool) (v : Nat → Nat) : ∀ k, ∀ z ∈ encF big x0 v k, 0 ≤ z ∧ z ≤ 255
 | 0, z, h => by rw [List.eq_of_mem_replicate h]; omega
 | k + 1, z, h => by
  rw [encF] at h
  split at h
  ·exact encF_bounds big x0 v k z h
  ·exact setL_bounds (encF_bounds big x0 v k) (bytesK_bounds _ _) z h
theorem blkP_bounds {big : Bool} {v : Nat → Nat} {z1 z2 : List Int} (h1 : ∀ z ∈ z1, 0 ≤ z ∧ z ≤ 255) (h2 : ∀ z ∈ z2, 0 ≤ z ∧ z ≤ 255) : ∀ z ∈ blkP big v z1 z2, 0 ≤ z ∧ z ≤ 255 :=
 setL_bounds (setL_bounds (encF_bounds _ _ _ _) h1) h2
set_option maxRecDepth 100000 in
set_option maxHeartbeats 4000000 in
theorem refFirst_true (v : Nat → Nat) (z1 z2 : List Int) (sa pe kv mv : Value) (la : Bool) (cnt : Int) (np : Nat) (w : World) (hN : rNode true w np v sa pe kv la mv cnt) (hP : ParOk true v) (h1 : Hold w sa z1) (h2 : Hold w pe z2) (hl1 : z1.length ≤ 16) (hl2 : z2.length ≤ 16) :
  Calls Tryz.prog 103 #[.pointer (some ⟨np, 0, none⟩)] w fun e w' => e = .returned (.agg (arrV .u64 (st16 (h0Z true (blkP true v z1 z2))))) ∧ Below w.heap.size w w' := by
 obtain ⟨b0, hb0⟩ : ∃ b0, w.heap.size = b0 := ⟨_, rfl⟩
 have hnp : np < b0 := by rw [← hb0]; exact (Array.getElem?_eq_some_iff.1 hN).1
 have hEN := fun (W : World) (hb : Below b0 w W) => refEncode_true v z1 z2 sa pe W hP (h1.below (hb0 ▸ hb)) (h2.below (hb0 ▸ hb)) hl1 hl2
 have hbz : ∀ z ∈ blkP true v z1 z2, 0 ≤ z ∧ z ≤ 255 := blkP_bounds h1.1 h2.1
 have hbl := blkP_length (big := true) (v := v) hl1 hl2
 generalize blkP true v z1 z2 = bs at *
 obtain ⟨H, hH0⟩ : ∃ H, h0Z true bs = H := ⟨_, rfl⟩
 have hHw : Words 64 8 H := by rw [← hH0]; exact h0Z_words true bs
 have hH1 : startL .u64 IVb 8 bs = H := by rw [← hH0]; rfl
 rw [hH0]
 have hN' : w.heap[np]? = some (.cells (rN 1 v sa pe kv la mv cnt) 125 (0, 0)) := hN
 have HEN_ := Lib.hid hEN
 have HBZ_ := Lib.hid hbz
 have HBL_ := Lib.hid hbl
 have HH1_ := Lib.hid hH1
 have HHW_ := Lib.hid hHw
 have HNR := Lib.hid hN'
 have c30 : w.cell? ⟨np, 30, none⟩ = some (.bool false) := cell_of_heap hN' 30
 have c0n : w.cell? ⟨np, 0, none⟩ = some (.int .i64 1) := cell_of_heap hN' 0
 have hnpw : np < w.heap.size := by omega
 clear hN hN' hEN hbz hbl hH0 hH1 hHw hP h1 h2
 go_enter Tryz.func103, Tryz.ntmps103
 go_upto_region 4 with (fail)
 have hs2 : ((w.alloc (.cells #[.int .u64 0, .int .u64 0, .int .u64 0, .int .u64 0, .int .u64 0, .int .u64 0, .int .u64 0, .int .u64 0, .int .u64 0, .int .u64 0, .int .u64 0, .int .u64 0, .int .u64 0, .int .u64 0, .int .u64 0, .int .u64 0] 123)).alloc (.cells #[.int .u64 0, .int .u64 0, .int .u64 0, .int .u64 0, .int .u64 0, .int .u64 0, .int .u64 0, .int .u64 0, .int .u64 0, .int .u64 0, .int .u64 0, .int .u64 0, .int .u64 0, .int .u64 0, .int .u64 0, .int .u64 0] 123)).heap.size = b0 + 2 := by simp [hb0]
 have r0 : ((w.alloc (.cells #[.int .u64 0, .int .u64 0, .int .u64 0, .int .u64 0, .int .u64 0, .int .u64 0, .int .u64 0, .int .u64 0, .int .u64 0, .int .u64 0, .int .u64 0, .int .u64 0, .int .u64 0, .int .u64 0, .int .u64 0, .int .u64 0] 123)).alloc (.cells #[.int .u64 0, .int .u64 0, .int .u64 0, .int .u64 0, .int .u64 0, .int .u64 0, .int .u64 0, .int .u64 0, .int .u64 0, .int .u64 0, .int .u64 0, .int .u64 0, .int .u64 0, .int .u64 0, .int .u64 0, .int .u64 0] 123)).heap[b0]? = some (.cells #[.int .u64 0, .int .u64 0, .int .u64 0, .int .u64 0, .int .u64 0, .int .u64 0, .int .u64 0, .int .u64 0, .int .u64 0, .int .u64 0, .int .u64 0, .int .u64 0, .int .u64 0, .int .u64 0, .int .u64 0, .int .u64 0] 123 (0, 0)) := by rw [Below.heap_alloc _ _ _ (by simp [hb0]), ← hb0]; exact World.alloc_heap_new _ _
 have r1 : ((w.alloc (.cells #[.int .u64 0, .int .u64 0, .int .u64 0, .int .u64 0, .int .u64 0, .int .u64 0, .int .u64 0, .int .u64 0, .int .u64 0, .int .u64 0, .int .u64 0, .int .u64 0, .int .u64 0, .int .u64 0, .int .u64 0, .int .u64 0] 123)).alloc (.cells #[.int .u64 0, .int .u64 0, .int .u64 0, .int .u64 0, .int .u64 0, .int .u64 0, .int .u64 0, .int .u64 0, .int .u64 0, .int .u64 0, .int .u64 0, .int .u64 0, .int .u64 0, .int .u64 0, .int .u64 0, .int .u64 0] 123)).heap[b0 + 1]? = some (.cells (arrV .u64 (fillS H (st16 Z8) 0)) 123 (0, 0)) := by rw [show b0 + 1 = (w.alloc (.cells #[.int .u64 0, .int .u64 0, .int .u64 0, .int .u64 0, .int .u64 0, .int .u64 0, .int .u64 0, .int .u64 0, .int .u64 0, .int .u64 0, .int .u64 0, .int .u64 0, .int .u64 0, .int .u64 0, .int .u64 0, .int .u64 0] 123)).heap.size by simp [hb0]]; exact World.alloc_heap_new _ _
 have hb2 : Below b0 w ((w.alloc (.cells #[.int .u64 0, .int .u64 0, .int .u64 0, .int .u64 0, .int .u64 0, .int .u64 0, .int .u64 0, .int .u64 0, .int .u64 0, .int .u64 0, .int .u64 0, .int .u64 0, .int .u64 0, .int .u64 0, .int .u64 0, .int .u64 0] 123)).alloc (.cells #[.int .u64 0, .int .u64 0, .int .u64 0, .int .u64 0, .int .u64 0, .int .u64 0, .int .u64 0, .int .u64 0, .int .u64 0, .int .u64 0, .int .u64 0, .int .u64 0, .int .u64 0, .int .u64 0, .int .u64 0, .int .u64 0] 123)) := by rw [← hb0]; exact ((Below.refl _ _).alloc (Nat.le_refl _) _).alloc (by simp) _
 generalize ((w.alloc (.cells #[.int .u64 0, .int .u64 0, .int .u64 0, .int .u64 0, .int .u64 0, .int .u64 0, .int .u64 0, .int .u64 0, .int .u64 0, .int .u64 0, .int .u64 0, .int .u64 0, .int .u64 0, .int .u64 0, .int .u64 0, .int .u64 0] 123)).alloc (.cells #[.int .u64 0, .int .u64 0, .int .u64 0, .int .u64 0, .int .u64 0, .int .u64 0, .int .u64 0, .int .u64 0, .int .u64 0, .int .u64 0, .int .u64 0, .int .u64 0, .int .u64 0, .int .u64 0, .int .u64 0, .int .u64 0] 123)) = W2 at *
 have hn2 : W2.heap[np]? = some (.cells (rN 1 v sa pe kv la mv cnt) 125 (0, 0)) := (hb2.block np hnp).trans HNR.out
 have R0 := Lib.hid r0
 have R1 := Lib.hid r1
 have HB2 := Lib.hid hb2
 have HN2 := Lib.hid hn2
 clear r0 r1 hb2 hn2 c30 c0n HNR hnpw
 refine wp_region_below (n := 14) (w0 := W2) (B := W2.heap.size) [21, 22, 23, 24, 25, 26, 27, 28, 29, 20, 30, 31, 4, 5] [(vl (.pointer (some ⟨np, 0, none⟩))), (vl (.pointer (some ⟨np, 0, none⟩))), (vl (.pointer (some ⟨np, 0, none⟩))), (vl (.int .i64 1)), (vl (.pointer (some ⟨np, 0, none⟩))), (vl (.pointer (some ⟨np, 0, none⟩))), (vl (.pointer (some ⟨np, 1, none⟩))), (vl (.agg (parC v sa pe))), (fun u W => ∃ r, u = .tuple #[r, .int .i64 0] ∧ W.ownsRow W2.heap.size 5 1 r 64 (bs.map encB)), (fun u W => ∃ r, u = .tuple #[r, .int .i64 0] ∧ W.ownsRow W2.heap.size 5 1 r 64 (bs.map encB)), (fun u W => W.ownsRow W2.heap.size 5 1 u 64 (bs.map encB)), (vl (.int .i64 0)), (fun u W => W.ownsRow W2.heap.size 5 1 u 64 (bs.map encB)), (vl (.int .i64 0))] (by dsimp only [List.take]) (by dsimp only [List.drop]) rfl (by rfl) (by decide) (by kernel_rfl) (by rfl) (by kernel_rfl) (by kernel_rfl) (Below.refl _ _).drew (Nat.le_refl _) ?_ ?_ ?_
 ·exact ⟨kV, kV, kV, kV, kV, kV, kV, kV, (fun _ _ _ h hb => by obtain ⟨r, e, h⟩ := h; exact ⟨r, e, ownsRow_same' h (fun g _ hg => hb.block g hg)⟩), (fun _ _ _ h hb => by obtain ⟨r, e, h⟩ := h; exact ⟨r, e, ownsRow_same' h (fun g _ hg => hb.block g hg)⟩), (fun _ _ _ h hb => ownsRow_same' h (fun g _ hg => hb.block g hg)), kV, (fun _ _ _ h hb => ownsRow_same' h (fun g _ hg => hb.block g hg)), kV, trivial⟩
 ·refine eachO_8 ?_ ?_ ?_ ?_ ?_ ?_ ?_ ?_ (eachO_cons ?_ (eachO_cons ?_ (eachO_cons ?_ (eachO_cons ?_ (eachO_cons ?_ (eachO_cons ?_ (eachO_nil)))))))
  ·intro A x W hA hW hBW hdep K hK
   have a0 := hA.2 0 (by decide)
   conv at a0 => rhs; whnf
   clear hdep hA
   go_simp
   exact hK _ _ BR rfl
  ·intro A x W hA hW hBW hdep K hK
   have g21 := gv hA hdep 0 21
   clear hdep hA
   go_simp
   exact hK _ _ BR rfl
  ·intro A x W hA hW hBW hdep K hK
   have g22 := gv hA hdep 1 22
   clear hdep hA
   go_simp
   exact hK _ _ BR rfl
  ·intro A x W hA hW hBW hdep K hK
   have g23 := gv hA hdep 2 23
   clear hdep hA
   have g0 := rowStay HN2.out hW
   have c0 : W.cell? ⟨np, 0, none⟩ = some (.int .i64 1) := cell_of_heap g0 0
   go_simp
   exact hK _ _ BR rfl
  ·intro A x W hA hW hBW hdep K hK
   have a0 := hA.2 0 (by decide)
   conv at a0 => rhs; whnf
   clear hdep hA
   go_simp
   exact hK _ _ BR rfl
  ·intro A x W hA hW hBW hdep K hK
   have g25 := gv hA hdep 4 25
   clear hdep hA
   go_simp
   exact hK _ _ BR rfl
  ·intro A x W hA hW hBW hdep K hK
   have g26 := gv hA hdep 5 26
   clear hdep hA
   go_simp
   exact hK _ _ BR rfl
  ·intro A x W hA hW hBW hdep K hK
   have g27 := gv hA hdep 6 27
   clear hdep hA
   have g0 := rowStay HN2.out hW
   refine wp_load_part 76 _ rfl np 1 g27 125 _ (parC v sa pe) (0, 0) _ g0 Tryz.underlying76 rfl (by kernel_rfl) (rN_par _ _ _ _ _ _ _ _) (hK _ _ (Below.refl _ _) rfl)
  ·intro A x W hA hW hBW hdep K hK
   have g24 := gv hA hdep 3 24
   have g28 := gv hA hdep 7 28
   clear hdep hA
   go_simp
   refine (HEN_.out W (HB2.out.trans (hW.mono (by omega)))).mono ?_; rintro e w' ⟨⟨r, rfl, ho⟩, hb⟩; exact hK _ _ hb ⟨r, rfl, ownsRow_le ho hBW⟩
  ·intro A x W hA hW hBW hdep K hK
   have g29 : (fun u W => ∃ r, u = .tuple #[r, .int .i64 0] ∧ W.ownsRow W2.heap.size 5 1 r 64 (bs.map encB)) (x 29) W := hdep ⟨8, .data⟩ (by simp) rfl _ rfl
   have a29 : A.tmps.getD 29 undef = x 29 := hA.1 29 (by decide)
   clear hdep hA
   go_simp
   exact hK _ _ (Below.refl _ _) (a29 ▸ g29)
  ·intro A x W hA hW hBW hdep K hK
   have g20 : (fun u W => ∃ r, u = .tuple #[r, .int .i64 0] ∧ W.ownsRow W2.heap.size 5 1 r 64 (bs.map encB)) (x 20) W := hdep ⟨9, .data⟩ (by simp) rfl _ rfl
   have a20 : A.tmps.getD 20 undef = x 20 := hA.1 20 (by decide)
   clear hdep hA
   obtain ⟨r, er, hr⟩ := g20
   rw [er] at a20
   go_simp
   exact hK _ _ (Below.refl _ _) hr
  ·intro A x W hA hW hBW hdep K hK
   have g20 : (fun u W => ∃ r, u = .tuple #[r, .int .i64 0] ∧ W.ownsRow W2.heap.size 5 1 r 64 (bs.map encB)) (x 20) W := hdep ⟨9, .data⟩ (by simp) rfl _ rfl
   have a20 : A.tmps.getD 20 undef = x 20 := hA.1 20 (by decide)
   clear hdep hA
   obtain ⟨r, er, hr⟩ := g20
   rw [er] at a20
   go_simp
   exact hK _ _ BR rfl
  ·intro A x W hA hW hBW hdep K hK
   have g30 : (fun u W => W.ownsRow W2.heap.size 5 1 u 64 (bs.map encB)) (x 30) W := hdep ⟨10, .data⟩ (by simp) rfl _ rfl
   have a30 : A.tmps.getD 30 undef = x 30 := hA.1 30 (by decide)
   clear hdep hA
   go_simp
   exact hK _ _ (Below.refl _ _) (a30 ▸ g30)
  ·intro A x W hA hW hBW hdep K hK
   have g31 := gv hA hdep 11 31
   clear hdep hA
   go_simp
   exact hK _ _ BR rfl
 intro x W hW hBW hall
 obtain ⟨e21, e22, e23, e24, e25, e26, e27, e28, e29, e20, e30, e31, e4, e5, -⟩ := hall
 change x 21 = (.pointer (some ⟨np, 0, none⟩) : Value) at e21
 change x 22 = (.pointer (some ⟨np, 0, none⟩) : Value) at e22
 change x 23 = (.pointer (some ⟨np, 0, none⟩) : Value) at e23
 change x 24 = (.int .i64 1 : Value) at e24
 change x 25 = (.pointer (some ⟨np, 0, none⟩) : Value) at e25
 change x 26 = (.pointer (some ⟨np, 0, none⟩) : Value) at e26
 change x 27 = (.pointer (some ⟨np, 1, none⟩) : Value) at e27
 change x 28 = (.agg (parC v sa pe) : Value) at e28
 change (fun u W => ∃ r, u = .tuple #[r, .int .i64 0] ∧ W.ownsRow W2.heap.size 5 1 r 64 (bs.map encB)) (x 29) W at e29
 change (fun u W => ∃ r, u = .tuple #[r, .int .i64 0] ∧ W.ownsRow W2.heap.size 5 1 r 64 (bs.map encB)) (x 20) W at e20
 change (fun u W => W.ownsRow W2.heap.size 5 1 u 64 (bs.map encB)) (x 30) W at e30
 change x 31 = (.int .i64 0 : Value) at e31
 change (fun u W => W.ownsRow W2.heap.size 5 1 u 64 (bs.map encB)) (x 4) W at e4
 change x 5 = (.int .i64 0 : Value) at e5
 refine thenTail_nil ?_
 simp only [lay, Act.put, List.setIfInBounds_toArray, List.set_cons_zero, List.set_cons_succ, e21, e22, e23, e24, e25, e26, e27, e28, e31, e5]
 clear e21 e22 e23 e24 e25 e26 e27 e28 e31 e5
 have hh4 := own_holds8 e4
 have hb5 : Below b0 w W := HB2.out.trans (hW.mono (by omega))
 have g0 := rowStay HN2.out hW
 have r0 := rowStay R0.out hW
 have r1 := rowStay R1.out hW
 have c0n : W.cell? ⟨np, 0, none⟩ = some (.int .i64 1) := cell_of_heap g0 0
 have hnpw : np < W.heap.size := (Array.getElem?_eq_some_iff.1 g0).1
 have hWs : b0 + 2 ≤ W.heap.size := by have := hW.size; omega
 have R0_ := Lib.hid r0
 have R1_ := Lib.hid r1
 have HB5 := Lib.hid hb5
 have HH4 := Lib.hid hh4
 clear e29 e20 e30 e4 hh4 hb5 g0 r0 r1 hW hBW R0 R1 HB2 HN2 hs2
 go_wp2_with fail
 refine (refStart64 bs _ _ HH4.out HBZ_.out HBL_.out).mono ?_; rintro e w1 ⟨rfl, hb1⟩
 rw [HH1_.out]
 have hs1 := hb1.size
 have k0 := rowStay R0_.out hb1
 have k1 := rowStay R1_.out hb1
 have hbw : Below b0 w w1 := HB5.out.trans (hb1.mono (by omega))
 have K0 := Lib.hid k0
 have K1 := Lib.hid k1
 have HBW := Lib.hid hbw
 clear k0 k1 hbw hb1 R0_ R1_ HB5 HH4 c0n hnpw
 go_upto_region 7 with ((with_reducible show wpList _ _ _ (Oper.mk none (Op.store 150 _ _) _ _ _ _ :: _) _ _); refine wpList_store_row rfl 150 _ _ rfl w1.heap.size (arrV .u64 H) rfl rfl 150 _ (World.alloc_heap_new _ _) (by rw [arrV_size, HHW_.out.1]; kernel_rfl) (by rw [arrV_size, HHW_.out.1]; rfl) arrV_all ?_)
 refine letterW ?_
 intro W7 hW7
 obtain ⟨bv, hbv⟩ : ∃ bv, w1.heap.size = bv := ⟨_, rfl⟩
 have m0 : W7.heap[b0]? = some (.cells #[.int .u64 0, .int .u64 0, .int .u64 0, .int .u64 0, .int .u64 0, .int .u64 0, .int .u64 0, .int .u64 0, .int .u64 0, .int .u64 0, .int .u64 0, .int .u64 0, .int .u64 0, .int .u64 0, .int .u64 0, .int .u64 0] 123 (0, 0)) := by rw [hW7]; exact (setRow_other (w1.alloc _) _ _ _ (by omega)).trans ((Below.heap_alloc _ _ _ (by omega)).trans K0.out)
 have m1 : W7.heap[b0 + 1]? = some (.cells (arrV .u64 (fillS H (st16 Z8) 0)) 123 (0, 0)) := by rw [hW7]; exact (setRow_other (w1.alloc _) _ _ _ (by omega)).trans ((Below.heap_alloc _ _ _ (by omega)).trans K1.out)
 have m2 : W7.heap[bv]? = some (.cells (arrV .u64 H) 150 (0, 0)) := by rw [hW7, ← hbv]; exact setRow_heap _ _ _ _ _ _ (World.alloc_heap_new _ _)
 have hB7 : Below b0 w W7 := by rw [hW7]; exact below_setRow (HBW.out.alloc (by omega) _) (by omega) _
 have hbs7 : bv < W7.heap.size := (Array.getElem?_eq_some_iff.1 m2).1
 have hbvb : b0 + 2 ≤ bv := by omega
 rw [hbv]
 have M0 := Lib.hid m0
 have M1 := Lib.hid m1
 have M2 := Lib.hid m2
 have HB7 := Lib.hid hB7
 clear hW7 hbv m0 m1 m2 hB7 K0 K1 HBW hs1 hWs
 go_wp2_with fail
 go_loopw [8] (fun i wr => ∃ j : Nat, i = .int .i64 (j : Nat) ∧ j ≤ 8 ∧ wr.heap[b0 + 1]? = some (.cells (arrV .u64 (fillS H (st16 Z8) j)) 123 (0, 0)) ∧ But (b0 + 1) W7 wr) (fun i _ => 8 - (intOf i).toNat)
 case atStart => exact ⟨0, rfl, by omega, M1.out, But.refl _ _⟩
 case round =>
  obtain ⟨j, rfl, hj, hrow, hb⟩ := hrel
  have HROW := Lib.hid hrow
  have HB := Lib.hid hb
  have hwrs : bv < wr.heap.size := by have := hb.size; omega
  have h16 : (st16 Z8).length = 16 := rfl
  by_cases hlt : j < 8
  case pos =>
   have c0 : wr.cell? ⟨bv, j, none⟩ = some (.int .u64 (wd H j)) := by rw [cell_of_heap ((hb.block bv (by omega) (by omega)).trans M2.out) j, arr_get (by rw [HHW_.out.1]; omega)]
   have hfl : (fillS H (st16 Z8) j).length = 16 := by rw [fillS_length (by rw [HHW_.out.1]; omega) (by omega), h16]
   have c1 : wr.cell? ⟨b0 + 1, j, none⟩ = some (.int .u64 (wd (fillS H (st16 Z8) j) j)) := by rw [cell_of_heap hrow j, arr_get (by omega)]
   have f1 := frozen_of_row wr (b0 + 1) j _ _ hrow
   have hst := heap_setCell_same wr (b0 + 1) j _ _ (.int .u64 (wd H j)) hrow
   rw [arrV_set, fillS_set (by rw [HHW_.out.1]; omega) (by omega)] at hst
   have hbd := wd_bounds HHW_.out hlt
   have HST := Lib.hid hst
   have hjj : (j : Int) < 8 := by omega
   generalize wd (fillS H (st16 Z8) j) j = zo at c1
   generalize wd H j = zj at *
   obtain ⟨hbd1, hbd2⟩ := hbd
   clear hst hfl hrow hb h16
   go_wp2
   exact ⟨⟨j + 1, rfl, by omega, HST.out, HB.out.set _ _⟩, by simp [intOf]; omega⟩
  obtain rfl : j = 8 := by omega
  rw [fill_all HHW_.out.1 rfl] at hrow
  have n1 := (hb.block b0 (by omega) (by omega)).trans M0.out
  have hb9 : Below b0 w wr := HB7.out.trans (hb.below (by omega) (by omega))
  have hR16 := st16_words (by decide) HHW_.out
  have hwr1 : b0 + 1 < wr.heap.size := by omega
  clear hb h16 hj hlt HROW
  go_wp2_with (first | ((with_reducible show wpList _ _ _ (Oper.mk (some 51) _ _ _ _ _ :: _) _ _); refine wpList_load_row rfl 123 _ rfl (b0 + 1) rfl _ _ _ _ hrow Tryz.underlying123 rfl (by rw [arrV_size, hR16.1]; kernel_rfl) ?_) | ((with_reducible show wpList _ _ _ (Oper.mk none (Op.store 123 _ _) _ _ _ _ :: _) _ _); refine wpList_store_row rfl 123 _ _ rfl b0 (arrV .u64 (st16 H)) rfl rfl 123 _ n1 (by rw [arrV_size, hR16.1]; kernel_rfl) (by rw [arrV_size, hR16.1]; rfl) arrV_all ?_))
  exact bodyPost_ret (results_cell_row rfl _ _ b0 123 _ _ _ rfl (setRow_heap _ _ _ _ _ _ n1) Tryz.underlying123 rfl (by rw [arrV_size, hR16.1]; kernel_rfl)) rfl ⟨rfl, by rw [hb0]; exact below_setRow hb9 (Nat.le_refl _) _⟩
set_option maxRecDepth 100000 in
set_option maxHeartbeats 4000000 in
theorem refFirst_false (v : Nat → Nat) (z1 z2 : List Int) (sa pe kv mv : Value) (la : Bool) (cnt : Int) (np : Nat) (w : World) (hN : rNode false w np v sa pe kv la mv cnt) (hP : ParOk false v) (h1 : Hold w sa z1) (h2 : Hold w pe z2) (hl1 : z1.length ≤ 8) (hl2 : z2.length ≤ 8) :
  Calls Tryz.prog 103 #[.pointer (some ⟨np, 0, none⟩)] w fun e w' => e = .returned (.agg (arrV .u64 (st16 (h0Z false (blkP false v z1 z2))))) ∧ Below w.heap.size w w' := by
 obtain ⟨b0, hb0⟩ : ∃ b0, w.heap.size = b0 := ⟨_, rfl⟩
 have hnp : np < b0 := by rw [← hb0]; exact (Array.getElem?_eq_some_iff.1 hN).1
 have hEN := fun (W : World) (hb : Below b0 w W) => refEncode_false v z1 z2 sa pe W hP (h1.below (hb0 ▸ hb)) (h2.below (hb0 ▸ hb)) hl1 hl2
 have hbz : ∀ z ∈ blkP false v z1 z2, 0 ≤ z ∧ z ≤ 255 := blkP_bounds h1.1 h2.1
 have hbl := blkP_length (big := false) (v := v) hl1 hl2
 generalize blkP false v z1 z2 = bs at *
 obtain ⟨H, hH0⟩ : ∃ H, h0Z false bs = H := ⟨_, rfl⟩
 have hHw : Words 32 8 H := by rw [← hH0]; exact h0Z_words false bs
 have hH1 : startL .u32 IVs 4 bs = H := by rw [← hH0]; rfl
 rw [hH0]
 have hN' : w.heap[np]? = some (.cells (rN 2 v sa pe kv la mv cnt) 125 (0, 0)) := hN
 have HEN_ := Lib.hid hEN
 have HBZ_ := Lib.hid hbz
 have HBL_ := Lib.hid hbl
 have HH1_ := Lib.hid hH1
 have HHW_ := Lib.hid hHw
 have HNR := Lib.hid hN'
 have c30 : w.cell? ⟨np, 30, none⟩ = some (.bool false) := cell_of_heap hN' 30
 have c0n : w.cell? ⟨np, 0, none⟩ = some (.int .i64 2) := cell_of_heap hN' 0
 have hnpw : np < w.heap.size := by omega
 clear hN hN' hEN hbz hbl hH0 hH1 hHw hP h1 h2
 go_enter Tryz.func103, Tryz.ntmps103
 go_upto_region 4 with (fail)
 have hs2 : ((w.alloc (.cells #[.int .u64 0, .int .u64 0, .int .u64 0, .int .u64 0, .int .u64 0, .int .u64 0, .int .u64 0, .int .u64 0, .int .u64 0, .int .u64 0, .int .u64 0, .int .u64 0, .int .u64 0, .int .u64 0, .int .u64 0, .int .u64 0] 123)).alloc (.cells #[.int .u64 0, .int .u64 0, .int .u64 0, .int .u64 0, .int .u64 0, .int .u64 0, .int .u64 0, .int .u64 0, .int .u64 0, .int .u64 0, .int .u64 0, .int .u64 0, .int .u64 0, .int .u64 0, .int .u64 0, .int .u64 0] 123)).heap.size = b0 + 2 := by simp [hb0]
 have r0 : ((w.alloc (.cells #[.int .u64 0, .int .u64 0, .int .u64 0, .int .u64 0, .int .u64 0, .int .u64 0, .int .u64 0, .int .u64 0, .int .u64 0, .int .u64 0, .int .u64 0, .int .u64 0, .int .u64 0, .int .u64 0, .int .u64 0, .int .u64 0] 123)).alloc (.cells #[.int .u64 0, .int .u64 0, .int .u64 0, .int .u64 0, .int .u64 0, .int .u64 0, .int .u64 0, .int .u64 0, .int .u64 0, .int .u64 0, .int .u64 0, .int .u64 0, .int .u64 0, .int .u64 0, .int .u64 0, .int .u64 0] 123)).heap[b0]? = some (.cells #[.int .u64 0, .int .u64 0, .int .u64 0, .int .u64 0, .int .u64 0, .int .u64 0, .int .u64 0, .int .u64 0, .int .u64 0, .int .u64 0, .int .u64 0, .int .u64 0, .int .u64 0, .int .u64 0, .int .u64 0, .int .u64 0] 123 (0, 0)) := by rw [Below.heap_alloc _ _ _ (by simp [hb0]), ← hb0]; exact World.alloc_heap_new _ _
 have r1 : ((w.alloc (.cells #[.int .u64 0, .int .u64 0, .int .u64 0, .int .u64 0, .int .u64 0, .int .u64 0, .int .u64 0, .int .u64 0, .int .u64 0, .int .u64 0, .int .u64 0, .int .u64 0, .int .u64 0, .int .u64 0, .int .u64 0, .int .u64 0] 123)).alloc (.cells #[.int .u64 0, .int .u64 0, .int .u64 0, .int .u64 0, .int .u64 0, .int .u64 0, .int .u64 0, .int .u64 0, .int .u64 0, .int .u64 0, .int .u64 0, .int .u64 0, .int .u64 0, .int .u64 0, .int .u64 0, .int .u64 0] 123)).heap[b0 + 1]? = some (.cells (arrV .u64 (fillS H (st16 Z8) 0)) 123 (0, 0)) := by rw [show b0 + 1 = (w.alloc (.cells #[.int .u64 0, .int .u64 0, .int .u64 0, .int .u64 0, .int .u64 0, .int .u64 0, .int .u64 0, .int .u64 0, .int .u64 0, .int .u64 0, .int .u64 0, .int .u64 0, .int .u64 0, .int .u64 0, .int .u64 0, .int .u64 0] 123)).heap.size by simp [hb0]]; exact World.alloc_heap_new _ _
 have hb2 : Below b0 w ((w.alloc (.cells #[.int .u64 0, .int .u64 0, .int .u64 0, .int .u64 0, .int .u64 0, .int .u64 0, .int .u64 0, .int .u64 0, .int .u64 0, .int .u64 0, .int .u64 0, .int .u64 0, .int .u64 0, .int .u64 0, .int .u64 0, .int .u64 0] 123)).alloc (.cells #[.int .u64 0, .int .u64 0, .int .u64 0, .int .u64 0, .int .u64 0, .int .u64 0, .int .u64 0, .int .u64 0, .int .u64 0, .int .u64 0, .int .u64 0, .int .u64 0, .int .u64 0, .int .u64 0, .int .u64 0, .int .u64 0] 123)) := by rw [← hb0]; exact ((Below.refl _ _).alloc (Nat.le_refl _) _).alloc (by simp) _
 generalize ((w.alloc (.cells #[.int .u64 0, .int .u64 0, .int .u64 0, .int .u64 0, .int .u64 0, .int .u64 0, .int .u64 0, .int .u64 0, .int .u64 0, .int .u64 0, .int .u64 0, .int .u64 0, .int .u64 0, .int .u64 0, .int .u64 0, .int .u64 0] 123)).alloc (.cells #[.int .u64 0, .int .u64 0, .int .u64 0, .int .u64 0, .int .u64 0, .int .u64 0, .int .u64 0, .int .u64 0, .int .u64 0, .int .u64 0, .int .u64 0, .int .u64 0, .int .u64 0, .int .u64 0, .int .u64 0, .int .u64 0] 123)) = W2 at *
 have hn2 : W2.heap[np]? = some (.cells (rN 2 v sa pe kv la mv cnt) 125 (0, 0)) := (hb2.block np hnp).trans HNR.out
 have R0 := Lib.hid r0
 have R1 := Lib.hid r1
 have HB2 := Lib.hid hb2
 have HN2 := Lib.hid hn2
 clear r0 r1 hb2 hn2 c30 c0n HNR hnpw
 refine wp_region_below (n := 14) (w0 := W2) (B := W2.heap.size) [21, 22, 23, 24, 25, 26, 27, 28, 29, 20, 30, 31, 4, 5] [(vl (.pointer (some ⟨np, 0, none⟩))), (vl (.pointer (some ⟨np, 0, none⟩))), (vl (.pointer (some ⟨np, 0, none⟩))), (vl (.int .i64 2)), (vl (.pointer (some ⟨np, 0, none⟩))), (vl (.pointer (some ⟨np, 0, none⟩))), (vl (.pointer (some ⟨np, 1, none⟩))), (vl (.agg (parC v sa pe))), (fun u W => ∃ r, u = .tuple #[r, .int .i64 0] ∧ W.ownsRow W2.heap.size 5 1 r 32 (bs.map encB)), (fun u W => ∃ r, u = .tuple #[r, .int .i64 0] ∧ W.ownsRow W2.heap.size 5 1 r 32 (bs.map encB)), (fun u W => W.ownsRow W2.heap.size 5 1 u 32 (bs.map encB)), (vl (.int .i64 0)), (fun u W => W.ownsRow W2.heap.size 5 1 u 32 (bs.map encB)), (vl (.int .i64 0))] (by dsimp only [List.take]) (by dsimp only [List.drop]) rfl (by rfl) (by decide) (by kernel_rfl) (by rfl) (by kernel_rfl) (by kernel_rfl) (Below.refl _ _).drew (Nat.le_refl _) ?_ ?_ ?_
 ·exact ⟨kV, kV, kV, kV, kV, kV, kV, kV, (fun _ _ _ h hb => by obtain ⟨r, e, h⟩ := h; exact ⟨r, e, ownsRow_same' h (fun g _ hg => hb.block g hg)⟩), (fun _ _ _ h hb => by obtain ⟨r, e, h⟩ := h; exact ⟨r, e, ownsRow_same' h (fun g _ hg => hb.block g hg)⟩), (fun _ _ _ h hb => ownsRow_same' h (fun g _ hg => hb.block g hg)), kV, (fun _ _ _ h hb => ownsRow_same' h (fun g _ hg => hb.block g hg)), kV, trivial⟩
 ·refine eachO_8 ?_ ?_ ?_ ?_ ?_ ?_ ?_ ?_ (eachO_cons ?_ (eachO_cons ?_ (eachO_cons ?_ (eachO_cons ?_ (eachO_cons ?_ (eachO_cons ?_ (eachO_nil)))))))
  ·intro A x W hA hW hBW hdep K hK
   have a0 := hA.2 0 (by decide)
   conv at a0 => rhs; whnf
   clear hdep hA
   go_simp
   exact hK _ _ BR rfl
  ·intro A x W hA hW hBW hdep K hK
   have g21 := gv hA hdep 0 21
   clear hdep hA
   go_simp
   exact hK _ _ BR rfl
  ·intro A x W hA hW hBW hdep K hK
   have g22 := gv hA hdep 1 22
   clear hdep hA
   go_simp
   exact hK _ _ BR rfl
  ·intro A x W hA hW hBW hdep K hK
   have g23 := gv hA hdep 2 23
   clear hdep hA
   have g0 := rowStay HN2.out hW
   have c0 : W.cell? ⟨np, 0, none⟩ = some (.int .i64 2) := cell_of_heap g0 0
   go_simp
   exact hK _ _ BR rfl
  ·intro A x W hA hW hBW hdep K hK
   have a0 := hA.2 0 (by decide)
   conv at a0 => rhs; whnf
   clear hdep hA
   go_simp
   exact hK _ _ BR rfl
  ·intro A x W hA hW hBW hdep K hK
   have g25 := gv hA hdep 4 25
   clear hdep hA
   go_simp
   exact hK _ _ BR rfl
  ·intro A x W hA hW hBW hdep K hK
   have g26 := gv hA hdep 5 26
   clear hdep hA
   go_simp
   exact hK _ _ BR rfl
  ·intro A x W hA hW hBW hdep K hK
   have g27 := gv hA hdep 6 27
   clear hdep hA
   have g0 := rowStay HN2.out hW
   refine wp_load_part 76 _ rfl np 1 g27 125 _ (parC v sa pe) (0, 0) _ g0 Tryz.underlying76 rfl (by kernel_rfl) (rN_par _ _ _ _ _ _ _ _) (hK _ _ (Below.refl _ _) rfl)
  ·intro A x W hA hW hBW hdep K hK
   have g24 := gv hA hdep 3 24
   have g28 := gv hA hdep 7 28
   clear hdep hA
   go_simp
   refine (HEN_.out W (HB2.out.trans (hW.mono (by omega)))).mono ?_; rintro e w' ⟨⟨r, rfl, ho⟩, hb⟩; exact hK _ _ hb ⟨r, rfl, ownsRow_le ho hBW⟩
  ·intro A x W hA hW hBW hdep K hK
   have g29 : (fun u W => ∃ r, u = .tuple #[r, .int .i64 0] ∧ W.ownsRow W2.heap.size 5 1 r 32 (bs.map encB)) (x 29) W := hdep ⟨8, .data⟩ (by simp) rfl _ rfl
   have a29 : A.tmps.getD 29 undef = x 29 := hA.1 29 (by decide)
   clear hdep hA
   go_simp
   exact hK _ _ (Below.refl _ _) (a29 ▸ g29)
  ·intro A x W hA hW hBW hdep K hK
   have g20 : (fun u W => ∃ r, u = .tuple #[r, .int .i64 0] ∧ W.ownsRow W2.heap.size 5 1 r 32 (bs.map encB)) (x 20) W := hdep ⟨9, .data⟩ (by simp) rfl _ rfl
   have a20 : A.tmps.getD 20 undef = x 20 := hA.1 20 (by decide)
   clear hdep hA
   obtain ⟨r, er, hr⟩ := g20
   rw [er] at a20
   go_simp
   exact hK _ _ (Below.refl _ _) hr
  ·intro A x W hA hW hBW hdep K hK
   have g20 : (fun u W => ∃ r, u = .tuple #[r, .int .i64 0] ∧ W.ownsRow W2.heap.size 5 1 r 32 (bs.map encB)) (x 20) W := hdep ⟨9, .data⟩ (by simp) rfl _ rfl
   have a20 : A.tmps.getD 20 undef = x 20 := hA.1 20 (by decide)
   clear hdep hA
   obtain ⟨r, er, hr⟩ := g20
   rw [er] at a20
   go_simp
   exact hK _ _ BR rfl
  ·intro A x W hA hW hBW hdep K hK
   have g30 : (fun u W => W.ownsRow W2.heap.size 5 1 u 32 (bs.map encB)) (x 30) W := hdep ⟨10, .data⟩ (by simp) rfl _ rfl
   have a30 : A.tmps.getD 30 undef = x 30 := hA.1 30 (by decide)
   clear hdep hA
   go_simp
   exact hK _ _ (Below.refl _ _) (a30 ▸ g30)
  ·intro A x W hA hW hBW hdep K hK
   have g31 := gv hA hdep 11 31
   clear hdep hA
   go_simp
   exact hK _ _ BR rfl
 intro x W hW hBW hall
 obtain ⟨e21, e22, e23, e24, e25, e26, e27, e28, e29, e20, e30, e31, e4, e5, -⟩ := hall
 change x 21 = (.pointer (some ⟨np, 0, none⟩) : Value) at e21
 change x 22 = (.pointer (some ⟨np, 0, none⟩) : Value) at e22
 change x 23 = (.pointer (some ⟨np, 0, none⟩) : Value) at e23
 change x 24 = (.int .i64 2 : Value) at e24
 change x 25 = (.pointer (some ⟨np, 0, none⟩) : Value) at e25
 change x 26 = (.pointer (some ⟨np, 0, none⟩) : Value) at e26
 change x 27 = (.pointer (some ⟨np, 1, none⟩) : Value) at e27
 change x 28 = (.agg (parC v sa pe) : Value) at e28
 change (fun u W => ∃ r, u = .tuple #[r, .int .i64 0] ∧ W.ownsRow W2.heap.size 5 1 r 32 (bs.map encB)) (x 29) W at e29
 change (fun u W => ∃ r, u = .tuple #[r, .int .i64 0] ∧ W.ownsRow W2.heap.size 5 1 r 32 (bs.map encB)) (x 20) W at e20
 change (fun u W => W.ownsRow W2.heap.size 5 1 u 32 (bs.map encB)) (x 30) W at e30
 change x 31 = (.int .i64 0 : Value) at e31
 change (fun u W => W.ownsRow W2.heap.size 5 1 u 32 (bs.map encB)) (x 4) W at e4
 change x 5 = (.int .i64 0 : Value) at e5
 refine thenTail_nil ?_
 simp only [lay, Act.put, List.setIfInBounds_toArray, List.set_cons_zero, List.set_cons_succ, e21, e22, e23, e24, e25, e26, e27, e28, e31, e5]
 clear e21 e22 e23 e24 e25 e26 e27 e28 e31 e5
 have hh4 := own_holds8 e4
 have hb5 : Below b0 w W := HB2.out.trans (hW.mono (by omega))
 have g0 := rowStay HN2.out hW
 have r0 := rowStay R0.out hW
 have r1 := rowStay R1.out hW
 have c0n : W.cell? ⟨np, 0, none⟩ = some (.int .i64 2) := cell_of_heap g0 0
 have hnpw : np < W.heap.size := (Array.getElem?_eq_some_iff.1 g0).1
 have hWs : b0 + 2 ≤ W.heap.size := by have := hW.size; omega
 have R0_ := Lib.hid r0
 have R1_ := Lib.hid r1
 have HB5 := Lib.hid hb5
 have HH4 := Lib.hid hh4
 clear e29 e20 e30 e4 hh4 hb5 g0 r0 r1 hW hBW R0 R1 HB2 HN2 hs2
 go_wp2_with fail
 refine (refStart32 bs _ _ HH4.out HBZ_.out HBL_.out).mono ?_; rintro e w1 ⟨rfl, hb1⟩
 rw [HH1_.out]
 have hs1 := hb1.size
 have k0 := rowStay R0_.out hb1
 have k1 := rowStay R1_.out hb1
 have hbw : Below b0 w w1 := HB5.out.trans (hb1.mono (by omega))
 have K0 := Lib.hid k0
 have K1 := Lib.hid k1
 have HBW := Lib.hid hbw
 clear k0 k1 hbw hb1 R0_ R1_ HB5 HH4 c0n hnpw
 go_upto_region 13 with ((with_reducible show wpList _ _ _ (Oper.mk none (Op.store 160 _ _) _ _ _ _ :: _) _ _); refine wpList_store_row rfl 160 _ _ rfl w1.heap.size (arrV .u32 H) rfl rfl 160 _ (World.alloc_heap_new _ _) (by rw [arrV_size, HHW_.out.1]; kernel_rfl) (by rw [arrV_size, HHW_.out.1]; rfl) arrV_all ?_)
 refine letterW ?_
 intro W7 hW7
 obtain ⟨bv, hbv⟩ : ∃ bv, w1.heap.size = bv := ⟨_, rfl⟩
 have m0 : W7.heap[b0]? = some (.cells #[.int .u64 0, .int .u64 0, .int .u64 0, .int .u64 0, .int .u64 0, .int .u64 0, .int .u64 0, .int .u64 0, .int .u64 0, .int .u64 0, .int .u64 0, .int .u64 0, .int .u64 0, .int .u64 0, .int .u64 0, .int .u64 0] 123 (0, 0)) := by rw [hW7]; exact (setRow_other (w1.alloc _) _ _ _ (by omega)).trans ((Below.heap_alloc _ _ _ (by omega)).trans K0.out)
 have m1 : W7.heap[b0 + 1]? = some (.cells (arrV .u64 (fillS H (st16 Z8) 0)) 123 (0, 0)) := by rw [hW7]; exact (setRow_other (w1.alloc _) _ _ _ (by omega)).trans ((Below.heap_alloc _ _ _ (by omega)).trans K1.out)
 have m2 : W7.heap[bv]? = some (.cells (arrV .u32 H) 160 (0, 0)) := by rw [hW7, ← hbv]; exact setRow_heap _ _ _ _ _ _ (World.alloc_heap_new _ _)
 have hB7 : Below b0 w W7 := by rw [hW7]; exact below_setRow (HBW.out.alloc (by omega) _) (by omega) _
 have hbs7 : bv < W7.heap.size := (Array.getElem?_eq_some_iff.1 m2).1
 have hbvb : b0 + 2 ≤ bv := by omega
 rw [hbv]
 have M0 := Lib.hid m0
 have M1 := Lib.hid m1
 have M2 := Lib.hid m2
 have HB7 := Lib.hid hB7
 clear hW7 hbv m0 m1 m2 hB7 K0 K1 HBW hs1 hWs
 go_wp2_with fail
 go_loopw [11] (fun i wr => ∃ j : Nat, i = .int .i64 (j : Nat) ∧ j ≤ 8 ∧ wr.heap[b0 + 1]? = some (.cells (arrV .u64 (fillS H (st16 Z8) j)) 123 (0, 0)) ∧ But (b0 + 1) W7 wr) (fun i _ => 8 - (intOf i).toNat)
 case atStart => exact ⟨0, rfl, by omega, M1.out, But.refl _ _⟩
 case round =>
  obtain ⟨j, rfl, hj, hrow, hb⟩ := hrel
  have HROW := Lib.hid hrow
  have HB := Lib.hid hb
  have hwrs : bv < wr.heap.size := by have := hb.size; omega
  have h16 : (st16 Z8).length = 16 := rfl
  by_cases hlt : j < 8
  case pos =>
   have c0 : wr.cell? ⟨bv, j, none⟩ = some (.int .u32 (wd H j)) := by rw [cell_of_heap ((hb.block bv (by omega) (by omega)).trans M2.out) j, arr_get (by rw [HHW_.out.1]; omega)]
   have hfl : (fillS H (st16 Z8) j).length = 16 := by rw [fillS_length (by rw [HHW_.out.1]; omega) (by omega), h16]
   have c1 : wr.cell? ⟨b0 + 1, j, none⟩ = some (.int .u64 (wd (fillS H (st16 Z8) j) j)) := by rw [cell_of_heap hrow j, arr_get (by omega)]
   have f1 := frozen_of_row wr (b0 + 1) j _ _ hrow
   have hst := heap_setCell_same wr (b0 + 1) j _ _ (.int .u64 (wd H j)) hrow
   rw [arrV_set, fillS_set (by rw [HHW_.out.1]; omega) (by omega)] at hst
   have hbd := wd_bounds HHW_.out hlt
   have hcv : IntKind.u64.wrap (wd H j) = wd H j := u64_wrap_id _ hbd.1 (by have := hbd.2; simp at this; omega)
   have HST := Lib.hid hst
   have hjj : (j : Int) < 8 := by omega
   generalize wd (fillS H (st16 Z8) j) j = zo at c1
   generalize wd H j = zj at *
   obtain ⟨hbd1, hbd2⟩ := hbd
   clear hst hfl hrow hb h16
   go_wp2
   exact ⟨⟨j + 1, rfl, by omega, HST.out, HB.out.set _ _⟩, by simp [intOf]; omega⟩
  obtain rfl : j = 8 := by omega
  rw [fill_all HHW_.out.1 rfl] at hrow
  have n1 := (hb.block b0 (by omega) (by omega)).trans M0.out
  have hb9 : Below b0 w wr := HB7.out.trans (hb.below (by omega) (by omega))
  have hR16 := st16_words (by decide) HHW_.out
  have hwr1 : b0 + 1 < wr.heap.size := by omega
  clear hb h16 hj hlt HROW
  go_wp2_with (first | ((with_reducible show wpList _ _ _ (Oper.mk (some 67) _ _ _ _ _ :: _) _ _); refine wpList_load_row rfl 123 _ rfl (b0 + 1) rfl _ _ _ _ hrow Tryz.underlying123 rfl (by rw [arrV_size, hR16.1]; kernel_rfl) ?_) | ((with_reducible show wpList _ _ _ (Oper.mk none (Op.store 123 _ _) _ _ _ _ :: _) _ _); refine wpList_store_row rfl 123 _ _ rfl b0 (arrV .u64 (st16 H)) rfl rfl 123 _ n1 (by rw [arrV_size, hR16.1]; kernel_rfl) (by rw [arrV_size, hR16.1]; rfl) arrV_all ?_))
  exact bodyPost_ret (results_cell_row rfl _ _ b0 123 _ _ _ rfl (setRow_heap _ _ _ _ _ _ n1) Tryz.underlying123 rfl (by rw [arrV_size, hR16.1]; kernel_rfl)) rfl ⟨rfl, by rw [hb0]; exact below_setRow hb9 (Nat.le_refl _) _⟩
end Go.Proofs.YtjogmckaakkomaaGreat
