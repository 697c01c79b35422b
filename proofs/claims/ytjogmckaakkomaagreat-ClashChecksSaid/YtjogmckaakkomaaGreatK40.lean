/- What the program takes from a block of parameters. No condition. -/
import Derived.Test.YtjogmckaakkomaaGreatK29
import Derived.Test.YtjogmckaakkomaaGreatK23
import Derived.Test.YtjogmckaakkomaaGreatK30
import Derived.Test.YtjogmckaakkomaaGreatK37
import Derived.Test.YtjogmckaakkomaaGreatK38
import Derived.Test.YtjogmckaakkomaaGreatK39
namespace Go.Proofs.YtjogmckaakkomaaGreat
open Go.ChangeShapes Go.WideShapes Go.ChangeAt Go.RowKit Go.Joins Go.Shelf Go.Maps
attribute [local go_sem] Oper.semAt_some

set_option maxRecDepth 100000 in
set_option maxHeartbeats 4000000 in
theorem decode_false_true (zs : List Int) (b off cap : Nat) (w : World) (hB : BytesAt w b off zs) (hz : ∀ z ∈ zs, 0 ≤ z ∧ z ≤ 255) (hcap : 32 ≤ cap) (hcap2 : (cap : Int) ≤ 9223372036854775807) (hl : zs.length = 32) :
  Calls Tryz.prog 41 #[.int .i64 2, .slice (some ⟨b, off, none⟩) 32 cap, .bool true] w fun e w' => (∃ p n, e = .returned (.tuple #[p, .int .i64 n]) ∧ (n = 0 ↔ (valZ zs 12 2) ≠ 0 ∧ okC false (nthz zs 0) (nthz zs 1) (nthz zs 3) (valZ zs 12 2) (nthz zs 15)) ∧ (n = 0 → ∃ fo dp lf ofs xo nd inr sa pe, p = parV (nthz zs 0) (nthz zs 1) fo dp lf ofs xo nd inr sa pe ∧ sa.oneCell' = true ∧ pe.oneCell' = true) ∧ (n ≠ 0 → p = .agg zeroP)) ∧ Below w.heap.size w w' := by
 obtain ⟨h1, h2⟩ := id hB
 have HC := Lib.hid h2
 have HB := Lib.hid hB
 clear h2 hB
 obtain ⟨z0, hz0⟩ : ∃ z, nthz zs 0 = z := ⟨_, rfl⟩
 have hb0 : 0 ≤ z0 ∧ z0 ≤ 255 := by rw [← hz0]; exact (mem_nthz hz (by omega)).2
 have HZ0 := Lib.hid (show w.cell? ⟨b, off + 0, none⟩ = some (.int .u8 z0) by rw [← hz0]; exact HC.out 0 (by omega))
 try rw [hz0]
 obtain ⟨z1, hz1⟩ : ∃ z, nthz zs 1 = z := ⟨_, rfl⟩
 have hb1 : 0 ≤ z1 ∧ z1 ≤ 255 := by rw [← hz1]; exact (mem_nthz hz (by omega)).2
 have HZ1 := Lib.hid (show w.cell? ⟨b, off + 1, none⟩ = some (.int .u8 z1) by rw [← hz1]; exact HC.out 1 (by omega))
 try rw [hz1]
 obtain ⟨z2, hz2⟩ : ∃ z, nthz zs 2 = z := ⟨_, rfl⟩
 have hb2 : 0 ≤ z2 ∧ z2 ≤ 255 := by rw [← hz2]; exact (mem_nthz hz (by omega)).2
 have HZ2 := Lib.hid (show w.cell? ⟨b, off + 2, none⟩ = some (.int .u8 z2) by rw [← hz2]; exact HC.out 2 (by omega))
 try rw [hz2]
 obtain ⟨z3, hz3⟩ : ∃ z, nthz zs 3 = z := ⟨_, rfl⟩
 have hb3 : 0 ≤ z3 ∧ z3 ≤ 255 := by rw [← hz3]; exact (mem_nthz hz (by omega)).2
 have HZ3 := Lib.hid (show w.cell? ⟨b, off + 3, none⟩ = some (.int .u8 z3) by rw [← hz3]; exact HC.out 3 (by omega))
 try rw [hz3]
 obtain ⟨z14, hz14⟩ : ∃ z, nthz zs 14 = z := ⟨_, rfl⟩
 have hb14 : 0 ≤ z14 ∧ z14 ≤ 255 := by rw [← hz14]; exact (mem_nthz hz (by omega)).2
 have HZ14 := Lib.hid (show w.cell? ⟨b, off + 14, none⟩ = some (.int .u8 z14) by rw [← hz14]; exact HC.out 14 (by omega))
 try rw [hz14]
 obtain ⟨z15, hz15⟩ : ∃ z, nthz zs 15 = z := ⟨_, rfl⟩
 have hb15 : 0 ≤ z15 ∧ z15 ≤ 255 := by rw [← hz15]; exact (mem_nthz hz (by omega)).2
 have HZ15 := Lib.hid (show w.cell? ⟨b, off + 15, none⟩ = some (.int .u8 z15) by rw [← hz15]; exact HC.out 15 (by omega))
 try rw [hz15]
 obtain ⟨L4, hL4⟩ : ∃ x, valZ zs 4 4 = x := ⟨_, rfl⟩
 have hL4b : 0 ≤ L4 ∧ L4 < 4294967296 := by rw [← hL4]; exact valZ_bounds hz 4 (by omega)
 obtain ⟨OF, hOF⟩ : ∃ x, valZ zs 8 6 = x := ⟨_, rfl⟩
 have hOFb : 0 ≤ OF ∧ OF < 281474976710656 := by rw [← hOF]; exact valZ_bounds hz 6 (by omega)
 obtain ⟨O4, hO4⟩ : ∃ x, valZ zs 8 4 = x := ⟨_, rfl⟩
 have hO4b : 0 ≤ O4 ∧ O4 < 4294967296 := by rw [← hO4]; exact valZ_bounds hz 4 (by omega)
 obtain ⟨X, hX⟩ : ∃ x, valZ zs 12 2 = x := ⟨_, rfl⟩
 have hXb : 0 ≤ X ∧ X < 65536 := by rw [← hX]; exact valZ_bounds hz 2 (by omega)
 rw [hX]
 obtain ⟨b0, hb0⟩ : ∃ b0, w.heap.size = b0 := ⟨_, rfl⟩
 have hbk : b < b0 := by rw [← hb0]; exact h1
 have hSL : ∀ W, Below b0 w W → Holds8 W (.slice (some ⟨b, off, none⟩) 32 cap) zs := fun W hW => ⟨some ⟨b, off, none⟩, cap, by rw [hl], .inr ⟨b, off, rfl, Nat.lt_of_lt_of_le h1 hW.size, fun i hi => (hW.cell (p := ⟨b, off + i, none⟩) hbk).trans (HC.out i hi)⟩⟩
 have HSL := Lib.hid hSL
 clear hSL
 have hs : ∀ w : World, Calls Tryz.prog 56 #[.int .i64 2] w fun e w' => e = .returned (.tuple #[.int .i64 32, .int .i64 32, .int .i64 8]) ∧ w' = w := sizes_ok false
 go_enter Tryz.func41, Tryz.ntmps41
 go_wp2_with fail
 refine (right_any false _ _ _ _).mono ?_; rintro e w1 ⟨⟨x, rfl, hx⟩, rfl⟩
 obtain rfl : x = 0 := hx.2 (by rfl)
 clear hx
 go_wp2_with fail
 refine (hs _).mono ?_; rintro e w1 ⟨rfl, rfl⟩
 go_wp2_with fail
 have hbA : Below b0 w (w.alloc (.cells #[.int .i64 0, .int .i64 0, .int .i64 0, .int .i64 0, .int .u32 0, .int .u64 0, .int .u32 0, .int .i64 0, .int .i64 0, .slice none 0 0, .slice none 0 0] 76)) := by rw [← hb0]; exact (Below.refl _ _).alloc (Nat.le_refl _) _
 go_wp2_with fail
 refine (rows_ok false _).mono ?_; rintro e w2 ⟨⟨rb, rfl, hrb, hrows⟩, hbr⟩
 have hs1 : (w.alloc (.cells #[.int .i64 0, .int .i64 0, .int .i64 0, .int .i64 0, .int .u32 0, .int .u64 0, .int .u32 0, .int .i64 0, .int .i64 0, .slice none 0 0, .slice none 0 0] 76)).heap.size = b0 + 1 := by simp [hb0]
 rw [hs1] at hrb hbr
 have hb2 : Below b0 w w2 := hbA.trans (hbr.mono (by omega))
 have hs2 : b0 + 1 ≤ w2.heap.size := by rw [← hs1]; exact hbr.size
 have HR := Lib.hid (show w2.heap[b0]? = some (.cells #[.int .i64 0, .int .i64 0, .int .i64 0, .int .i64 0, .int .u32 0, .int .u64 0, .int .u32 0, .int .i64 0, .int .i64 0, .slice none 0 0, .slice none 0 0] 76 (0, 0)) from (hbr.block b0 (by omega)).trans (by rw [← hb0]; exact World.alloc_heap_new w _))
 have R8 := Lib.hid (show w2.cell? ⟨rb, 36, none⟩ = some (.int .i64 14) from (hrows.2 8 (by decide) (by decide)).2.1)
 have R9 := Lib.hid (show w2.cell? ⟨rb, 41, none⟩ = some (.int .i64 15) from (hrows.2 9 (by decide) (by decide)).2.1)
 have R6 := Lib.hid (show w2.cell? ⟨rb, 27, none⟩ = some (.int .i64 6) from (hrows.2 6 (by decide) (by decide)).2.2)
 have R7 := Lib.hid (show w2.cell? ⟨rb, 31, none⟩ = some (.int .i64 12) from (hrows.2 7 (by decide) (by decide)).2.1)
 have S7 := Lib.hid (show w2.cell? ⟨rb, 32, none⟩ = some (.int .i64 2) from (hrows.2 7 (by decide) (by decide)).2.2)
 have hrl := hrows.1
 clear hrows hbr hbA
 go_wp2_with fail
 have hwr : Below w2.heap.size w2 w2.drew := (Below.refl _ _).drew
 refine wp_region_below (n := 37) (w0 := w2) (B := w2.heap.size) [45, 46, 47, 48, 49, 50, 51, 52, 53, 54, 55, 56, 57, 58, 59, 60, 61, 62, 63, 64, 65, 66, 67, 68, 69, 70, 71, 72, 73, 74, 75, 76, 77, 78, 79, 80, 15] [(vl (.slice (some ⟨b, off, none⟩) 32 cap)), (vl (.pointer (some ⟨b, off, none⟩))), (vl (.int .u8 z0)), (vl (.int .i64 z0)), (vl (.slice (some ⟨b, off, none⟩) 32 cap)), (vl (.pointer (some ⟨b, off + 1, none⟩))), (vl (.int .u8 z1)), (vl (.int .i64 z1)), (vl (.slice (some ⟨b, off, none⟩) 32 cap)), (vl (.pointer (some ⟨b, off + 2, none⟩))), (vl (.int .u8 z2)), (vl (.int .i64 z2)), (vl (.slice (some ⟨b, off, none⟩) 32 cap)), (vl (.pointer (some ⟨b, off + 3, none⟩))), (vl (.int .u8 z3)), (vl (.int .i64 z3)), (vl (.slice (some ⟨b, off, none⟩) 32 cap)), (vl (.int .u64 L4)), (vl (.int .u32 L4)), (vl (.slice (some ⟨b, off, none⟩) 32 cap)), (vl (.slice (some ⟨rb, 0, none⟩) 9 9)), (vl (.pointer (some ⟨rb, 35, none⟩))), (vl (.pointer (some ⟨rb, 36, none⟩))), (vl (.int .i64 14)), (vl (.pointer (some ⟨b, off + 14, none⟩))), (vl (.int .u8 z14)), (vl (.int .i64 z14)), (vl (.slice (some ⟨b, off, none⟩) 32 cap)), (vl (.slice (some ⟨rb, 0, none⟩) 9 9)), (vl (.pointer (some ⟨rb, 40, none⟩))), (vl (.pointer (some ⟨rb, 41, none⟩))), (vl (.int .i64 15)), (vl (.pointer (some ⟨b, off + 15, none⟩))), (vl (.int .u8 z15)), (vl (.int .i64 z15)), (vl (.agg #[.int .i64 z0, .int .i64 z1, .int .i64 z2, .int .i64 z3, .int .u32 L4, .int .u64 0, .int .u32 0, .int .i64 z14, .int .i64 z15, .slice none 0 0, .slice none 0 0])), (fun u W => ∃ p, u = .pointer (some ⟨p, 0, none⟩) ∧ w2.heap.size ≤ p ∧ W.heap[p]? = some (.cells #[.int .i64 0, .int .i64 0, .int .i64 0, .int .i64 0, .int .u32 0, .int .u64 0, .int .u32 0, .int .i64 0, .int .i64 0, .slice none 0 0, .slice none 0 0] 76 (0, 0)))] (by dsimp only [List.take]) (by dsimp only [List.drop]) rfl (by rfl) (by decide) (by kernel_rfl) (by rfl) (by kernel_rfl) (by kernel_rfl) hwr (Nat.le_refl _) ?_ ?_ ?_
 ·exact ⟨kV, kV, kV, kV, kV, kV, kV, kV, kV, kV, kV, kV, kV, kV, kV, kV, kV, kV, kV, kV, kV, kV, kV, kV, kV, kV, kV, kV, kV, kV, kV, kV, kV, kV, kV, kV, (fun _ _ _ h hb => by obtain ⟨p, e, h3, h4⟩ := h; exact ⟨p, e, h3, rowStay h4 hb⟩), trivial⟩
 ·refine eachO_8 ?_ ?_ ?_ ?_ ?_ ?_ ?_ ?_ (eachO_8 ?_ ?_ ?_ ?_ ?_ ?_ ?_ ?_ (eachO_8 ?_ ?_ ?_ ?_ ?_ ?_ ?_ ?_ (eachO_8 ?_ ?_ ?_ ?_ ?_ ?_ ?_ ?_ (eachO_cons ?_ (eachO_cons ?_ (eachO_cons ?_ (eachO_cons ?_ (eachO_cons ?_ (eachO_nil)))))))))
  ·intro A x W hA hW hBW hdep K hK
   have a1 := hA.2 1 (by decide)
   conv at a1 => rhs; whnf
   clear hdep hA
   go_simp
   exact hK _ _ BR rfl
  ·intro A x W hA hW hBW hdep K hK
   have g45 := gv hA hdep 0 45
   clear hdep hA
   go_simp
   exact hK _ _ BR rfl
  ·intro A x W hA hW hBW hdep K hK
   have g46 := gv hA hdep 1 46
   clear hdep hA
   have c0 := ((hb2.trans (hW.mono (by omega))).cell (p := ⟨b, off, none⟩) hbk).trans HZ0.out
   have k0 : b < W.heap.size := by omega
   go_simp
   exact hK _ _ BR rfl
  ·intro A x W hA hW hBW hdep K hK
   have g47 := gv hA hdep 2 47
   clear hdep hA
   have q0 : IntKind.i64.wrap z0 = z0 := by rw [IntKind.wrap_i64]; omega
   go_simp
   exact hK _ _ BR rfl
  ·intro A x W hA hW hBW hdep K hK
   have a1 := hA.2 1 (by decide)
   conv at a1 => rhs; whnf
   clear hdep hA
   go_simp
   exact hK _ _ BR rfl
  ·intro A x W hA hW hBW hdep K hK
   have g49 := gv hA hdep 4 49
   clear hdep hA
   go_simp
   exact hK _ _ BR rfl
  ·intro A x W hA hW hBW hdep K hK
   have g50 := gv hA hdep 5 50
   clear hdep hA
   have c0 := ((hb2.trans (hW.mono (by omega))).cell (p := ⟨b, off + 1, none⟩) hbk).trans HZ1.out
   have k0 : b < W.heap.size := by omega
   go_simp
   exact hK _ _ BR rfl
  ·intro A x W hA hW hBW hdep K hK
   have g51 := gv hA hdep 6 51
   clear hdep hA
   have q0 : IntKind.i64.wrap z1 = z1 := by rw [IntKind.wrap_i64]; omega
   go_simp
   exact hK _ _ BR rfl
  ·intro A x W hA hW hBW hdep K hK
   have a1 := hA.2 1 (by decide)
   conv at a1 => rhs; whnf
   clear hdep hA
   go_simp
   exact hK _ _ BR rfl
  ·intro A x W hA hW hBW hdep K hK
   have g53 := gv hA hdep 8 53
   clear hdep hA
   go_simp
   exact hK _ _ BR rfl
  ·intro A x W hA hW hBW hdep K hK
   have g54 := gv hA hdep 9 54
   clear hdep hA
   have c0 := ((hb2.trans (hW.mono (by omega))).cell (p := ⟨b, off + 2, none⟩) hbk).trans HZ2.out
   have k0 : b < W.heap.size := by omega
   go_simp
   exact hK _ _ BR rfl
  ·intro A x W hA hW hBW hdep K hK
   have g55 := gv hA hdep 10 55
   clear hdep hA
   have q0 : IntKind.i64.wrap z2 = z2 := by rw [IntKind.wrap_i64]; omega
   go_simp
   exact hK _ _ BR rfl
  ·intro A x W hA hW hBW hdep K hK
   have a1 := hA.2 1 (by decide)
   conv at a1 => rhs; whnf
   clear hdep hA
   go_simp
   exact hK _ _ BR rfl
  ·intro A x W hA hW hBW hdep K hK
   have g57 := gv hA hdep 12 57
   clear hdep hA
   go_simp
   exact hK _ _ BR rfl
  ·intro A x W hA hW hBW hdep K hK
   have g58 := gv hA hdep 13 58
   clear hdep hA
   have c0 := ((hb2.trans (hW.mono (by omega))).cell (p := ⟨b, off + 3, none⟩) hbk).trans HZ3.out
   have k0 : b < W.heap.size := by omega
   go_simp
   exact hK _ _ BR rfl
  ·intro A x W hA hW hBW hdep K hK
   have g59 := gv hA hdep 14 59
   clear hdep hA
   have q0 : IntKind.i64.wrap z3 = z3 := by rw [IntKind.wrap_i64]; omega
   go_simp
   exact hK _ _ BR rfl
  ·intro A x W hA hW hBW hdep K hK
   have a1 := hA.2 1 (by decide)
   conv at a1 => rhs; whnf
   clear hdep hA
   go_simp
   exact hK _ _ BR rfl
  ·intro A x W hA hW hBW hdep K hK
   have g61 := gv hA hdep 16 61
   clear hdep hA
   go_simp
   refine (get_ok zs _ 4 4 _ (HSL.out W (hb2.trans (hW.mono (by omega)))) hz (by omega) (by omega) (by omega)).mono ?_
   rintro r w3 ⟨rfl, rfl⟩
   rw [hL4]
   exact hK _ _ BR rfl
  ·intro A x W hA hW hBW hdep K hK
   have g62 := gv hA hdep 17 62
   clear hdep hA
   have q0 : IntKind.u32.wrap L4 = L4 := u32_wrap_id _ (by omega) (by omega)
   go_simp
   exact hK _ _ BR rfl
  ·intro A x W hA hW hBW hdep K hK
   have a1 := hA.2 1 (by decide)
   conv at a1 => rhs; whnf
   clear hdep hA
   go_simp
   exact hK _ _ BR rfl
  ·intro A x W hA hW hBW hdep K hK
   have a14 := hA.2 14 (by decide)
   conv at a14 => rhs; whnf
   clear hdep hA
   go_simp
   exact hK _ _ BR rfl
  ·intro A x W hA hW hBW hdep K hK
   have g65 := gv hA hdep 20 65
   clear hdep hA
   go_simp
   exact hK _ _ BR rfl
  ·intro A x W hA hW hBW hdep K hK
   have g66 := gv hA hdep 21 66
   clear hdep hA
   go_simp
   exact hK _ _ BR rfl
  ·intro A x W hA hW hBW hdep K hK
   have g67 := gv hA hdep 22 67
   clear hdep hA
   have c0 := (hW.cell (p := ⟨rb, 36, none⟩) hrl).trans R8.out
   have k0 : rb < W.heap.size := by omega
   go_simp
   exact hK _ _ BR rfl
  ·intro A x W hA hW hBW hdep K hK
   have g64 := gv hA hdep 19 64
   have g68 := gv hA hdep 23 68
   clear hdep hA
   go_simp
   exact hK _ _ BR rfl
  ·intro A x W hA hW hBW hdep K hK
   have g69 := gv hA hdep 24 69
   clear hdep hA
   have c0 := ((hb2.trans (hW.mono (by omega))).cell (p := ⟨b, off + 14, none⟩) hbk).trans HZ14.out
   have k0 : b < W.heap.size := by omega
   go_simp
   exact hK _ _ BR rfl
  ·intro A x W hA hW hBW hdep K hK
   have g70 := gv hA hdep 25 70
   clear hdep hA
   have q0 : IntKind.i64.wrap z14 = z14 := by rw [IntKind.wrap_i64]; omega
   go_simp
   exact hK _ _ BR rfl
  ·intro A x W hA hW hBW hdep K hK
   have a1 := hA.2 1 (by decide)
   conv at a1 => rhs; whnf
   clear hdep hA
   go_simp
   exact hK _ _ BR rfl
  ·intro A x W hA hW hBW hdep K hK
   have a14 := hA.2 14 (by decide)
   conv at a14 => rhs; whnf
   clear hdep hA
   go_simp
   exact hK _ _ BR rfl
  ·intro A x W hA hW hBW hdep K hK
   have g73 := gv hA hdep 28 73
   clear hdep hA
   go_simp
   exact hK _ _ BR rfl
  ·intro A x W hA hW hBW hdep K hK
   have g74 := gv hA hdep 29 74
   clear hdep hA
   go_simp
   exact hK _ _ BR rfl
  ·intro A x W hA hW hBW hdep K hK
   have g75 := gv hA hdep 30 75
   clear hdep hA
   have c0 := (hW.cell (p := ⟨rb, 41, none⟩) hrl).trans R9.out
   have k0 : rb < W.heap.size := by omega
   go_simp
   exact hK _ _ BR rfl
  ·intro A x W hA hW hBW hdep K hK
   have g72 := gv hA hdep 27 72
   have g76 := gv hA hdep 31 76
   clear hdep hA
   go_simp
   exact hK _ _ BR rfl
  ·intro A x W hA hW hBW hdep K hK
   have g77 := gv hA hdep 32 77
   clear hdep hA
   have c0 := ((hb2.trans (hW.mono (by omega))).cell (p := ⟨b, off + 15, none⟩) hbk).trans HZ15.out
   have k0 : b < W.heap.size := by omega
   go_simp
   exact hK _ _ BR rfl
  ·intro A x W hA hW hBW hdep K hK
   have g78 := gv hA hdep 33 78
   clear hdep hA
   have q0 : IntKind.i64.wrap z15 = z15 := by rw [IntKind.wrap_i64]; omega
   go_simp
   exact hK _ _ BR rfl
  ·intro A x W hA hW hBW hdep K hK
   have g48 := gv hA hdep 3 48
   have g52 := gv hA hdep 7 52
   have g56 := gv hA hdep 11 56
   have g60 := gv hA hdep 15 60
   have g63 := gv hA hdep 18 63
   have g71 := gv hA hdep 26 71
   have g79 := gv hA hdep 34 79
   clear hdep hA
   refine wp_build_as 76 _ rfl #[.int .i64 z0, .int .i64 z1, .int .i64 z2, .int .i64 z3, .int .u32 L4, .int .u64 0, .int .u32 0, .int .i64 z14, .int .i64 z15, .slice none 0 0, .slice none 0 0] ?_ (hK _ _ (Below.refl _ _) rfl)
   simp only [List.map_toArray, List.map_cons, List.map_nil, Act.eval, g48, g52, g56, g60, g63, g71, g79]
   rfl
  ·intro A x W hA hW hBW hdep K hK
   clear hdep hA
   go_simp
   exact hK _ _ ((Below.refl _ _).alloc (Nat.le_refl _) _) ⟨W.heap.size, rfl, hBW, World.alloc_heap_new W _⟩
 intro x W hW hBW hall
 obtain ⟨e45, e46, e47, e48, e49, e50, e51, e52, e53, e54, e55, e56, e57, e58, e59, e60, e61, e62, e63, e64, e65, e66, e67, e68, e69, e70, e71, e72, e73, e74, e75, e76, e77, e78, e79, e80, e15, -⟩ := hall
 change x 45 = (.slice (some ⟨b, off, none⟩) 32 cap : Value) at e45
 change x 46 = (.pointer (some ⟨b, off, none⟩) : Value) at e46
 change x 47 = (.int .u8 z0 : Value) at e47
 change x 48 = (.int .i64 z0 : Value) at e48
 change x 49 = (.slice (some ⟨b, off, none⟩) 32 cap : Value) at e49
 change x 50 = (.pointer (some ⟨b, off + 1, none⟩) : Value) at e50
 change x 51 = (.int .u8 z1 : Value) at e51
 change x 52 = (.int .i64 z1 : Value) at e52
 change x 53 = (.slice (some ⟨b, off, none⟩) 32 cap : Value) at e53
 change x 54 = (.pointer (some ⟨b, off + 2, none⟩) : Value) at e54
 change x 55 = (.int .u8 z2 : Value) at e55
 change x 56 = (.int .i64 z2 : Value) at e56
 change x 57 = (.slice (some ⟨b, off, none⟩) 32 cap : Value) at e57
 change x 58 = (.pointer (some ⟨b, off + 3, none⟩) : Value) at e58
 change x 59 = (.int .u8 z3 : Value) at e59
 change x 60 = (.int .i64 z3 : Value) at e60
 change x 61 = (.slice (some ⟨b, off, none⟩) 32 cap : Value) at e61
 change x 62 = (.int .u64 L4 : Value) at e62
 change x 63 = (.int .u32 L4 : Value) at e63
 change x 64 = (.slice (some ⟨b, off, none⟩) 32 cap : Value) at e64
 change x 65 = (.slice (some ⟨rb, 0, none⟩) 9 9 : Value) at e65
 change x 66 = (.pointer (some ⟨rb, 35, none⟩) : Value) at e66
 change x 67 = (.pointer (some ⟨rb, 36, none⟩) : Value) at e67
 change x 68 = (.int .i64 14 : Value) at e68
 change x 69 = (.pointer (some ⟨b, off + 14, none⟩) : Value) at e69
 change x 70 = (.int .u8 z14 : Value) at e70
 change x 71 = (.int .i64 z14 : Value) at e71
 change x 72 = (.slice (some ⟨b, off, none⟩) 32 cap : Value) at e72
 change x 73 = (.slice (some ⟨rb, 0, none⟩) 9 9 : Value) at e73
 change x 74 = (.pointer (some ⟨rb, 40, none⟩) : Value) at e74
 change x 75 = (.pointer (some ⟨rb, 41, none⟩) : Value) at e75
 change x 76 = (.int .i64 15 : Value) at e76
 change x 77 = (.pointer (some ⟨b, off + 15, none⟩) : Value) at e77
 change x 78 = (.int .u8 z15 : Value) at e78
 change x 79 = (.int .i64 z15 : Value) at e79
 change x 80 = (.agg #[.int .i64 z0, .int .i64 z1, .int .i64 z2, .int .i64 z3, .int .u32 L4, .int .u64 0, .int .u32 0, .int .i64 z14, .int .i64 z15, .slice none 0 0, .slice none 0 0] : Value) at e80
 change (fun u W => ∃ p, u = .pointer (some ⟨p, 0, none⟩) ∧ w2.heap.size ≤ p ∧ W.heap[p]? = some (.cells #[.int .i64 0, .int .i64 0, .int .i64 0, .int .i64 0, .int .u32 0, .int .u64 0, .int .u32 0, .int .i64 0, .int .i64 0, .slice none 0 0, .slice none 0 0] 76 (0, 0))) (x 15) W at e15
 obtain ⟨p, ep, hp1, hp2⟩ := e15
 refine thenTail_cons ?_
 simp only [lay, Act.put, List.setIfInBounds_toArray, List.set_cons_zero, List.set_cons_succ, ep, e45, e46, e47, e48, e49, e50, e51, e52, e53, e54, e55, e56, e57, e58, e59, e60, e61, e62, e63, e64, e65, e66, e67, e68, e69, e70, e71, e72, e73, e74, e75, e76, e77, e78, e79, e80]
 clear e45 e46 e47 e48 e49 e50 e51 e52 e53 e54 e55 e56 e57 e58 e59 e60 e61 e62 e63 e64 e65 e66 e67 e68 e69 e70 e71 e72 e73 e74 e75 e76 e77 e78 e79 e80
 refine wpList_store_row rfl 76 _ _ rfl p #[.int .i64 z0, .int .i64 z1, .int .i64 z2, .int .i64 z3, .int .u32 L4, .int .u64 0, .int .u32 0, .int .i64 z14, .int .i64 z15, .slice none 0 0, .slice none 0 0] rfl rfl 76 _ hp2 (by kernel_rfl) rfl (by simp [Value.oneCell']) ?_
 refine thenTail_nil ?_
 have hB3 : Below w2.heap.size w2 (W.setRow p #[.int .i64 z0, .int .i64 z1, .int .i64 z2, .int .i64 z3, .int .u32 L4, .int .u64 0, .int .u32 0, .int .i64 z14, .int .i64 z15, .slice none 0 0, .slice none 0 0]) := below_setRow hW hp1 _
 have hR3 := setRow_heap W p _ #[.int .i64 z0, .int .i64 z1, .int .i64 z2, .int .i64 z3, .int .u32 L4, .int .u64 0, .int .u32 0, .int .i64 z14, .int .i64 z15, .slice none 0 0, .slice none 0 0] _ _ hp2
 generalize W.setRow p #[.int .i64 z0, .int .i64 z1, .int .i64 z2, .int .i64 z3, .int .u32 L4, .int .u64 0, .int .u32 0, .int .i64 z14, .int .i64 z15, .slice none 0 0, .slice none 0 0] = W3 at hB3 hR3 ⊢
 clear ep hp2 hW hBW x W hwr
 have hs3 := hB3.size
 have hp3 : p < W3.heap.size := (Array.getElem?_eq_some_iff.1 hR3).1
 have c5 := cell_of_heap hR3 5
 have f5 := frozen_of_row W3 p 5 _ _ hR3
 have c27 := (hB3.cell (p := ⟨rb, 27, none⟩) hrl).trans R6.out
 have krb : rb < W3.heap.size := by omega
 go_upto_region 14 with (fail)
 go_wp2_with fail
 refine (get_ok zs _ 8 6 _ (HSL.out _ (hb2.trans (hB3.mono (by omega)))) hz (by omega) (by omega) (by omega)).mono ?_; rintro r w3 ⟨rfl, hw⟩
 rw [hw]; clear hw w3
 rw [hOF]
 go_upto_region 15 with (fail)
 have hB4 : Below w2.heap.size w2 (W3.setCell ⟨p, 5, none⟩ (.int .u64 OF)) := hB3.setCell hp1 _
 have hR4 : (W3.setCell ⟨p, 5, none⟩ (.int .u64 OF)).heap[p]? = some (.cells #[.int .i64 z0, .int .i64 z1, .int .i64 z2, .int .i64 z3, .int .u32 L4, .int .u64 OF, .int .u32 0, .int .i64 z14, .int .i64 z15, .slice none 0 0, .slice none 0 0] 76 (0, 0)) := heap_setCell_same W3 p 5 _ _ _ hR3
 generalize W3.setCell ⟨p, 5, none⟩ (.int .u64 OF) = W4 at hB4 hR4 ⊢
 clear c5 f5 c27 krb hs3 hp3 hR3 hB3 W3
 have hs4 := hB4.size
 have hp4 : p < W4.heap.size := (Array.getElem?_eq_some_iff.1 hR4).1
 have c5 := cell_of_heap hR4 5
 have f5 := frozen_of_row W4 p 5 _ _ hR4
 go_upto_region 16 with (fail)
 go_wp2_with fail
 refine (get_ok zs _ 8 4 _ (HSL.out _ (hb2.trans (hB4.mono (by omega)))) hz (by omega) (by omega) (by omega)).mono ?_; rintro r w3 ⟨rfl, hw⟩
 rw [hw]; clear hw w3
 rw [hO4]
 go_upto_region 17 with (fail)
 have hB5 : Below w2.heap.size w2 (W4.setCell ⟨p, 5, none⟩ (.int .u64 O4)) := hB4.setCell hp1 _
 have hR5 : (W4.setCell ⟨p, 5, none⟩ (.int .u64 O4)).heap[p]? = some (.cells #[.int .i64 z0, .int .i64 z1, .int .i64 z2, .int .i64 z3, .int .u32 L4, .int .u64 O4, .int .u32 0, .int .i64 z14, .int .i64 z15, .slice none 0 0, .slice none 0 0] 76 (0, 0)) := heap_setCell_same W4 p 5 _ _ _ hR4
 generalize W4.setCell ⟨p, 5, none⟩ (.int .u64 O4) = W5 at hB5 hR5 ⊢
 clear c5 f5 hs4 hp4 hR4 hB4 W4
 have hs5 := hB5.size
 have hp5 : p < W5.heap.size := (Array.getElem?_eq_some_iff.1 hR5).1
 have C31 := Lib.hid ((hB5.cell (p := ⟨rb, 31, none⟩) hrl).trans R7.out)
 have C32 := Lib.hid ((hB5.cell (p := ⟨rb, 32, none⟩) hrl).trans S7.out)
 refine wp_region_below (n := 11) (w0 := W5) (B := W5.heap.size) [92, 93, 94, 95, 96, 97, 98, 99, 100, 101, 102] [(vl (.slice (some ⟨b, off, none⟩) 32 cap)), (vl (.slice (some ⟨rb, 0, none⟩) 9 9)), (vl (.pointer (some ⟨rb, 30, none⟩))), (vl (.pointer (some ⟨rb, 31, none⟩))), (vl (.int .i64 12)), (vl (.slice (some ⟨rb, 0, none⟩) 9 9)), (vl (.pointer (some ⟨rb, 30, none⟩))), (vl (.pointer (some ⟨rb, 32, none⟩))), (vl (.int .i64 2)), (vl (.int .u64 X)), (vl (.int .u32 X))] (by dsimp only [List.take]) (by dsimp only [List.drop]) rfl (by rfl) (by decide) (by kernel_rfl) (by rfl) (by kernel_rfl) (by kernel_rfl) (Below.refl _ _).drew (Nat.le_refl _) ?_ ?_ ?_
 ·exact ⟨kV, kV, kV, kV, kV, kV, kV, kV, kV, kV, kV, trivial⟩
 ·refine eachO_8 ?_ ?_ ?_ ?_ ?_ ?_ ?_ ?_ (eachO_cons ?_ (eachO_cons ?_ (eachO_cons ?_ (eachO_nil))))
  ·intro A x W hA hW hBW hdep K hK
   have a1 := hA.2 1 (by decide)
   conv at a1 => rhs; whnf
   clear hdep hA
   go_simp
   exact hK _ _ BR rfl
  ·intro A x W hA hW hBW hdep K hK
   have a14 := hA.2 14 (by decide)
   conv at a14 => rhs; whnf
   clear hdep hA
   go_simp
   exact hK _ _ BR rfl
  ·intro A x W hA hW hBW hdep K hK
   have g93 := gv hA hdep 1 93
   clear hdep hA
   go_simp
   exact hK _ _ BR rfl
  ·intro A x W hA hW hBW hdep K hK
   have g94 := gv hA hdep 2 94
   clear hdep hA
   go_simp
   exact hK _ _ BR rfl
  ·intro A x W hA hW hBW hdep K hK
   have g95 := gv hA hdep 3 95
   clear hdep hA
   have c0 := (hW.cell (p := ⟨rb, 31, none⟩) (Nat.lt_of_lt_of_le hrl hs5)).trans C31.out
   have k0 : rb < W.heap.size := by omega
   go_simp
   exact hK _ _ BR rfl
  ·intro A x W hA hW hBW hdep K hK
   have a14 := hA.2 14 (by decide)
   conv at a14 => rhs; whnf
   clear hdep hA
   go_simp
   exact hK _ _ BR rfl
  ·intro A x W hA hW hBW hdep K hK
   have g97 := gv hA hdep 5 97
   clear hdep hA
   go_simp
   exact hK _ _ BR rfl
  ·intro A x W hA hW hBW hdep K hK
   have g98 := gv hA hdep 6 98
   clear hdep hA
   go_simp
   exact hK _ _ BR rfl
  ·intro A x W hA hW hBW hdep K hK
   have g99 := gv hA hdep 7 99
   clear hdep hA
   have c0 := (hW.cell (p := ⟨rb, 32, none⟩) (Nat.lt_of_lt_of_le hrl hs5)).trans C32.out
   have k0 : rb < W.heap.size := by omega
   go_simp
   exact hK _ _ BR rfl
  ·intro A x W hA hW hBW hdep K hK
   have g92 := gv hA hdep 0 92
   have g96 := gv hA hdep 4 96
   have g100 := gv hA hdep 8 100
   clear hdep hA
   go_simp
   refine (get_ok zs _ 12 2 _ (HSL.out W (hb2.trans ((hB5.trans (hW.mono hs5)).mono (by omega)))) hz (by omega) (by omega) (by omega)).mono ?_
   rintro r w3 ⟨rfl, rfl⟩
   rw [hX]
   exact hK _ _ BR rfl
  ·intro A x W hA hW hBW hdep K hK
   have g101 := gv hA hdep 9 101
   clear hdep hA
   have q0 : IntKind.u32.wrap X = X := u32_wrap_id _ (by omega) (by omega)
   go_simp
   exact hK _ _ BR rfl
 intro x W hW hBW hall
 obtain ⟨e92, e93, e94, e95, e96, e97, e98, e99, e100, e101, e102, -⟩ := hall
 change x 92 = (.slice (some ⟨b, off, none⟩) 32 cap : Value) at e92
 change x 93 = (.slice (some ⟨rb, 0, none⟩) 9 9 : Value) at e93
 change x 94 = (.pointer (some ⟨rb, 30, none⟩) : Value) at e94
 change x 95 = (.pointer (some ⟨rb, 31, none⟩) : Value) at e95
 change x 96 = (.int .i64 12 : Value) at e96
 change x 97 = (.slice (some ⟨rb, 0, none⟩) 9 9 : Value) at e97
 change x 98 = (.pointer (some ⟨rb, 30, none⟩) : Value) at e98
 change x 99 = (.pointer (some ⟨rb, 32, none⟩) : Value) at e99
 change x 100 = (.int .i64 2 : Value) at e100
 change x 101 = (.int .u64 X : Value) at e101
 change x 102 = (.int .u32 X : Value) at e102
 have hR5W : W.heap[p]? = some (.cells #[.int .i64 z0, .int .i64 z1, .int .i64 z2, .int .i64 z3, .int .u32 L4, .int .u64 O4, .int .u32 0, .int .i64 z14, .int .i64 z15, .slice none 0 0, .slice none 0 0] 76 (0, 0)) := (hW.block p hp5).trans hR5
 have hB5W : Below w2.heap.size w2 W := hB5.trans (hW.mono hs5)
 have c6 := cell_of_heap hR5W 6
 have f6 := frozen_of_row W p 6 _ _ hR5W
 refine thenTail_cons ?_
 simp only [lay, Act.put, List.setIfInBounds_toArray, List.set_cons_zero, List.set_cons_succ, e92, e93, e94, e95, e96, e97, e98, e99, e100, e101, e102]
 clear e92 e93 e94 e95 e96 e97 e98 e99 e100 e101 e102
 go_wp2_with fail
 refine thenTail_cons ?_
 go_wp2_with fail
 have hB6 : Below w2.heap.size w2 (W.setCell ⟨p, 6, none⟩ (.int .u32 X)) := hB5W.setCell hp1 _
 have hR6 : (W.setCell ⟨p, 6, none⟩ (.int .u32 X)).heap[p]? = some (.cells #[.int .i64 z0, .int .i64 z1, .int .i64 z2, .int .i64 z3, .int .u32 L4, .int .u64 O4, .int .u32 X, .int .i64 z14, .int .i64 z15, .slice none 0 0, .slice none 0 0] 76 (0, 0)) := heap_setCell_same W p 6 _ _ _ hR5W
 generalize W.setCell ⟨p, 6, none⟩ (.int .u32 X) = W6 at hB6 hR6 ⊢
 clear c6 f6 hB5 hR5 hs5 hp5 C31 C32 hW hBW x W5
 refine thenTail_nil ?_
 have hs6 := hB6.size
 have hp6 : p < W6.heap.size := (Array.getElem?_eq_some_iff.1 hR6).1
 have c6 := cell_of_heap hR6 6
 have k6 : p < W6.heap.size := hp6
 by_cases hx0 : X = 0
 case pos =>
  have hR0 : W6.heap[b0]? = some (.cells #[.int .i64 0, .int .i64 0, .int .i64 0, .int .i64 0, .int .u32 0, .int .u64 0, .int .u32 0, .int .i64 0, .int .i64 0, .slice none 0 0, .slice none 0 0] 76 (0, 0)) := (hB6.block b0 (by omega)).trans HR.out
  have hBw : Below b0 w W6 := hb2.trans (hB6.mono (by omega))
  rw [hx0] at c6
  go_wp2_with ((with_reducible show wpList _ _ _ (Oper.mk _ (Op.store _ _ _) _ _ _ _ :: _) _ _); refine wpList_store_row rfl 76 _ _ rfl b0 #[.int .i64 0, .int .i64 0, .int .i64 0, .int .i64 0, .int .u32 0, .int .u64 0, .int .u32 0, .int .i64 0, .int .i64 0, .slice none 0 0, .slice none 0 0] rfl rfl 76 _ hR0 (by kernel_rfl) rfl (by simp [Value.oneCell']) ?_)
  exact bodyPost_ret (results_row_tmp rfl _ _ b0 _ _ _ _ rfl (setRow_heap _ b0 _ _ _ _ hR0) Tryz.underlying76 rfl (by kernel_rfl)) rfl ⟨⟨_, 24, rfl, ⟨fun h => by simp at h, fun h => absurd hx0 h.1⟩, fun h => by simp at h, fun _ => rfl⟩, by rw [hb0]; exact below_setRow hBw (Nat.le_refl _) _⟩
 have hx1 : (X == 0) = false := beq_eq_false_iff_ne.2 hx0
 go_upto_region 20 with (fail)
 clear hs6 hp6 c6 k6 hx1
 have k9 : 0 ≤ (cap : Int) := by omega
 have k10 : 32 ≤ (cap : Int) := by omega
 have k11 : 24 ≤ (cap : Int) := by omega
 have hcn1 : ¬ cap = 16 := by omega
 have hcn2 : ¬ cap = 24 := by omega
 refine wp_region_rel (n := 16) (R := fun W => Below w2.heap.size w2 W ∧ ∃ o9, W.heap[p]? = some (.cells #[.int .i64 z0, .int .i64 z1, .int .i64 z2, .int .i64 z3, .int .u32 L4, .int .u64 O4, .int .u32 X, .int .i64 z14, .int .i64 z15, o9, .slice none 0 0] 76 (0, 0))) [108, 109, 110, 111, 112, 113, 114, 115, 116, 117, 118, 119, 120, 121, 122] [(vl (.slice (some ⟨b, off, none⟩) 32 cap)), (vl (.int .i64 32)), (vl (.int .i64 8)), (vl (.int .i64 16)), (vl (.int .i64 16)), (vl (.int .i64 32)), (vl (.int .i64 8)), (vl (.int .i64 24)), (vl (.slice (some ⟨b, off + 16, none⟩) 8 (cap - 16))), (vl (.slice (some ⟨b, off, none⟩) 32 cap)), (vl (.int .i64 32)), (vl (.int .i64 8)), (vl (.int .i64 24)), (vl (.slice (some ⟨b, off + 24, none⟩) 8 (cap - 24))), (vl (.pointer (some ⟨p, 9, none⟩))), (fun _ W => W.heap[p]? = some (.cells #[.int .i64 z0, .int .i64 z1, .int .i64 z2, .int .i64 z3, .int .u32 L4, .int .u64 O4, .int .u32 X, .int .i64 z14, .int .i64 z15, .slice (some ⟨b, off + 16, none⟩) 8 (cap - 16), .slice none 0 0] 76 (0, 0)))] (by dsimp only [List.take]) (by dsimp only [List.drop]) rfl (by rfl) (by decide) (by kernel_rfl) (by rfl) (by kernel_rfl) (by kernel_rfl) ⟨hB6.drew, _, hR6⟩ ?_ ?_ ?_
 ·exact ⟨(fun h => by cases h), (fun h => by cases h), (fun h => by cases h), (fun h => by cases h), (fun h => by cases h), (fun h => by cases h), (fun h => by cases h), (fun h => by cases h), (fun h => by cases h), (fun h => by cases h), (fun h => by cases h), (fun h => by cases h), (fun h => by cases h), (fun h => by cases h), (fun h => by cases h), (fun _ _ _ h => h), trivial⟩
 ·refine eachO_8 ?_ ?_ ?_ ?_ ?_ ?_ ?_ ?_ (eachO_8 ?_ ?_ ?_ ?_ ?_ ?_ ?_ ?_ (eachO_nil))
  ·intro A x W hA hR hdep K hK
   have a1 := hA.2 1 (by decide)
   conv at a1 => rhs; whnf
   clear hdep hA
   go_simp
   exact hK _ _ hR (fun _ _ _ h => h) rfl
  ·intro A x W hA hR hdep K hK
   have a9 := hA.2 9 (by decide)
   conv at a9 => rhs; whnf
   clear hdep hA
   go_simp
   exact hK _ _ hR (fun _ _ _ h => h) rfl
  ·intro A x W hA hR hdep K hK
   have a11 := hA.2 11 (by decide)
   conv at a11 => rhs; whnf
   clear hdep hA
   go_simp
   exact hK _ _ hR (fun _ _ _ h => h) rfl
  ·intro A x W hA hR hdep K hK
   have g110 := gv hA hdep 2 110
   clear hdep hA
   go_simp
   exact hK _ _ hR (fun _ _ _ h => h) rfl
  ·intro A x W hA hR hdep K hK
   have g109 := gv hA hdep 1 109
   have g111 := gv hA hdep 3 111
   clear hdep hA
   go_simp
   exact hK _ _ hR (fun _ _ _ h => h) rfl
  ·intro A x W hA hR hdep K hK
   have a9 := hA.2 9 (by decide)
   conv at a9 => rhs; whnf
   clear hdep hA
   go_simp
   exact hK _ _ hR (fun _ _ _ h => h) rfl
  ·intro A x W hA hR hdep K hK
   have a11 := hA.2 11 (by decide)
   conv at a11 => rhs; whnf
   clear hdep hA
   go_simp
   exact hK _ _ hR (fun _ _ _ h => h) rfl
  ·intro A x W hA hR hdep K hK
   have g113 := gv hA hdep 5 113
   have g114 := gv hA hdep 6 114
   clear hdep hA
   go_simp
   exact hK _ _ hR (fun _ _ _ h => h) rfl
  ·intro A x W hA hR hdep K hK
   have g108 := gv hA hdep 0 108
   have g112 := gv hA hdep 4 112
   have g115 := gv hA hdep 7 115
   clear hdep hA
   go_simp
   exact hK _ _ hR (fun _ _ _ h => h) rfl
  ·intro A x W hA hR hdep K hK
   have a1 := hA.2 1 (by decide)
   conv at a1 => rhs; whnf
   clear hdep hA
   go_simp
   exact hK _ _ hR (fun _ _ _ h => h) rfl
  ·intro A x W hA hR hdep K hK
   have a9 := hA.2 9 (by decide)
   conv at a9 => rhs; whnf
   clear hdep hA
   go_simp
   exact hK _ _ hR (fun _ _ _ h => h) rfl
  ·intro A x W hA hR hdep K hK
   have a11 := hA.2 11 (by decide)
   conv at a11 => rhs; whnf
   clear hdep hA
   go_simp
   exact hK _ _ hR (fun _ _ _ h => h) rfl
  ·intro A x W hA hR hdep K hK
   have g118 := gv hA hdep 10 118
   have g119 := gv hA hdep 11 119
   clear hdep hA
   go_simp
   exact hK _ _ hR (fun _ _ _ h => h) rfl
  ·intro A x W hA hR hdep K hK
   have g117 := gv hA hdep 9 117
   have g120 := gv hA hdep 12 120
   clear hdep hA
   go_simp
   exact hK _ _ hR (fun _ _ _ h => h) rfl
  ·intro A x W hA hR hdep K hK
   have a15 := hA.2 15 (by decide)
   conv at a15 => rhs; whnf
   clear hdep hA
   go_simp
   exact hK _ _ hR (fun _ _ _ h => h) rfl
  ·intro A x W hA hR hdep K hK
   have g122 := gv hA hdep 14 122
   have g116 := gv hA hdep 8 116
   clear hdep hA
   obtain ⟨hWb, o9, hrow⟩ := hR
   have c9 := cell_of_heap hrow 9
   have f9 := frozen_of_row W p 9 _ _ hrow
   go_simp
   exact hK undef _ ⟨hWb.setCell hp1 _, _, heap_setCell_same W p 9 _ _ _ hrow⟩ (fun j u hj h => match j, hj, h with | 0, _, h => h | 1, _, h => h | 2, _, h => h | 3, _, h => h | 4, _, h => h | 5, _, h => h | 6, _, h => h | 7, _, h => h | 8, _, h => h | 9, _, h => h | 10, _, h => h | 11, _, h => h | 12, _, h => h | 13, _, h => h | 14, _, h => h | 15, hj, _ => absurd rfl hj | (_ + 16), _, h => h) (heap_setCell_same W p 9 _ _ _ hrow)
 intro x W hR hall
 obtain ⟨e108, e109, e110, e111, e112, e113, e114, e115, e116, e117, e118, e119, e120, e121, e122, es15, -⟩ := hall
 change x 108 = (.slice (some ⟨b, off, none⟩) 32 cap : Value) at e108
 change x 109 = (.int .i64 32 : Value) at e109
 change x 110 = (.int .i64 8 : Value) at e110
 change x 111 = (.int .i64 16 : Value) at e111
 change x 112 = (.int .i64 16 : Value) at e112
 change x 113 = (.int .i64 32 : Value) at e113
 change x 114 = (.int .i64 8 : Value) at e114
 change x 115 = (.int .i64 24 : Value) at e115
 change x 116 = (.slice (some ⟨b, off + 16, none⟩) 8 (cap - 16) : Value) at e116
 change x 117 = (.slice (some ⟨b, off, none⟩) 32 cap : Value) at e117
 change x 118 = (.int .i64 32 : Value) at e118
 change x 119 = (.int .i64 8 : Value) at e119
 change x 120 = (.int .i64 24 : Value) at e120
 change x 121 = (.slice (some ⟨b, off + 24, none⟩) 8 (cap - 24) : Value) at e121
 change x 122 = (.pointer (some ⟨p, 9, none⟩) : Value) at e122
 change (fun _ W => W.heap[p]? = some (.cells #[.int .i64 z0, .int .i64 z1, .int .i64 z2, .int .i64 z3, .int .u32 L4, .int .u64 O4, .int .u32 X, .int .i64 z14, .int .i64 z15, .slice (some ⟨b, off + 16, none⟩) 8 (cap - 16), .slice none 0 0] 76 (0, 0))) undef W at es15
 obtain ⟨hWb, -⟩ := hR
 have c10 := cell_of_heap es15 10
 have f10 := frozen_of_row W p 10 _ _ es15
 refine thenTail_cons ?_
 simp only [lay, Act.put, List.setIfInBounds_toArray, List.set_cons_zero, List.set_cons_succ, e108, e109, e110, e111, e112, e113, e114, e115, e116, e117, e118, e119, e120, e121, e122]
 clear e108 e109 e110 e111 e112 e113 e114 e115 e116 e117 e118 e119 e120 e121 e122
 go_wp2_with fail
 refine thenTail_cons ?_
 go_wp2_with fail
 refine thenTail_nil ?_
 have hB5 : Below w2.heap.size w2 (W.setCell ⟨p, 10, none⟩ (.slice (some ⟨b, off + 24, none⟩) 8 (cap - 24))) := hWb.setCell hp1 _
 have hR5 : (W.setCell ⟨p, 10, none⟩ (.slice (some ⟨b, off + 24, none⟩) 8 (cap - 24))).heap[p]? = some (.cells #[.int .i64 z0, .int .i64 z1, .int .i64 z2, .int .i64 z3, .int .u32 L4, .int .u64 O4, .int .u32 X, .int .i64 z14, .int .i64 z15, .slice (some ⟨b, off + 16, none⟩) 8 (cap - 16), .slice (some ⟨b, off + 24, none⟩) 8 (cap - 24)] 76 (0, 0)) := heap_setCell_same W p 10 _ _ _ es15
 generalize W.setCell ⟨p, 10, none⟩ (.slice (some ⟨b, off + 24, none⟩) 8 (cap - 24)) = W5 at hB5 hR5 ⊢
 clear c10 f10 es15 hWb hR6 hB6
 have hs5 := hB5.size
 have hp5 : p < W5.heap.size := (Array.getElem?_eq_some_iff.1 hR5).1
 go_wp2_with ((with_reducible show wpList _ _ _ (Oper.mk _ (Op.load _ _) _ _ _ _ :: _) _ _); refine wpList_load_row rfl 76 _ rfl p rfl _ _ _ _ hR5 Tryz.underlying76 rfl (by kernel_rfl) ?_)
 refine (check_any false z0 z1 z2 z3 L4 O4 X z14 z15 _ _ 8 8 _ _ _ ⟨by omega, by omega⟩ ⟨by omega, by omega⟩ ⟨by omega, by omega⟩ ⟨by omega, fun h => by omega, fun h => by omega⟩ ⟨by omega, fun h => by omega⟩ (by decide) (by decide)).mono ?_; rintro e w6 ⟨⟨n, rfl, hn⟩, hb6⟩
 have hR6 := rowStay hR5 hb6
 have hB6 : Below w2.heap.size w2 w6 := hB5.trans (hb6.mono hs5)
 have hR0 : w6.heap[b0]? = some (.cells #[.int .i64 0, .int .i64 0, .int .i64 0, .int .i64 0, .int .u32 0, .int .u64 0, .int .u32 0, .int .i64 0, .int .i64 0, .slice none 0 0, .slice none 0 0] 76 (0, 0)) := (hB6.block b0 (by omega)).trans HR.out
 have hBw : Below b0 w w6 := hb2.trans (hB6.mono (by omega))
 have hs6 := hB6.size
 have kbw : ∀ i, i < zs.length → w6.cell? ⟨b, off + i, none⟩ = some (.int .u8 (nthz zs i)) := fun i hi => (hBw.cell (p := ⟨b, off + i, none⟩) hbk).trans (HC.out i hi)
 have KB := Lib.hid kbw
 clear kbw hb6 hR5 hB5 hs5 hp5
 have HN := Lib.hid hn
 clear hn
 by_cases hn0 : n = 0
 case neg =>
  go_wp2_with ((with_reducible show wpList _ _ _ (Oper.mk _ (Op.store _ _ _) _ _ _ _ :: _) _ _); refine wpList_store_row rfl 76 _ _ rfl b0 #[.int .i64 0, .int .i64 0, .int .i64 0, .int .i64 0, .int .u32 0, .int .u64 0, .int .u32 0, .int .i64 0, .int .i64 0, .slice none 0 0, .slice none 0 0] rfl rfl 76 _ hR0 (by kernel_rfl) rfl (by simp [Value.oneCell']) ?_)
  exact bodyPost_ret (results_row_tmp rfl _ _ b0 _ _ _ _ rfl (setRow_heap _ b0 _ _ _ _ hR0) Tryz.underlying76 rfl (by kernel_rfl)) rfl ⟨⟨_, n, rfl, ⟨fun h => absurd h hn0, fun h => HN.out.2 h.2⟩, fun h => absurd h hn0, fun _ => rfl⟩, by rw [hb0]; exact below_setRow hBw (Nat.le_refl _) _⟩
 case pos =>
  subst hn0
  go_wp2_with ((with_reducible show wpList _ _ _ (Oper.mk _ (Op.load _ _) _ _ _ _ :: _) _ _); refine wpList_load_row rfl 76 _ rfl p rfl _ _ _ _ hR6 Tryz.underlying76 rfl (by kernel_rfl) ?_)
  have hBT : BytesAt w6 b off zs := ⟨Nat.lt_of_lt_of_le h1 hBw.size, KB.out⟩
  have hNM := normal_ok z0 z1 z2 z3 L4 O4 X z14 z15 ((zs.drop 16).take 8) ((zs.drop 24).take 8) b (off + 16) (cap - 16) b (off + 24) (cap - 24) w6 (bytesSub hBT (by omega)) (bytesSub hBT (by omega)) (by rw [len_sub (by omega)]; omega) (by rw [len_sub (by omega)]; omega) (by rw [len_sub (by omega)]; omega) (by rw [len_sub (by omega)]; omega)
  rw [len_sub (by omega), len_sub (by omega)] at hNM
  refine hNM.mono ?_; rintro e w7 ⟨sa, pe, rfl, os, op, hb7⟩
  clear hNM
  obtain ⟨a5, n5, k5, rfl⟩ := own_slice os
  obtain ⟨a8, n8, k8, rfl⟩ := own_slice op
  have hR7 := rowStay hR0 hb7
  have hB7 : Below b0 w w7 := hBw.trans (hb7.mono (by omega))
  clear os op
  go_wp2_with ((with_reducible show wpList _ _ _ (Oper.mk _ (Op.store _ _ _) _ _ _ _ :: _) _ _); refine wpList_store_row rfl 76 _ _ rfl b0 #[.int .i64 z0, .int .i64 z1, .int .i64 z2, .int .i64 z3, .int .u32 L4, .int .u64 O4, .int .u32 X, .int .i64 z14, .int .i64 z15, .slice a5 n5 k5, .slice a8 n8 k8] rfl rfl 76 _ hR7 (by kernel_rfl) rfl (by simp [Value.oneCell']) ?_)
  exact bodyPost_ret (results_row_tmp rfl _ _ b0 _ _ _ _ rfl (setRow_heap _ b0 _ _ _ _ hR7) Tryz.underlying76 rfl (by kernel_rfl)) rfl ⟨⟨_, 0, rfl, ⟨fun _ => ⟨hx0, HN.out.1 (by trivial)⟩, fun _ => rfl⟩, fun _ => ⟨_, _, _, _, _, _, _, _, _, rfl, rfl, rfl⟩, fun h => absurd rfl h⟩, by rw [hb0]; exact below_setRow hB7 (Nat.le_refl _) _⟩
end Go.Proofs.YtjogmckaakkomaaGreat
/- What the program takes from a block of parameters, all kinds and forms. No condition. -/
namespace Go.Proofs.YtjogmckaakkomaaGreat
open Go.ChangeShapes Go.WideShapes Go.ChangeAt Go.RowKit Go.Joins Go.Shelf Go.Maps
attribute [local go_sem] Oper.semAt_some

/-- A block is one in this form. -/
def okD (big ext : Bool) (zs : List Int) : Prop := zs.length = mB big ∧ (big = true → ∀ i, 18 ≤ i → i < 32 → nthz zs i = 0) ∧ (ext = true → xoZ big ext zs ≠ 0) ∧ okC big (nthz zs 0) (nthz zs 1) (nthz zs 3) (xoZ big ext zs) (nthz zs (atB big 9))
set_option maxRecDepth 100000 in
theorem decode_len (big ext : Bool) (a : Option Addr) (n cap : Nat) (w : World) (hn : n ≠ mB big) :
  Calls Tryz.prog 41 #[.int .i64 (kB big), .slice a n cap, .bool ext] w fun e w' => (∃ m, e = .returned (.tuple #[.agg zeroP, .int .i64 m]) ∧ m ≠ 0) ∧ Below w.heap.size w w' := by
 have hb : Below w.heap.size w (w.alloc (.cells #[.int .i64 0, .int .i64 0, .int .i64 0, .int .i64 0, .int .u32 0, .int .u64 0, .int .u32 0, .int .i64 0, .int .i64 0, .slice none 0 0, .slice none 0 0] 76)) := (Below.refl _ _).alloc (Nat.le_refl _) _
 have hR := World.alloc_heap_new w (.cells #[.int .i64 0, .int .i64 0, .int .i64 0, .int .i64 0, .int .u32 0, .int .u64 0, .int .u32 0, .int .i64 0, .int .i64 0, .slice none 0 0, .slice none 0 0] 76)
 go_enter Tryz.func41, Tryz.ntmps41
 go_wp2_with fail
 refine (right_any big _ _ _ _).mono ?_; rintro e w1 ⟨⟨x, rfl, hx⟩, hw⟩
 rw [hw]; clear hw
 have hx0 : x ≠ 0 := fun h => hn (hx.1 h)
 generalize w.alloc (.cells #[.int .i64 0, .int .i64 0, .int .i64 0, .int .i64 0, .int .u32 0, .int .u64 0, .int .u32 0, .int .i64 0, .int .i64 0, .slice none 0 0, .slice none 0 0] 76) = w2 at *
 go_wp2_with ((with_reducible show wpList _ _ _ (Oper.mk _ (Op.store _ _ _) _ _ _ _ :: _) _ _); refine wpList_store_row rfl 76 _ _ rfl w.heap.size #[.int .i64 0, .int .i64 0, .int .i64 0, .int .i64 0, .int .u32 0, .int .u64 0, .int .u32 0, .int .i64 0, .int .i64 0, .slice none 0 0, .slice none 0 0] rfl rfl 76 _ hR (by kernel_rfl) rfl (by simp [Value.oneCell']) ?_)
 exact bodyPost_ret (results_row_tmp rfl _ _ w.heap.size _ _ _ _ rfl (setRow_heap _ _ _ _ _ _ hR) Tryz.underlying76 rfl (by kernel_rfl)) rfl ⟨⟨x, rfl, hx0⟩, below_setRow hb (Nat.le_refl _) _⟩
theorem first_not {zs : List Int} {a b : Nat} (h : ¬ ∀ i, a ≤ i → i < b → nthz zs i = 0) : ∃ k, a ≤ k ∧ k < b ∧ nthz zs k ≠ 0 ∧ ∀ i, a ≤ i → i < k → nthz zs i = 0 := by
 have hex : ∃ k, a ≤ k ∧ k < b ∧ nthz zs k ≠ 0 := by
  refine Classical.byContradiction fun hn => h fun i h1 h2 => Classical.byContradiction fun h3 => hn ⟨i, h1, h2, h3⟩
 have key : ∀ n, (∃ k, k < n ∧ a ≤ k ∧ k < b ∧ nthz zs k ≠ 0) → ∃ k, a ≤ k ∧ k < b ∧ nthz zs k ≠ 0 ∧ ∀ i, a ≤ i → i < k → nthz zs i = 0 := by
  intro n
  induction n with
  | zero => rintro ⟨k, hk, -⟩; omega
  | succ n ih =>
   rintro ⟨k, hk, h1, h2, h3⟩
   by_cases h4 : ∃ j, j < n ∧ a ≤ j ∧ j < b ∧ nthz zs j ≠ 0
   ·exact ih h4
   ·refine ⟨k, h1, h2, h3, fun i h5 h6 => Classical.byContradiction fun h7 => h4 ⟨i, by omega, h5, by omega, h7⟩⟩
 obtain ⟨k, h1, h2, h3⟩ := hex
 exact key (k + 1) ⟨k, by omega, h1, h2, h3⟩
set_option maxRecDepth 100000 in
set_option maxHeartbeats 1000000 in
theorem decode_mid (ext : Bool) (zs : List Int) (b off cap : Nat) (w : World) (hB : BytesAt w b off zs) (hcap : 64 ≤ cap) (hl : zs.length = 64) (k0 : Nat) (hk1 : 18 ≤ k0) (hk2 : k0 < 32) (hk3 : nthz zs k0 ≠ 0) (hk4 : ∀ i, 18 ≤ i → i < k0 → nthz zs i = 0) :
  Calls Tryz.prog 41 #[.int .i64 1, .slice (some ⟨b, off, none⟩) 64 cap, .bool ext] w fun e w' => (∃ m, e = .returned (.tuple #[.agg zeroP, .int .i64 m]) ∧ m ≠ 0) ∧ Below w.heap.size w w' := by
 obtain ⟨h1, h2⟩ := id hB
 have HC := Lib.hid h2
 have hb : Below w.heap.size w (w.alloc (.cells #[.int .i64 0, .int .i64 0, .int .i64 0, .int .i64 0, .int .u32 0, .int .u64 0, .int .u32 0, .int .i64 0, .int .i64 0, .slice none 0 0, .slice none 0 0] 76)) := (Below.refl _ _).alloc (Nat.le_refl _) _
 have hR := World.alloc_heap_new w (.cells #[.int .i64 0, .int .i64 0, .int .i64 0, .int .i64 0, .int .u32 0, .int .u64 0, .int .u32 0, .int .i64 0, .int .i64 0, .slice none 0 0, .slice none 0 0] 76)
 obtain ⟨b0, hb0⟩ : ∃ b0, w.heap.size = b0 := ⟨_, rfl⟩
 rw [hb0] at hR hb h1
 have hs : ∀ w : World, Calls Tryz.prog 56 #[.int .i64 1] w fun e w' => e = .returned (.tuple #[.int .i64 64, .int .i64 64, .int .i64 16]) ∧ w' = w := sizes_ok true
 clear h2 hB
 go_enter Tryz.func41, Tryz.ntmps41
 go_wp2_with fail
 refine (right_any true _ _ _ _).mono ?_; rintro e w1 ⟨⟨x, rfl, hx⟩, hw⟩
 rw [hw]; clear hw
 obtain rfl : x = 0 := hx.2 rfl
 clear hx
 generalize w.alloc (.cells #[.int .i64 0, .int .i64 0, .int .i64 0, .int .i64 0, .int .u32 0, .int .u64 0, .int .u32 0, .int .i64 0, .int .i64 0, .slice none 0 0, .slice none 0 0] 76) = w2 at *
 go_wp2_with fail
 refine (hs _).mono ?_; rintro e w3 ⟨rfl, hw⟩
 rw [hw]; clear hw
 go_wp2_with fail
 go_loopw [35] (fun i wr => ∃ k : Nat, i = .int .i64 k ∧ 18 + k ≤ k0 ∧ w2 = wr) (fun i _ => 14 - (intOf i).toNat)
 case atStart => exact ⟨0, rfl, by omega, rfl⟩
 case round =>
  obtain ⟨k, rfl, hk, rfl⟩ := hrel
  have hc := (hb.cell (p := ⟨b, off + (18 + k), none⟩) h1).trans (HC.out (18 + k) (by omega))
  rw [← Nat.add_assoc] at hc
  have k5 : (k : Int) < 14 := by omega
  by_cases hlt : 18 + k < k0
  ·rw [hk4 (18 + k) (by omega) hlt] at hc
   go_wp2
   exact ⟨⟨k + 1, rfl, by omega, by trivial⟩, by simp [intOf]; omega⟩
  ·have e : 18 + k = k0 := by omega
   rw [e] at hc
   have q2 : (nthz zs k0 == 0) = false := beq_eq_false_iff_ne.2 hk3
   generalize nthz zs k0 = z at hc q2
   clear hk3 hk4 e
   go_wp2_with ((with_reducible show wpList _ _ _ (Oper.mk _ (Op.store _ _ _) _ _ _ _ :: _) _ _); refine wpList_store_row rfl 76 _ _ rfl b0 #[.int .i64 0, .int .i64 0, .int .i64 0, .int .i64 0, .int .u32 0, .int .u64 0, .int .u32 0, .int .i64 0, .int .i64 0, .slice none 0 0, .slice none 0 0] rfl rfl 76 _ hR (by kernel_rfl) rfl (by simp [Value.oneCell']) ?_)
   exact bodyPost_ret (results_row_tmp rfl _ _ b0 _ _ _ _ rfl (setRow_heap _ _ _ _ _ _ hR) Tryz.underlying76 rfl (by kernel_rfl)) rfl ⟨⟨4, rfl, by decide⟩, by rw [hb0]; exact below_setRow hb (Nat.le_refl _) _⟩
/-- THE PROGRAM'S DECODE. -/
theorem decode_any (big ext : Bool) (zs : List Int) (v : Value) (w : World) (h : Holds8 w v zs) (hz : ∀ z ∈ zs, 0 ≤ z ∧ z ≤ 255) (hcap : ∀ a n c, v = .slice a n c → n ≤ c ∧ (c : Int) ≤ 9223372036854775807) :
  Calls Tryz.prog 41 #[.int .i64 (kB big), v, .bool ext] w fun e w' => (∃ p n, e = .returned (.tuple #[p, .int .i64 n]) ∧ (n = 0 ↔ okD big ext zs) ∧ (n = 0 → ∃ fo dp lf ofs xo nd inr sa pe, p = parV (nthz zs 0) (nthz zs 1) fo dp lf ofs xo nd inr sa pe ∧ sa.oneCell' = true ∧ pe.oneCell' = true) ∧ (n ≠ 0 → p = .agg zeroP)) ∧ Below w.heap.size w w' := by
 obtain ⟨a, cap, rfl, h⟩ := h
 by_cases hl : zs.length = mB big
 case neg =>
  refine (decode_len big ext a zs.length cap w hl).mono ?_
  rintro e w' ⟨⟨m, rfl, hm⟩, hb⟩
  exact ⟨⟨_, m, rfl, ⟨fun h => absurd h hm, fun h => absurd h.1 hl⟩, fun h => absurd h hm, fun _ => rfl⟩, hb⟩
 case pos =>
 obtain ⟨b, off, rfl, hB⟩ := h.resolve_left (fun e => by rw [e] at hl; cases big <;> simp [mB] at hl)
 obtain ⟨hc1, hc2⟩ := hcap _ _ _ rfl
 by_cases hm : big = true → ∀ i, 18 ≤ i → i < 32 → nthz zs i = 0
 case neg =>
  obtain ⟨rfl, hm2⟩ : big = true ∧ ¬ ∀ i, 18 ≤ i → i < 32 → nthz zs i = 0 := by
   cases big
   ·exact absurd (fun h => by cases h) hm
   ·exact ⟨rfl, fun h => hm fun _ => h⟩
  obtain ⟨k0, h1, h2, h3, h4⟩ := first_not hm2
  have hl' : zs.length = 64 := hl
  rw [hl'] at hc1 ⊢
  refine (decode_mid ext zs b off cap w hB hc1 hl' k0 h1 h2 h3 h4).mono ?_
  rintro e w' ⟨⟨m, rfl, hm'⟩, hb⟩
  exact ⟨⟨_, m, rfl, ⟨fun h => absurd h hm', fun h => absurd h.2.1 hm⟩, fun h => absurd h hm', fun _ => rfl⟩, hb⟩
 case pos =>
 cases big <;> cases ext
 ·have hl' : zs.length = 32 := hl
  rw [hl'] at hc1 ⊢
  refine (decode_false_false zs b off cap w hB hz hc1 hc2 hl').mono ?_
  rintro e w' ⟨⟨p, n, rfl, hn, hp⟩, hb⟩
  exact ⟨⟨p, n, rfl, ⟨fun h => ⟨hl, hm, fun h => (by cases h), hn.1 h⟩, fun h => hn.2 h.2.2.2⟩, hp⟩, hb⟩
 ·have hl' : zs.length = 32 := hl
  rw [hl'] at hc1 ⊢
  refine (decode_false_true zs b off cap w hB hz hc1 hc2 hl').mono ?_
  rintro e w' ⟨⟨p, n, rfl, hn, hp⟩, hb⟩
  exact ⟨⟨p, n, rfl, ⟨fun h => ⟨hl, hm, fun _ => (hn.1 h).1, (hn.1 h).2⟩, fun h => hn.2 ⟨h.2.2.1 rfl, h.2.2.2⟩⟩, hp⟩, hb⟩
 ·have hl' : zs.length = 64 := hl
  rw [hl'] at hc1 ⊢
  refine (decode_true_false zs b off cap w hB hz hc1 hc2 hl' (hm rfl)).mono ?_
  rintro e w' ⟨⟨p, n, rfl, hn, hp⟩, hb⟩
  exact ⟨⟨p, n, rfl, ⟨fun h => ⟨hl, hm, fun h => (by cases h), hn.1 h⟩, fun h => hn.2 h.2.2.2⟩, hp⟩, hb⟩
 ·have hl' : zs.length = 64 := hl
  rw [hl'] at hc1 ⊢
  refine (decode_true_true zs b off cap w hB hz hc1 hc2 hl' (hm rfl)).mono ?_
  rintro e w' ⟨⟨p, n, rfl, hn, hp⟩, hb⟩
  exact ⟨⟨p, n, rfl, ⟨fun h => ⟨hl, hm, fun _ => (hn.1 h).1, (hn.1 h).2⟩, fun h => hn.2 ⟨h.2.2.1 rfl, h.2.2.2⟩⟩, hp⟩, hb⟩
end Go.Proofs.YtjogmckaakkomaaGreat
