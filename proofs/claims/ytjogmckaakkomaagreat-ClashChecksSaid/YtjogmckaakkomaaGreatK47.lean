/- What the reference takes from a block of parameters. No condition. -/
import Derived.Test.YtjogmckaakkomaaGreatK45
namespace Go.Proofs.YtjogmckaakkomaaGreat
open Go.ChangeShapes Go.WideShapes Go.ChangeAt Go.RowKit Go.Joins Go.Shelf Go.Maps
attribute [local go_sem] Oper.semAt_some

set_option maxRecDepth 100000 in
set_option maxHeartbeats 4000000 in
theorem refDecode_false_false (zs : List Int) (b off cap : Nat) (w : World) (hB : BytesAt w b off zs) (hz : ∀ z ∈ zs, 0 ≤ z ∧ z ≤ 255) (hcap : 32 ≤ cap) (hcap2 : (cap : Int) ≤ 9223372036854775807) (hl : zs.length = 32) :
  Calls Tryz.prog 64 #[.int .i64 2, .slice (some ⟨b, off, none⟩) 32 cap, .bool false] w fun e w' => (∃ p n, e = .returned (.tuple #[p, .int .i64 n]) ∧ (n = 0 ↔ okC false (nthz zs 0) (nthz zs 1) (nthz zs 3) 0 (nthz zs 15)) ∧
   (n = 0 → ∃ sa pe, p = parV (nthz zs 0) (nthz zs 1) (nthz zs 2) (nthz zs 3) (valZ zs 4 4) (valZ zs 8 6) 0 (nthz zs 14) (nthz zs 15) sa pe ∧ w'.ownsRow w.heap.size 5 1 sa (trimL ((zs.drop 16).take 8) 8) ((((zs.drop 16).take 8).take (trimL ((zs.drop 16).take 8) 8)).map encB) ∧ w'.ownsRow w.heap.size 5 1 pe (trimL ((zs.drop 24).take 8) 8) ((((zs.drop 24).take 8).take (trimL ((zs.drop 24).take 8) 8)).map encB)) ∧ (n ≠ 0 → p = .agg zeroP)) ∧ Below w.heap.size w w' := by
 obtain ⟨h1, h2⟩ := id hB
 have HC := Lib.hid h2
 have HB := Lib.hid hB
 clear h2 hB
 obtain ⟨i0, hi, hy0, hy1, hy2⟩ := info_parts info_u64
 obtain ⟨V1, hV1⟩ : ∃ x, fldV false false zs 1 = x := ⟨_, rfl⟩
 have hY1 : 0 ≤ V1 ∧ V1 < 256 := by have := fldV_bounds (big := false) (ext := false) hz hl (f := 1) (by omega) (by omega); rw [hV1] at this; simpa [szE, szB] using this
 have hN1 : nthz zs 0 = V1 := by rw [← hV1]; simp [fldV, szE, szB, atB, val1]
 try rw [hN1]
 obtain ⟨V2, hV2⟩ : ∃ x, fldV false false zs 2 = x := ⟨_, rfl⟩
 have hY2 : 0 ≤ V2 ∧ V2 < 256 := by have := fldV_bounds (big := false) (ext := false) hz hl (f := 2) (by omega) (by omega); rw [hV2] at this; simpa [szE, szB] using this
 have hN2 : nthz zs 1 = V2 := by rw [← hV2]; simp [fldV, szE, szB, atB, val1]
 try rw [hN2]
 obtain ⟨V3, hV3⟩ : ∃ x, fldV false false zs 3 = x := ⟨_, rfl⟩
 have hY3 : 0 ≤ V3 ∧ V3 < 256 := by have := fldV_bounds (big := false) (ext := false) hz hl (f := 3) (by omega) (by omega); rw [hV3] at this; simpa [szE, szB] using this
 have hN3 : nthz zs 2 = V3 := by rw [← hV3]; simp [fldV, szE, szB, atB, val1]
 try rw [hN3]
 obtain ⟨V4, hV4⟩ : ∃ x, fldV false false zs 4 = x := ⟨_, rfl⟩
 have hY4 : 0 ≤ V4 ∧ V4 < 256 := by have := fldV_bounds (big := false) (ext := false) hz hl (f := 4) (by omega) (by omega); rw [hV4] at this; simpa [szE, szB] using this
 have hN4 : nthz zs 3 = V4 := by rw [← hV4]; simp [fldV, szE, szB, atB, val1]
 try rw [hN4]
 obtain ⟨V5, hV5⟩ : ∃ x, fldV false false zs 5 = x := ⟨_, rfl⟩
 have hY5 : 0 ≤ V5 ∧ V5 < 4294967296 := by have := fldV_bounds (big := false) (ext := false) hz hl (f := 5) (by omega) (by omega); rw [hV5] at this; simpa [szE, szB] using this
 have hN5 : valZ zs 4 4 = V5 := by rw [← hV5]; simp [fldV, szE, szB, atB, val1]
 try rw [hN5]
 obtain ⟨V6, hV6⟩ : ∃ x, fldV false false zs 6 = x := ⟨_, rfl⟩
 have hY6 : 0 ≤ V6 ∧ V6 < 281474976710656 := by have := fldV_bounds (big := false) (ext := false) hz hl (f := 6) (by omega) (by omega); rw [hV6] at this; simpa [szE, szB] using this
 have hN6 : valZ zs 8 6 = V6 := by rw [← hV6]; simp [fldV, szE, szB, atB, val1]
 try rw [hN6]
 obtain ⟨V7, hV7⟩ : ∃ x, fldV false false zs 7 = x := ⟨_, rfl⟩
 have hY7 : 0 ≤ V7 ∧ V7 < 65536 := by have := fldV_bounds (big := false) (ext := false) hz hl (f := 7) (by omega) (by omega); rw [hV7] at this; simpa [szE, szB] using this
 have hN7 : valZ zs 12 2 = V7 := by rw [← hV7]; simp [fldV, szE, szB, atB, val1]
 try rw [hN7]
 obtain ⟨V8, hV8⟩ : ∃ x, fldV false false zs 8 = x := ⟨_, rfl⟩
 have hY8 : 0 ≤ V8 ∧ V8 < 256 := by have := fldV_bounds (big := false) (ext := false) hz hl (f := 8) (by omega) (by omega); rw [hV8] at this; simpa [szE, szB] using this
 have hN8 : nthz zs 14 = V8 := by rw [← hV8]; simp [fldV, szE, szB, atB, val1]
 try rw [hN8]
 obtain ⟨V9, hV9⟩ : ∃ x, fldV false false zs 9 = x := ⟨_, rfl⟩
 have hY9 : 0 ≤ V9 ∧ V9 < 256 := by have := fldV_bounds (big := false) (ext := false) hz hl (f := 9) (by omega) (by omega); rw [hV9] at this; simpa [szE, szB] using this
 have hN9 : nthz zs 15 = V9 := by rw [← hV9]; simp [fldV, szE, szB, atB, val1]
 try rw [hN9]
 have hs : ∀ w : World, Calls Tryz.prog 83 #[.int .i64 2] w fun e w' => e = .returned (.int .i64 32) ∧ w' = w := refMost_ok false
 obtain ⟨b0, hb0⟩ : ∃ b0, w.heap.size = b0 := ⟨_, rfl⟩
 have hbk : b < b0 := by rw [← hb0]; exact h1
 have hSL : ∀ W, Below b0 w W → Holds8 W (.slice (some ⟨b, off, none⟩) 32 cap) zs := fun W hW => ⟨some ⟨b, off, none⟩, cap, by rw [hl], .inr ⟨b, off, rfl, Nat.lt_of_lt_of_le h1 hW.size, fun i hi => (hW.cell (p := ⟨b, off + i, none⟩) hbk).trans (HC.out i hi)⟩⟩
 have HSL := Lib.hid hSL
 clear hSL
 have hbA : Below b0 w (w.alloc (.cells #[.int .i64 0, .int .i64 0, .int .i64 0, .int .i64 0, .int .u32 0, .int .u64 0, .int .u32 0, .int .i64 0, .int .i64 0, .slice none 0 0, .slice none 0 0] 76)) := by rw [← hb0]; exact (Below.refl _ _).alloc (Nat.le_refl _) _
 have hRA := World.alloc_heap_new w (.cells #[.int .i64 0, .int .i64 0, .int .i64 0, .int .i64 0, .int .u32 0, .int .u64 0, .int .u32 0, .int .i64 0, .int .i64 0, .slice none 0 0, .slice none 0 0] 76)
 rw [hb0] at hRA
 have hsA : (w.alloc (.cells #[.int .i64 0, .int .i64 0, .int .i64 0, .int .i64 0, .int .u32 0, .int .u64 0, .int .u32 0, .int .i64 0, .int .i64 0, .slice none 0 0, .slice none 0 0] 76)).heap.size = b0 + 1 := by simp [hb0]
 go_enter Tryz.func64, Tryz.ntmps64
 go_wp2_with fail
 refine (sized_any false _ _ _ _).mono ?_; rintro e w1 ⟨⟨x, rfl, hx⟩, hw⟩
 rw [hw]; clear hw
 obtain rfl : x = 0 := hx.2 rfl
 clear hx
 generalize w.alloc (.cells #[.int .i64 0, .int .i64 0, .int .i64 0, .int .i64 0, .int .u32 0, .int .u64 0, .int .u32 0, .int .i64 0, .int .i64 0, .slice none 0 0, .slice none 0 0] 76) = w2 at *
 have HR := Lib.hid hRA
 clear hRA
 go_wp2_with fail
 go_loopw [9] (fun i wr => i = .int .i64 18 ∧ w2 = wr) (fun _ _ => 0)
 case atStart => exact ⟨rfl, rfl⟩
 case round =>
  obtain ⟨rfl, rfl⟩ := hrel
  ·skip
   go_wp2_with fail
   have hown0 : (w2.alloc (.cells #[.int .u64 0] 73)).ownsRow (b0 + 1) 73 1 (.slice (some ⟨b0 + 1, 0, none⟩) 1 1) 1 (fldR false false zs 1) := by have := World.ownsRow_lit (base := b0 + 1) (e := 73) (size := 1) w2 #[.int .u64 0] 1 (by omega) (by decide) rfl; rwa [hsA] at this
   have hb20 : Below (b0 + 1) w2 (w2.alloc (.cells #[.int .u64 0] 73)) := (Below.refl _ _).alloc (by omega) _
   go_loopw [10, 11] (fun v f wr => ∃ (k : Nat), f = .int .i64 (k : Nat) ∧ 1 ≤ k ∧ k ≤ 10 ∧ wr.ownsRow (b0 + 1) 73 1 v k (fldR false false zs k) ∧ Below (b0 + 1) w2 wr) (fun _ i _ => 10 - (intOf i).toNat)
   case atStart => exact ⟨1, rfl, by omega, by omega, hown0, hb20⟩
   case round =>
    clear hown0 hb20
    obtain ⟨f, rfl, hk1, hk2, hown, hb⟩ := hrel
    have hsr := hb.size
    by_cases hlt : f ≤ 9
    ·have hsz := szE_bounds false false f hk1 hlt
     have hfv : fldV false false zs f = valZ zs (atB false f) (szE false false f) := if_neg (by omega)
     have e1 := Lib.hid (show fldR false false zs (f + 1) = fldR false false zs f ++ [.int .u64 (valZ zs (atB false f) (szE false false f))] by rw [fldR, hfv])
     have k5 : (f : Int) ≤ 9 := by omega
     have HPL := Lib.hid (fplace_ok false f ⟨hk1, hlt⟩)
     obtain ⟨at0, hat0⟩ : ∃ x, atB false f = x := ⟨_, rfl⟩
     obtain ⟨sz0, hsz0⟩ : ∃ x, szB false f = x := ⟨_, rfl⟩
     obtain ⟨sz1, hsz1⟩ : ∃ x, szE false false f = x := ⟨_, rfl⟩
     have HE1 := Lib.hid hsz1
     have HE0 := Lib.hid hsz0
     rw [hat0, hsz1] at e1
     rw [hat0, hsz0] at HPL
     rw [hat0, hsz1] at hsz
     clear hfv hat0 hsz0 hsz1
     obtain ⟨j1, j2, j3, j4⟩ := hsz
     have j5 : at0 + sz1 ≤ zs.length := by omega
     clear j4
     have hbw : Below b0 w wr := hbA.trans (hb.mono (by omega))
     by_cases hf6 : f = 6
     case pos =>
      subst hf6
      go_wp2_with fail
      refine (HPL.out _).mono ?_; rintro r w4 ⟨rfl, hw⟩
      rw [hw]; clear hw
      obtain rfl : sz1 = sz0 := by rw [← HE1.out, ← HE0.out]; simp [szE]
      go_wp2_with fail
      refine (refRead_ok zs _ at0 sz1 _ (HSL.out _ hbw) hz (by omega) (by omega) (by omega)).mono ?_; rintro r w5 ⟨rfl, hw⟩
      rw [hw]; clear hw
      go_wp2_with (at_builtin; refine wpList_append_own _ rfl _ _ 101 rfl (b0 + 1) 73 i0 (.int .u64 0) 1 8 Tryz.underlying101 hi hy0 hy1 hy2 rfl (by decide) _ _ _ rfl (hown.alloc _) ⟨wr.heap.size, 0, none⟩ 1 1 [.int .u64 (valZ zs at0 sz1)] rfl rfl (cell_one_new _ _ _) (by simp [Value.oneCell']) (by unfold maxLen; omega) (by omega) (by simp; omega) ?_; intro v' w6 hown' hgrow _; have hb3 : Below (b0 + 1) w2 w6 := (hb.alloc (by omega) _).grown hgrow (by simp; omega) (fun k e => (hown.lt k e).1))
      rw [← e1.out] at hown'
      refine ⟨⟨7, rfl, by omega, by omega, hown', hb3⟩, ?_⟩
      first | (simp [intOf]; done) | (simp [intOf]; omega)
     case neg =>
      go_wp2_with fail
      refine (HPL.out _).mono ?_; rintro r w4 ⟨rfl, hw⟩
      rw [hw]; clear hw
      obtain rfl : sz1 = sz0 := by rw [← HE1.out, ← HE0.out]; simp [szE, hf6]
      have hf7 : ¬ ((f : Int) = 6) := by omega
      have hf8 : ¬ (f = 6) := hf6
      go_wp2_with fail
      refine (refRead_ok zs _ at0 sz1 _ (HSL.out _ hbw) hz (by omega) (by omega) (by omega)).mono ?_; rintro r w5 ⟨rfl, hw⟩
      rw [hw]; clear hw
      go_wp2_with (at_builtin; refine wpList_append_own _ rfl _ _ 101 rfl (b0 + 1) 73 i0 (.int .u64 0) 1 8 Tryz.underlying101 hi hy0 hy1 hy2 rfl (by decide) _ _ _ rfl (hown.alloc _) ⟨wr.heap.size, 0, none⟩ 1 1 [.int .u64 (valZ zs at0 sz1)] rfl rfl (cell_one_new _ _ _) (by simp [Value.oneCell']) (by unfold maxLen; omega) (by omega) (by simp; omega) ?_; intro v' w6 hown' hgrow _; have hb3 : Below (b0 + 1) w2 w6 := (hb.alloc (by omega) _).grown hgrow (by simp; omega) (fun k e => (hown.lt k e).1))
      rw [← e1.out] at hown'
      refine ⟨⟨f + 1, rfl, by omega, by omega, hown', hb3⟩, ?_⟩
      first | (simp [intOf]; done) | (simp [intOf]; omega)
    ·obtain rfl : f = 10 := by omega
     obtain ⟨g, cg, cur, rfl, hg1, hg2, hg3, hg4⟩ := tenAt hown
     have HROW := Lib.hid hg2
     have hcu1 : cur[1]? = some (.int .u64 V1) := by rw [hg4 1 (by omega), fldR_get _ _ _ _ _ (by omega), hV1]
     have hcu2 : cur[2]? = some (.int .u64 V2) := by rw [hg4 2 (by omega), fldR_get _ _ _ _ _ (by omega), hV2]
     have hcu3 : cur[3]? = some (.int .u64 V3) := by rw [hg4 3 (by omega), fldR_get _ _ _ _ _ (by omega), hV3]
     have hcu4 : cur[4]? = some (.int .u64 V4) := by rw [hg4 4 (by omega), fldR_get _ _ _ _ _ (by omega), hV4]
     have hcu5 : cur[5]? = some (.int .u64 V5) := by rw [hg4 5 (by omega), fldR_get _ _ _ _ _ (by omega), hV5]
     have hcu6 : cur[6]? = some (.int .u64 V6) := by rw [hg4 6 (by omega), fldR_get _ _ _ _ _ (by omega), hV6]
     have hcu7 : cur[7]? = some (.int .u64 V7) := by rw [hg4 7 (by omega), fldR_get _ _ _ _ _ (by omega), hV7]
     have hcu8 : cur[8]? = some (.int .u64 V8) := by rw [hg4 8 (by omega), fldR_get _ _ _ _ _ (by omega), hV8]
     have hcu9 : cur[9]? = some (.int .u64 V9) := by rw [hg4 9 (by omega), fldR_get _ _ _ _ _ (by omega), hV9]
     have hgl : g < wr.heap.size := (Array.getElem?_eq_some_iff.1 hg2).1
     have c7 := (cell_of_heap hg2 7).trans hcu7
     have f7 := frozen_of_row wr g 7 _ _ hg2
     have hbz : Below b0 w wr := hbA.trans (hb.mono (by omega))
     have hR8 : wr.heap[b0]? = some (.cells #[.int .i64 0, .int .i64 0, .int .i64 0, .int .i64 0, .int .u32 0, .int .u64 0, .int .u32 0, .int .i64 0, .int .i64 0, .slice none 0 0, .slice none 0 0] 76 (0, 0)) := (hb.block b0 (by omega)).trans HR.out
     clear hg4 hown HR hb hlt hk1 hk2 hg2 hsA hbA hV1 hN1 hV2 hN2 hV3 hN3 hV4 hN4 hV5 hN5 hV6 hN6 hV7 hN7 hV8 hN8 hV9 hN9
     go_upto_region 21 with (fail)
     have hrow8 := heap_setCell_same wr g 7 _ _ (.int .u64 0) HROW.out
     have CV1 := Lib.hid ((cell_of_heap hrow8 1).trans (show (cur.setIfInBounds 7 (.int .u64 0))[1]? = some (.int .u64 (V1)) by rw [Array.getElem?_setIfInBounds]; simpa using hcu1))
     have CV2 := Lib.hid ((cell_of_heap hrow8 2).trans (show (cur.setIfInBounds 7 (.int .u64 0))[2]? = some (.int .u64 (V2)) by rw [Array.getElem?_setIfInBounds]; simpa using hcu2))
     have CV3 := Lib.hid ((cell_of_heap hrow8 3).trans (show (cur.setIfInBounds 7 (.int .u64 0))[3]? = some (.int .u64 (V3)) by rw [Array.getElem?_setIfInBounds]; simpa using hcu3))
     have CV4 := Lib.hid ((cell_of_heap hrow8 4).trans (show (cur.setIfInBounds 7 (.int .u64 0))[4]? = some (.int .u64 (V4)) by rw [Array.getElem?_setIfInBounds]; simpa using hcu4))
     have CV5 := Lib.hid ((cell_of_heap hrow8 5).trans (show (cur.setIfInBounds 7 (.int .u64 0))[5]? = some (.int .u64 (V5)) by rw [Array.getElem?_setIfInBounds]; simpa using hcu5))
     have CV6 := Lib.hid ((cell_of_heap hrow8 6).trans (show (cur.setIfInBounds 7 (.int .u64 0))[6]? = some (.int .u64 (V6)) by rw [Array.getElem?_setIfInBounds]; simpa using hcu6))
     have CV7 := Lib.hid ((cell_of_heap hrow8 7).trans (show (cur.setIfInBounds 7 (.int .u64 0))[7]? = some (.int .u64 (0)) by rw [Array.getElem?_setIfInBounds]; simp; omega))
     have CV8 := Lib.hid ((cell_of_heap hrow8 8).trans (show (cur.setIfInBounds 7 (.int .u64 0))[8]? = some (.int .u64 (V8)) by rw [Array.getElem?_setIfInBounds]; simpa using hcu8))
     have CV9 := Lib.hid ((cell_of_heap hrow8 9).trans (show (cur.setIfInBounds 7 (.int .u64 0))[9]? = some (.int .u64 (V9)) by rw [Array.getElem?_setIfInBounds]; simpa using hcu9))
     have hb8 : Below b0 w (wr.setCell ⟨g, 7, none⟩ (.int .u64 0)) := hbz.setCell (by show b0 ≤ g; omega) _
     have hR9 : (wr.setCell ⟨g, 7, none⟩ (.int .u64 0)).heap[b0]? = some (.cells #[.int .i64 0, .int .i64 0, .int .i64 0, .int .i64 0, .int .u32 0, .int .u64 0, .int .u32 0, .int .i64 0, .int .i64 0, .slice none 0 0, .slice none 0 0] 76 (0, 0)) := (heap_setCell_other wr _ _ _ (by show b0 ≠ g; omega)).trans hR8
     have hsz8 : (wr.setCell ⟨g, 7, none⟩ (.int .u64 0)).heap.size = wr.heap.size := by simp [World.setCell]
     rw [← hsz8] at hgl hsr
     clear hbz HROW hrow8 hsz8 c7 f7 hR8
     generalize wr.setCell ⟨g, 7, none⟩ (.int .u64 0) = W8 at *
     have hR8 := hR9
     clear hR9
     clear hcu1 hcu2 hcu3 hcu4 hcu5 hcu6 hcu7 hcu8 hcu9 hg3
     go_wp2_with fail
     refine (hs _).mono ?_; rintro r w9 ⟨rfl, hw⟩
     rw [hw]; clear hw
     go_upto_region 22 with (fail)
     refine wp_region_below (n := 49) (w0 := W8) (B := W8.heap.size) [72, 73, 74, 75, 76, 77, 78, 79, 80, 81, 82, 83, 84, 85, 86, 87, 88, 89, 90, 91, 92, 93, 94, 95, 96, 97, 98, 99, 100, 101, 102, 103, 104, 105, 106, 107, 108, 109, 110, 111, 112, 113, 114, 115, 116, 117, 118, 119, 15] [(vl (.slice (some ⟨g, 0, none⟩) 10 cg)), (vl (.pointer (some ⟨g, 1, none⟩))), (vl (.int .u64 V1)), (vl (.int .i64 V1)), (vl (.slice (some ⟨g, 0, none⟩) 10 cg)), (vl (.pointer (some ⟨g, 2, none⟩))), (vl (.int .u64 V2)), (vl (.int .i64 V2)), (vl (.slice (some ⟨g, 0, none⟩) 10 cg)), (vl (.pointer (some ⟨g, 3, none⟩))), (vl (.int .u64 V3)), (vl (.int .i64 V3)), (vl (.slice (some ⟨g, 0, none⟩) 10 cg)), (vl (.pointer (some ⟨g, 4, none⟩))), (vl (.int .u64 V4)), (vl (.int .i64 V4)), (vl (.slice (some ⟨g, 0, none⟩) 10 cg)), (vl (.pointer (some ⟨g, 5, none⟩))), (vl (.int .u64 V5)), (vl (.int .u32 V5)), (vl (.slice (some ⟨g, 0, none⟩) 10 cg)), (vl (.pointer (some ⟨g, 6, none⟩))), (vl (.int .u64 V6)), (vl (.slice (some ⟨g, 0, none⟩) 10 cg)), (vl (.pointer (some ⟨g, 7, none⟩))), (vl (.int .u64 0)), (vl (.int .u32 0)), (vl (.slice (some ⟨g, 0, none⟩) 10 cg)), (vl (.pointer (some ⟨g, 8, none⟩))), (vl (.int .u64 V8)), (vl (.int .i64 V8)), (vl (.slice (some ⟨g, 0, none⟩) 10 cg)), (vl (.pointer (some ⟨g, 9, none⟩))), (vl (.int .u64 V9)), (vl (.int .i64 V9)), (vl (.slice (some ⟨b, off, none⟩) 32 cap)), (vl (.int .i64 8)), (vl (.int .i64 16)), (vl (.int .i64 8)), (vl (.int .i64 24)), (vl (.slice (some ⟨b, off + 16, none⟩) 8 (cap - 16))), (vl (.slice (some ⟨b, off, none⟩) 32 cap)), (vl (.int .i64 8)), (vl (.int .i64 24)), (vl (.int .i64 8)), (vl (.int .i64 32)), (vl (.slice (some ⟨b, off + 24, none⟩) 8 (cap - 24))), (vl (.agg #[.int .i64 V1, .int .i64 V2, .int .i64 V3, .int .i64 V4, .int .u32 V5, .int .u64 V6, .int .u32 0, .int .i64 V8, .int .i64 V9, .slice (some ⟨b, off + 16, none⟩) 8 (cap - 16), .slice (some ⟨b, off + 24, none⟩) 8 (cap - 24)])), (fun u W => ∃ p, u = .pointer (some ⟨p, 0, none⟩) ∧ W8.heap.size ≤ p ∧ W.heap[p]? = some (.cells #[.int .i64 0, .int .i64 0, .int .i64 0, .int .i64 0, .int .u32 0, .int .u64 0, .int .u32 0, .int .i64 0, .int .i64 0, .slice none 0 0, .slice none 0 0] 76 (0, 0)))] (by dsimp only [List.take]) (by dsimp only [List.drop]) rfl (by rfl) (by decide) (by kernel_rfl) (by rfl) (by kernel_rfl) (by kernel_rfl) (Below.refl _ _).drew (Nat.le_refl _) ?_ ?_ ?_
     ·exact ⟨kV, kV, kV, kV, kV, kV, kV, kV, kV, kV, kV, kV, kV, kV, kV, kV, kV, kV, kV, kV, kV, kV, kV, kV, kV, kV, kV, kV, kV, kV, kV, kV, kV, kV, kV, kV, kV, kV, kV, kV, kV, kV, kV, kV, kV, kV, kV, kV, (fun _ _ _ h hb => by obtain ⟨p, e, h3, h4⟩ := h; exact ⟨p, e, h3, rowStay h4 hb⟩), trivial⟩
     ·refine eachO_8 ?_ ?_ ?_ ?_ ?_ ?_ ?_ ?_ (eachO_8 ?_ ?_ ?_ ?_ ?_ ?_ ?_ ?_ (eachO_8 ?_ ?_ ?_ ?_ ?_ ?_ ?_ ?_ (eachO_8 ?_ ?_ ?_ ?_ ?_ ?_ ?_ ?_ (eachO_8 ?_ ?_ ?_ ?_ ?_ ?_ ?_ ?_ (eachO_8 ?_ ?_ ?_ ?_ ?_ ?_ ?_ ?_ (eachO_cons ?_ (eachO_nil)))))))
      ·intro A x W hA hW hBW hdep K hK
       have a10 := hA.2 10 (by decide)
       conv at a10 => rhs; whnf
       clear hdep hA
       go_simp
       exact hK _ _ BR rfl
      ·intro A x W hA hW hBW hdep K hK
       have g72 := gv hA hdep 0 72
       clear hdep hA
       go_simp
       exact hK _ _ BR rfl
      ·intro A x W hA hW hBW hdep K hK
       have g73 := gv hA hdep 1 73
       clear hdep hA
       have c0 := (hW.cell (p := ⟨g, 1, none⟩) hgl).trans CV1.out
       have k0 : g < W.heap.size := by omega
       go_simp
       exact hK _ _ BR rfl
      ·intro A x W hA hW hBW hdep K hK
       have g74 := gv hA hdep 2 74
       clear hdep hA
       have q0 : IntKind.i64.wrap V1 = V1 := by rw [IntKind.wrap_i64]; omega
       go_simp
       exact hK _ _ BR rfl
      ·intro A x W hA hW hBW hdep K hK
       have a10 := hA.2 10 (by decide)
       conv at a10 => rhs; whnf
       clear hdep hA
       go_simp
       exact hK _ _ BR rfl
      ·intro A x W hA hW hBW hdep K hK
       have g76 := gv hA hdep 4 76
       clear hdep hA
       go_simp
       exact hK _ _ BR rfl
      ·intro A x W hA hW hBW hdep K hK
       have g77 := gv hA hdep 5 77
       clear hdep hA
       have c0 := (hW.cell (p := ⟨g, 2, none⟩) hgl).trans CV2.out
       have k0 : g < W.heap.size := by omega
       go_simp
       exact hK _ _ BR rfl
      ·intro A x W hA hW hBW hdep K hK
       have g78 := gv hA hdep 6 78
       clear hdep hA
       have q0 : IntKind.i64.wrap V2 = V2 := by rw [IntKind.wrap_i64]; omega
       go_simp
       exact hK _ _ BR rfl
      ·intro A x W hA hW hBW hdep K hK
       have a10 := hA.2 10 (by decide)
       conv at a10 => rhs; whnf
       clear hdep hA
       go_simp
       exact hK _ _ BR rfl
      ·intro A x W hA hW hBW hdep K hK
       have g80 := gv hA hdep 8 80
       clear hdep hA
       go_simp
       exact hK _ _ BR rfl
      ·intro A x W hA hW hBW hdep K hK
       have g81 := gv hA hdep 9 81
       clear hdep hA
       have c0 := (hW.cell (p := ⟨g, 3, none⟩) hgl).trans CV3.out
       have k0 : g < W.heap.size := by omega
       go_simp
       exact hK _ _ BR rfl
      ·intro A x W hA hW hBW hdep K hK
       have g82 := gv hA hdep 10 82
       clear hdep hA
       have q0 : IntKind.i64.wrap V3 = V3 := by rw [IntKind.wrap_i64]; omega
       go_simp
       exact hK _ _ BR rfl
      ·intro A x W hA hW hBW hdep K hK
       have a10 := hA.2 10 (by decide)
       conv at a10 => rhs; whnf
       clear hdep hA
       go_simp
       exact hK _ _ BR rfl
      ·intro A x W hA hW hBW hdep K hK
       have g84 := gv hA hdep 12 84
       clear hdep hA
       go_simp
       exact hK _ _ BR rfl
      ·intro A x W hA hW hBW hdep K hK
       have g85 := gv hA hdep 13 85
       clear hdep hA
       have c0 := (hW.cell (p := ⟨g, 4, none⟩) hgl).trans CV4.out
       have k0 : g < W.heap.size := by omega
       go_simp
       exact hK _ _ BR rfl
      ·intro A x W hA hW hBW hdep K hK
       have g86 := gv hA hdep 14 86
       clear hdep hA
       have q0 : IntKind.i64.wrap V4 = V4 := by rw [IntKind.wrap_i64]; omega
       go_simp
       exact hK _ _ BR rfl
      ·intro A x W hA hW hBW hdep K hK
       have a10 := hA.2 10 (by decide)
       conv at a10 => rhs; whnf
       clear hdep hA
       go_simp
       exact hK _ _ BR rfl
      ·intro A x W hA hW hBW hdep K hK
       have g88 := gv hA hdep 16 88
       clear hdep hA
       go_simp
       exact hK _ _ BR rfl
      ·intro A x W hA hW hBW hdep K hK
       have g89 := gv hA hdep 17 89
       clear hdep hA
       have c0 := (hW.cell (p := ⟨g, 5, none⟩) hgl).trans CV5.out
       have k0 : g < W.heap.size := by omega
       go_simp
       exact hK _ _ BR rfl
      ·intro A x W hA hW hBW hdep K hK
       have g90 := gv hA hdep 18 90
       clear hdep hA
       have q0 : IntKind.u32.wrap V5 = V5 := u32_wrap_id _ (by omega) (by omega)
       go_simp
       exact hK _ _ BR rfl
      ·intro A x W hA hW hBW hdep K hK
       have a10 := hA.2 10 (by decide)
       conv at a10 => rhs; whnf
       clear hdep hA
       go_simp
       exact hK _ _ BR rfl
      ·intro A x W hA hW hBW hdep K hK
       have g92 := gv hA hdep 20 92
       clear hdep hA
       go_simp
       exact hK _ _ BR rfl
      ·intro A x W hA hW hBW hdep K hK
       have g93 := gv hA hdep 21 93
       clear hdep hA
       have c0 := (hW.cell (p := ⟨g, 6, none⟩) hgl).trans CV6.out
       have k0 : g < W.heap.size := by omega
       go_simp
       exact hK _ _ BR rfl
      ·intro A x W hA hW hBW hdep K hK
       have a10 := hA.2 10 (by decide)
       conv at a10 => rhs; whnf
       clear hdep hA
       go_simp
       exact hK _ _ BR rfl
      ·intro A x W hA hW hBW hdep K hK
       have g95 := gv hA hdep 23 95
       clear hdep hA
       go_simp
       exact hK _ _ BR rfl
      ·intro A x W hA hW hBW hdep K hK
       have g96 := gv hA hdep 24 96
       clear hdep hA
       have c0 := (hW.cell (p := ⟨g, 7, none⟩) hgl).trans CV7.out
       have k0 : g < W.heap.size := by omega
       go_simp
       exact hK _ _ BR rfl
      ·intro A x W hA hW hBW hdep K hK
       have g97 := gv hA hdep 25 97
       clear hdep hA
       go_simp
       exact hK _ _ BR rfl
      ·intro A x W hA hW hBW hdep K hK
       have a10 := hA.2 10 (by decide)
       conv at a10 => rhs; whnf
       clear hdep hA
       go_simp
       exact hK _ _ BR rfl
      ·intro A x W hA hW hBW hdep K hK
       have g99 := gv hA hdep 27 99
       clear hdep hA
       go_simp
       exact hK _ _ BR rfl
      ·intro A x W hA hW hBW hdep K hK
       have g100 := gv hA hdep 28 100
       clear hdep hA
       have c0 := (hW.cell (p := ⟨g, 8, none⟩) hgl).trans CV8.out
       have k0 : g < W.heap.size := by omega
       go_simp
       exact hK _ _ BR rfl
      ·intro A x W hA hW hBW hdep K hK
       have g101 := gv hA hdep 29 101
       clear hdep hA
       have q0 : IntKind.i64.wrap V8 = V8 := by rw [IntKind.wrap_i64]; omega
       go_simp
       exact hK _ _ BR rfl
      ·intro A x W hA hW hBW hdep K hK
       have a10 := hA.2 10 (by decide)
       conv at a10 => rhs; whnf
       clear hdep hA
       go_simp
       exact hK _ _ BR rfl
      ·intro A x W hA hW hBW hdep K hK
       have g103 := gv hA hdep 31 103
       clear hdep hA
       go_simp
       exact hK _ _ BR rfl
      ·intro A x W hA hW hBW hdep K hK
       have g104 := gv hA hdep 32 104
       clear hdep hA
       have c0 := (hW.cell (p := ⟨g, 9, none⟩) hgl).trans CV9.out
       have k0 : g < W.heap.size := by omega
       go_simp
       exact hK _ _ BR rfl
      ·intro A x W hA hW hBW hdep K hK
       have g105 := gv hA hdep 33 105
       clear hdep hA
       have q0 : IntKind.i64.wrap V9 = V9 := by rw [IntKind.wrap_i64]; omega
       go_simp
       exact hK _ _ BR rfl
      ·intro A x W hA hW hBW hdep K hK
       have a1 := hA.2 1 (by decide)
       conv at a1 => rhs; whnf
       clear hdep hA
       go_simp
       exact hK _ _ BR rfl
      ·intro A x W hA hW hBW hdep K hK
       have a14 := hA.2 14 (by decide)
       conv at a14 => rhs; whnf
       clear hdep hA
       go_simp
       exact hK _ _ BR rfl
      ·intro A x W hA hW hBW hdep K hK
       have g108 := gv hA hdep 36 108
       clear hdep hA
       go_simp
       exact hK _ _ BR rfl
      ·intro A x W hA hW hBW hdep K hK
       have a14 := hA.2 14 (by decide)
       conv at a14 => rhs; whnf
       clear hdep hA
       go_simp
       exact hK _ _ BR rfl
      ·intro A x W hA hW hBW hdep K hK
       have g110 := gv hA hdep 38 110
       clear hdep hA
       go_simp
       exact hK _ _ BR rfl
      ·intro A x W hA hW hBW hdep K hK
       have g107 := gv hA hdep 35 107
       have g109 := gv hA hdep 37 109
       have g111 := gv hA hdep 39 111
       clear hdep hA
       have hcn1 : ¬ cap = 16 := by omega
       have hcn2 : ¬ cap = 24 := by omega
       have k9 : 32 ≤ (cap : Int) := by omega
       have k11 : 24 ≤ (cap : Int) := by omega
       go_simp
       exact hK _ _ BR rfl
      ·intro A x W hA hW hBW hdep K hK
       have a1 := hA.2 1 (by decide)
       conv at a1 => rhs; whnf
       clear hdep hA
       go_simp
       exact hK _ _ BR rfl
      ·intro A x W hA hW hBW hdep K hK
       have a14 := hA.2 14 (by decide)
       conv at a14 => rhs; whnf
       clear hdep hA
       go_simp
       exact hK _ _ BR rfl
      ·intro A x W hA hW hBW hdep K hK
       have g114 := gv hA hdep 42 114
       clear hdep hA
       go_simp
       exact hK _ _ BR rfl
      ·intro A x W hA hW hBW hdep K hK
       have a14 := hA.2 14 (by decide)
       conv at a14 => rhs; whnf
       clear hdep hA
       go_simp
       exact hK _ _ BR rfl
      ·intro A x W hA hW hBW hdep K hK
       have g116 := gv hA hdep 44 116
       clear hdep hA
       go_simp
       exact hK _ _ BR rfl
      ·intro A x W hA hW hBW hdep K hK
       have g113 := gv hA hdep 41 113
       have g115 := gv hA hdep 43 115
       have g117 := gv hA hdep 45 117
       clear hdep hA
       have hcn1 : ¬ cap = 16 := by omega
       have hcn2 : ¬ cap = 24 := by omega
       have k9 : 32 ≤ (cap : Int) := by omega
       have k11 : 24 ≤ (cap : Int) := by omega
       go_simp
       exact hK _ _ BR rfl
      ·intro A x W hA hW hBW hdep K hK
       have g75 := gv hA hdep 3 75
       have g79 := gv hA hdep 7 79
       have g83 := gv hA hdep 11 83
       have g87 := gv hA hdep 15 87
       have g91 := gv hA hdep 19 91
       have g94 := gv hA hdep 22 94
       have g98 := gv hA hdep 26 98
       have g102 := gv hA hdep 30 102
       have g106 := gv hA hdep 34 106
       have g112 := gv hA hdep 40 112
       have g118 := gv hA hdep 46 118
       clear hdep hA
       refine wp_build_as 76 _ rfl #[.int .i64 V1, .int .i64 V2, .int .i64 V3, .int .i64 V4, .int .u32 V5, .int .u64 V6, .int .u32 0, .int .i64 V8, .int .i64 V9, .slice (some ⟨b, off + 16, none⟩) 8 (cap - 16), .slice (some ⟨b, off + 24, none⟩) 8 (cap - 24)] ?_ (hK _ _ (Below.refl _ _) rfl)
       simp only [List.map_toArray, List.map_cons, List.map_nil, Act.eval, g75, g79, g83, g87, g91, g94, g98, g102, g106, g112, g118]
       kernel_rfl
      ·intro A x W hA hW hBW hdep K hK
       clear hdep hA
       go_simp
       exact hK _ _ ((Below.refl _ _).alloc (Nat.le_refl _) _) ⟨W.heap.size, rfl, hBW, World.alloc_heap_new W _⟩
     intro x W hW hBW hall
     obtain ⟨e72, e73, e74, e75, e76, e77, e78, e79, e80, e81, e82, e83, e84, e85, e86, e87, e88, e89, e90, e91, e92, e93, e94, e95, e96, e97, e98, e99, e100, e101, e102, e103, e104, e105, e106, e107, e108, e109, e110, e111, e112, e113, e114, e115, e116, e117, e118, e119, e15, -⟩ := hall
     change x 72 = (.slice (some ⟨g, 0, none⟩) 10 cg : Value) at e72
     change x 73 = (.pointer (some ⟨g, 1, none⟩) : Value) at e73
     change x 74 = (.int .u64 V1 : Value) at e74
     change x 75 = (.int .i64 V1 : Value) at e75
     change x 76 = (.slice (some ⟨g, 0, none⟩) 10 cg : Value) at e76
     change x 77 = (.pointer (some ⟨g, 2, none⟩) : Value) at e77
     change x 78 = (.int .u64 V2 : Value) at e78
     change x 79 = (.int .i64 V2 : Value) at e79
     change x 80 = (.slice (some ⟨g, 0, none⟩) 10 cg : Value) at e80
     change x 81 = (.pointer (some ⟨g, 3, none⟩) : Value) at e81
     change x 82 = (.int .u64 V3 : Value) at e82
     change x 83 = (.int .i64 V3 : Value) at e83
     change x 84 = (.slice (some ⟨g, 0, none⟩) 10 cg : Value) at e84
     change x 85 = (.pointer (some ⟨g, 4, none⟩) : Value) at e85
     change x 86 = (.int .u64 V4 : Value) at e86
     change x 87 = (.int .i64 V4 : Value) at e87
     change x 88 = (.slice (some ⟨g, 0, none⟩) 10 cg : Value) at e88
     change x 89 = (.pointer (some ⟨g, 5, none⟩) : Value) at e89
     change x 90 = (.int .u64 V5 : Value) at e90
     change x 91 = (.int .u32 V5 : Value) at e91
     change x 92 = (.slice (some ⟨g, 0, none⟩) 10 cg : Value) at e92
     change x 93 = (.pointer (some ⟨g, 6, none⟩) : Value) at e93
     change x 94 = (.int .u64 V6 : Value) at e94
     change x 95 = (.slice (some ⟨g, 0, none⟩) 10 cg : Value) at e95
     change x 96 = (.pointer (some ⟨g, 7, none⟩) : Value) at e96
     change x 97 = (.int .u64 0 : Value) at e97
     change x 98 = (.int .u32 0 : Value) at e98
     change x 99 = (.slice (some ⟨g, 0, none⟩) 10 cg : Value) at e99
     change x 100 = (.pointer (some ⟨g, 8, none⟩) : Value) at e100
     change x 101 = (.int .u64 V8 : Value) at e101
     change x 102 = (.int .i64 V8 : Value) at e102
     change x 103 = (.slice (some ⟨g, 0, none⟩) 10 cg : Value) at e103
     change x 104 = (.pointer (some ⟨g, 9, none⟩) : Value) at e104
     change x 105 = (.int .u64 V9 : Value) at e105
     change x 106 = (.int .i64 V9 : Value) at e106
     change x 107 = (.slice (some ⟨b, off, none⟩) 32 cap : Value) at e107
     change x 108 = (.int .i64 8 : Value) at e108
     change x 109 = (.int .i64 16 : Value) at e109
     change x 110 = (.int .i64 8 : Value) at e110
     change x 111 = (.int .i64 24 : Value) at e111
     change x 112 = (.slice (some ⟨b, off + 16, none⟩) 8 (cap - 16) : Value) at e112
     change x 113 = (.slice (some ⟨b, off, none⟩) 32 cap : Value) at e113
     change x 114 = (.int .i64 8 : Value) at e114
     change x 115 = (.int .i64 24 : Value) at e115
     change x 116 = (.int .i64 8 : Value) at e116
     change x 117 = (.int .i64 32 : Value) at e117
     change x 118 = (.slice (some ⟨b, off + 24, none⟩) 8 (cap - 24) : Value) at e118
     change x 119 = (.agg #[.int .i64 V1, .int .i64 V2, .int .i64 V3, .int .i64 V4, .int .u32 V5, .int .u64 V6, .int .u32 0, .int .i64 V8, .int .i64 V9, .slice (some ⟨b, off + 16, none⟩) 8 (cap - 16), .slice (some ⟨b, off + 24, none⟩) 8 (cap - 24)] : Value) at e119
     change (fun u W => ∃ p, u = .pointer (some ⟨p, 0, none⟩) ∧ W8.heap.size ≤ p ∧ W.heap[p]? = some (.cells #[.int .i64 0, .int .i64 0, .int .i64 0, .int .i64 0, .int .u32 0, .int .u64 0, .int .u32 0, .int .i64 0, .int .i64 0, .slice none 0 0, .slice none 0 0] 76 (0, 0))) (x 15) W at e15
     obtain ⟨p, ep, hp1, hp2⟩ := e15
     refine thenTail_cons ?_
     simp only [lay, Act.put, List.setIfInBounds_toArray, List.set_cons_zero, List.set_cons_succ, ep, e72, e73, e74, e75, e76, e77, e78, e79, e80, e81, e82, e83, e84, e85, e86, e87, e88, e89, e90, e91, e92, e93, e94, e95, e96, e97, e98, e99, e100, e101, e102, e103, e104, e105, e106, e107, e108, e109, e110, e111, e112, e113, e114, e115, e116, e117, e118, e119]
     clear e72 e73 e74 e75 e76 e77 e78 e79 e80 e81 e82 e83 e84 e85 e86 e87 e88 e89 e90 e91 e92 e93 e94 e95 e96 e97 e98 e99 e100 e101 e102 e103 e104 e105 e106 e107 e108 e109 e110 e111 e112 e113 e114 e115 e116 e117 e118 e119
     refine wpList_store_row rfl 76 _ _ rfl p #[.int .i64 V1, .int .i64 V2, .int .i64 V3, .int .i64 V4, .int .u32 V5, .int .u64 V6, .int .u32 0, .int .i64 V8, .int .i64 V9, .slice (some ⟨b, off + 16, none⟩) 8 (cap - 16), .slice (some ⟨b, off + 24, none⟩) 8 (cap - 24)] rfl rfl 76 _ hp2 (by kernel_rfl) rfl (by simp [Value.oneCell']) ?_
     refine thenTail_nil ?_
     have hB3 : Below W8.heap.size W8 (W.setRow p #[.int .i64 V1, .int .i64 V2, .int .i64 V3, .int .i64 V4, .int .u32 V5, .int .u64 V6, .int .u32 0, .int .i64 V8, .int .i64 V9, .slice (some ⟨b, off + 16, none⟩) 8 (cap - 16), .slice (some ⟨b, off + 24, none⟩) 8 (cap - 24)]) := below_setRow hW hp1 _
     have hR3 := setRow_heap W p _ #[.int .i64 V1, .int .i64 V2, .int .i64 V3, .int .i64 V4, .int .u32 V5, .int .u64 V6, .int .u32 0, .int .i64 V8, .int .i64 V9, .slice (some ⟨b, off + 16, none⟩) 8 (cap - 16), .slice (some ⟨b, off + 24, none⟩) 8 (cap - 24)] _ _ hp2
     generalize W.setRow p #[.int .i64 V1, .int .i64 V2, .int .i64 V3, .int .i64 V4, .int .u32 V5, .int .u64 V6, .int .u32 0, .int .i64 V8, .int .i64 V9, .slice (some ⟨b, off + 16, none⟩) 8 (cap - 16), .slice (some ⟨b, off + 24, none⟩) 8 (cap - 24)] = W3 at hB3 hR3 ⊢
     clear ep hp2 hW hBW x W
     have hs3 := hB3.size
     have hb3 : Below b0 w W3 := hb8.trans (hB3.mono (by omega))
     have hR0 : W3.heap[b0]? = some (.cells #[.int .i64 0, .int .i64 0, .int .i64 0, .int .i64 0, .int .u32 0, .int .u64 0, .int .u32 0, .int .i64 0, .int .i64 0, .slice none 0 0, .slice none 0 0] 76 (0, 0)) := (hB3.block b0 (by omega)).trans hR8
     have hBT : BytesAt W3 b off zs := ⟨Nat.lt_of_lt_of_le h1 hb3.size, fun i hi => (hb3.cell (p := ⟨b, off + i, none⟩) hbk).trans (HC.out i hi)⟩
     have hNM := refNormal_any false V1 V2 V3 V4 V5 V6 0 V8 V9 ((zs.drop 16).take 8) ((zs.drop 24).take 8) b (off + 16) (cap - 16) b (off + 24) (cap - 24) W3 (bytesSub hBT (by omega)) (bytesSub hBT (by omega)) (by rw [len_sub (by omega)]; omega) (by rw [len_sub (by omega)]; omega) (by rw [len_sub (by omega)]; decide) (by rw [len_sub (by omega)]; decide) ⟨by omega, by omega⟩ ⟨by omega, by omega⟩ ⟨by omega, by omega⟩ ⟨by omega, fun h => absurd rfl h, fun h => by omega⟩ ⟨by omega, fun h => by omega⟩
     rw [len_sub (by omega), len_sub (by omega)] at hNM
     have HNM := Lib.hid hNM
     clear hNM hBT hB3
     go_wp2_with ((with_reducible show wpList _ _ _ (Oper.mk _ (Op.load 76 _) _ _ _ _ :: _) _ _); refine wpList_load_row rfl 76 _ rfl p rfl _ _ _ _ hR3 Tryz.underlying76 rfl (by kernel_rfl) ?_)
     refine HNM.out.mono ?_; rintro r w7 ⟨⟨pv, n, rfl, hn, hpv, hpz⟩, hb7⟩
     clear HNM
     have hR7 := rowStay hR0 hb7
     have hB7 : Below b0 w w7 := hb3.trans (hb7.mono (by omega))
     have HN := Lib.hid hn
     clear hn
     by_cases hn0 : n = 0
     case pos =>
      obtain ⟨sa, pe, rfl, os, op⟩ := hpv hn0
      subst hn0
      obtain ⟨a5, n5, k5, rfl⟩ := own_slice os
      obtain ⟨a8, n8, k8, rfl⟩ := own_slice op
      unfold parV
      go_wp2_with ((with_reducible show wpList _ _ _ (Oper.mk _ (Op.store 76 _ _) _ _ _ _ :: _) _ _); refine wpList_store_row rfl 76 _ _ rfl b0 #[.int .i64 V1, .int .i64 V2, .int .i64 V3, .int .i64 V4, .int .u32 V5, .int .u64 V6, .int .u32 0, .int .i64 V8, .int .i64 V9, .slice a5 n5 k5, .slice a8 n8 k8] rfl rfl 76 _ hR7 (by kernel_rfl) rfl (by simp [Value.oneCell']) ?_)
      have own' : ∀ {v : Value} {n : Nat} {xs : List Value}, w7.ownsRow W3.heap.size 5 1 v n xs → (w7.setRow b0 #[.int .i64 V1, .int .i64 V2, .int .i64 V3, .int .i64 V4, .int .u32 V5, .int .u64 V6, .int .u32 0, .int .i64 V8, .int .i64 V9, .slice a5 n5 k5, .slice a8 n8 k8]).ownsRow w.heap.size 5 1 v n xs := fun h => ownsRow_le (ownsRow_same' h (fun g g1 _ => setRow_other _ _ _ _ (by omega))) (by omega)
      exact bodyPost_ret (results_row_tmp rfl _ _ b0 _ _ _ _ rfl (setRow_heap _ b0 _ _ _ _ hR7) Tryz.underlying76 rfl (by kernel_rfl)) rfl ⟨⟨_, 0, rfl, ⟨fun _ => HN.out.1 (by trivial), fun _ => rfl⟩, fun _ => ⟨_, _, rfl, own' os, own' op⟩, fun h => absurd rfl h⟩, by rw [hb0]; exact below_setRow hB7 (Nat.le_refl _) _⟩
     obtain rfl := hpz hn0
     go_wp2_with ((with_reducible show wpList _ _ _ (Oper.mk _ (Op.store 76 _ _) _ _ _ _ :: _) _ _); refine wpList_store_row rfl 76 _ _ rfl b0 #[.int .i64 0, .int .i64 0, .int .i64 0, .int .i64 0, .int .u32 0, .int .u64 0, .int .u32 0, .int .i64 0, .int .i64 0, .slice none 0 0, .slice none 0 0] rfl rfl 76 _ hR7 (by kernel_rfl) rfl (by simp [Value.oneCell']) ?_)
     exact bodyPost_ret (results_row_tmp rfl _ _ b0 _ _ _ _ rfl (setRow_heap _ b0 _ _ _ _ hR7) Tryz.underlying76 rfl (by kernel_rfl)) rfl ⟨⟨_, n, rfl, HN.out, fun h => absurd h hn0, fun _ => rfl⟩, by rw [hb0]; exact below_setRow hB7 (Nat.le_refl _) _⟩
end Go.Proofs.YtjogmckaakkomaaGreat
