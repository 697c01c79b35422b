/- Parameters without the noughts at the ends of salt and personal, by the reference. No condition. -/
import Derived.Test.YtjogmckaakkomaaGreatK30
namespace Go.Proofs.YtjogmckaakkomaaGreat
open Go.ChangeShapes Go.WideShapes Go.ChangeAt Go.RowKit Go.Joins Go.Shelf Go.Maps
attribute [local go_sem] Oper.semAt_some

set_option maxRecDepth 100000 in
set_option maxHeartbeats 2000000 in
theorem refNormal_any (big : Bool) (dg ky fo dp lf ofs xo nd inr : Int) (zs1 zs2 : List Int) (b1 o1 c1 b2 o2 c2 : Nat) (w : World) (h1 : BytesAt w b1 o1 zs1) (h2 : BytesAt w b2 o2 zs2) (hc1 : zs1.length ≤ c1) (hc2 : zs2.length ≤ c2) (hm1 : zs1.length ≤ sB big) (hm2 : zs2.length ≤ sB big)
  (hdp : 0 ≤ dp ∧ dp ≤ 255) (hfo : 0 ≤ fo ∧ fo ≤ 255) (hnd : 0 ≤ nd ∧ nd ≤ 255) (hof : 0 ≤ ofs ∧ (xo ≠ 0 → ofs < 4294967296) ∧ (big = false → ofs < 281474976710656)) (hxo : 0 ≤ xo ∧ (big = false → xo ≤ 65535)) :
  Calls Tryz.prog 84 #[.int .i64 (kB big), parV dg ky fo dp lf ofs xo nd inr (.slice (some ⟨b1, o1, none⟩) zs1.length c1) (.slice (some ⟨b2, o2, none⟩) zs2.length c2)] w fun e w' => (∃ p n, e = .returned (.tuple #[p, .int .i64 n]) ∧ (n = 0 ↔ okC big dg ky dp xo inr) ∧
   (n = 0 → ∃ sa pe, p = parV dg ky fo dp lf ofs xo nd inr sa pe ∧ w'.ownsRow w.heap.size 5 1 sa (trimL zs1 zs1.length) ((zs1.take (trimL zs1 zs1.length)).map encB) ∧ w'.ownsRow w.heap.size 5 1 pe (trimL zs2 zs2.length) ((zs2.take (trimL zs2 zs2.length)).map encB)) ∧
   (n ≠ 0 → p = .agg zeroP)) ∧ Below w.heap.size w w' := by
 obtain ⟨b0, hb0⟩ : ∃ b0, w.heap.size = b0 := ⟨_, rfl⟩
 have hS : sB big ≤ 16 := by cases big <;> decide
 have H1 := Lib.hid h1
 have H2 := Lib.hid h2
 clear h1 h2
 have hA1 : Below b0 w ((w.alloc (.cells #[.int .i64 dg, .int .i64 ky, .int .i64 fo, .int .i64 dp, .int .u32 lf, .int .u64 ofs, .int .u32 xo, .int .i64 nd, .int .i64 inr, .slice (some ⟨b1, o1, none⟩) zs1.length c1, .slice (some ⟨b2, o2, none⟩) zs2.length c2] 76)).alloc (.cells #[.int .i64 0, .int .i64 0, .int .i64 0, .int .i64 0, .int .u32 0, .int .u64 0, .int .u32 0, .int .i64 0, .int .i64 0, .slice none 0 0, .slice none 0 0] 76)) := by rw [← hb0]; exact ((Below.refl _ _).alloc (Nat.le_refl _) _).alloc (by simp) _
 have hR0 : ((w.alloc (.cells #[.int .i64 dg, .int .i64 ky, .int .i64 fo, .int .i64 dp, .int .u32 lf, .int .u64 ofs, .int .u32 xo, .int .i64 nd, .int .i64 inr, .slice (some ⟨b1, o1, none⟩) zs1.length c1, .slice (some ⟨b2, o2, none⟩) zs2.length c2] 76)).alloc (.cells #[.int .i64 0, .int .i64 0, .int .i64 0, .int .i64 0, .int .u32 0, .int .u64 0, .int .u32 0, .int .i64 0, .int .i64 0, .slice none 0 0, .slice none 0 0] 76)).heap[b0]? = some (.cells #[.int .i64 dg, .int .i64 ky, .int .i64 fo, .int .i64 dp, .int .u32 lf, .int .u64 ofs, .int .u32 xo, .int .i64 nd, .int .i64 inr, .slice (some ⟨b1, o1, none⟩) zs1.length c1, .slice (some ⟨b2, o2, none⟩) zs2.length c2] 76 (0, 0)) := (Below.heap_alloc _ _ _ (by simp; omega)).trans (World.alloc_new_at _ _ hb0.symm)
 have hR1 : ((w.alloc (.cells #[.int .i64 dg, .int .i64 ky, .int .i64 fo, .int .i64 dp, .int .u32 lf, .int .u64 ofs, .int .u32 xo, .int .i64 nd, .int .i64 inr, .slice (some ⟨b1, o1, none⟩) zs1.length c1, .slice (some ⟨b2, o2, none⟩) zs2.length c2] 76)).alloc (.cells #[.int .i64 0, .int .i64 0, .int .i64 0, .int .i64 0, .int .u32 0, .int .u64 0, .int .u32 0, .int .i64 0, .int .i64 0, .slice none 0 0, .slice none 0 0] 76)).heap[b0 + 1]? = some (.cells #[.int .i64 0, .int .i64 0, .int .i64 0, .int .i64 0, .int .u32 0, .int .u64 0, .int .u32 0, .int .i64 0, .int .i64 0, .slice none 0 0, .slice none 0 0] 76 (0, 0)) := World.alloc_new_at _ _ (by simp; omega)
 have hsA : ((w.alloc (.cells #[.int .i64 dg, .int .i64 ky, .int .i64 fo, .int .i64 dp, .int .u32 lf, .int .u64 ofs, .int .u32 xo, .int .i64 nd, .int .i64 inr, .slice (some ⟨b1, o1, none⟩) zs1.length c1, .slice (some ⟨b2, o2, none⟩) zs2.length c2] 76)).alloc (.cells #[.int .i64 0, .int .i64 0, .int .i64 0, .int .i64 0, .int .u32 0, .int .u64 0, .int .u32 0, .int .i64 0, .int .i64 0, .slice none 0 0, .slice none 0 0] 76)).heap.size = b0 + 2 := by simp; omega
 have HCK := Lib.hid (fun (W : World) => refCheck_any big dg ky fo dp lf ofs xo nd inr (some ⟨b1, o1, none⟩) (some ⟨b2, o2, none⟩) zs1.length zs2.length c1 c2 W hdp hfo hnd hof hxo hm1 hm2)
 unfold parV at HCK ⊢
 clear hdp hfo hnd hof hxo
 go_enter Tryz.func84, Tryz.ntmps84
 go_upto_region 1 with (fail)
 generalize ((w.alloc (.cells #[.int .i64 dg, .int .i64 ky, .int .i64 fo, .int .i64 dp, .int .u32 lf, .int .u64 ofs, .int .u32 xo, .int .i64 nd, .int .i64 inr, .slice (some ⟨b1, o1, none⟩) zs1.length c1, .slice (some ⟨b2, o2, none⟩) zs2.length c2] 76)).alloc (.cells #[.int .i64 0, .int .i64 0, .int .i64 0, .int .i64 0, .int .u32 0, .int .u64 0, .int .u32 0, .int .i64 0, .int .i64 0, .slice none 0 0, .slice none 0 0] 76)) = w1 at *
 go_wp2_with ((with_reducible show wpList _ _ _ (Oper.mk _ (Op.load 76 _) _ _ _ _ :: _) _ _); refine wpList_load_row rfl 76 _ rfl b0 rfl _ _ _ _ hR0 Tryz.underlying76 rfl (by kernel_rfl) ?_)
 refine (HCK.out w1).mono ?_; rintro e w2 ⟨⟨n, rfl, hn⟩, hb2⟩
 have HN := Lib.hid hn
 clear hn HCK
 have hA2 : Below b0 w w2 := hA1.trans (hb2.mono (by omega))
 have hR0b := rowStay hR0 hb2
 have hR1b := rowStay hR1 hb2
 have hs2 := hb2.size
 clear hR0 hR1 hb2 hA1
 by_cases hn0 : n = 0
 case neg =>
  go_wp2_with ((with_reducible show wpList _ _ _ (Oper.mk _ (Op.store 76 _ _) _ _ _ _ :: _) _ _); refine wpList_store_row rfl 76 _ _ rfl (b0 + 1) #[.int .i64 0, .int .i64 0, .int .i64 0, .int .i64 0, .int .u32 0, .int .u64 0, .int .u32 0, .int .i64 0, .int .i64 0, .slice none 0 0, .slice none 0 0] rfl rfl 76 _ hR1b (by kernel_rfl) rfl (by simp [Value.oneCell']) ?_)
  exact bodyPost_ret (results_row_tmp rfl _ _ (b0 + 1) _ _ _ _ rfl (setRow_heap _ (b0 + 1) _ _ _ _ hR1b) Tryz.underlying76 rfl (by kernel_rfl)) rfl ⟨⟨_, n, rfl, HN.out, fun h => absurd h hn0, fun _ => rfl⟩, by rw [hb0]; exact below_setRow hA2 (by omega) _⟩
 subst hn0
 have B1 : BytesAt w2 b1 o1 zs1 := bytesStay H1.out (by omega) hA2
 have B2 : BytesAt w2 b2 o2 zs2 := bytesStay H2.out (by omega) hA2
 have c9 := cell_of_heap hR0b 9
 have kk0 : b0 < w2.heap.size := by omega
 go_upto_region 4 with (fail)
 go_wp2_with fail
 refine (refTrimmed_ok zs1 b1 o1 c1 _ B1 hc1 (by omega)).mono ?_; rintro r w3 ⟨sa, rfl, own3, hb3⟩
 obtain ⟨a5, n5, k5, rfl⟩ := own_slice own3
 have hR0c := rowStay hR0b hb3
 have hR1c := rowStay hR1b hb3
 have hA3 : Below b0 w w3 := hA2.trans (hb3.mono (by omega))
 have hs3 := hb3.size
 have B2c : BytesAt w3 b2 o2 zs2 := bytesStay B2 (Nat.le_refl _) hb3
 clear hR0b hR1b hA2 hb3 B1 B2 c9 kk0
 have c9 := cell_of_heap hR0c 9
 have f9 := frozen_of_row w3 b0 9 _ _ hR0c
 have kk0 : b0 < w3.heap.size := by omega
 go_upto_region 5 with (fail)
 have hR0d : (w3.setCell ⟨b0, 9, none⟩ (.slice a5 n5 k5)).heap[b0]? = some (.cells #[.int .i64 dg, .int .i64 ky, .int .i64 fo, .int .i64 dp, .int .u32 lf, .int .u64 ofs, .int .u32 xo, .int .i64 nd, .int .i64 inr, .slice a5 n5 k5, .slice (some ⟨b2, o2, none⟩) zs2.length c2] 76 (0, 0)) := heap_setCell_same w3 b0 9 _ _ _ hR0c
 have hR1d : (w3.setCell ⟨b0, 9, none⟩ (.slice a5 n5 k5)).heap[b0 + 1]? = some (.cells #[.int .i64 0, .int .i64 0, .int .i64 0, .int .i64 0, .int .u32 0, .int .u64 0, .int .u32 0, .int .i64 0, .int .i64 0, .slice none 0 0, .slice none 0 0] 76 (0, 0)) := (heap_setCell_other w3 _ _ _ (by simp)).trans hR1c
 have hA4 : Below b0 w (w3.setCell ⟨b0, 9, none⟩ (.slice a5 n5 k5)) := hA3.setCell (Nat.le_refl _) _
 have own4 := ownsRow_setCell_below own3 (a := ⟨b0, 9, none⟩) (by show b0 < _; omega) (.slice a5 n5 k5)
 have hs4 : (w3.setCell ⟨b0, 9, none⟩ (.slice a5 n5 k5)).heap.size = w3.heap.size := by simp [World.setCell]
 have B2d : BytesAt (w3.setCell ⟨b0, 9, none⟩ (.slice a5 n5 k5)) b2 o2 zs2 := bytesStay H2.out (by omega) hA4
 generalize w3.setCell ⟨b0, 9, none⟩ (.slice a5 n5 k5) = w4 at *
 clear c9 f9 kk0 hR0c hR1c hA3 own3 B2c
 have c10 := cell_of_heap hR0d 10
 have kk0 : b0 < w4.heap.size := by omega
 go_wp2_with fail
 refine (refTrimmed_ok zs2 b2 o2 c2 _ B2d hc2 (by omega)).mono ?_; rintro r w5 ⟨pe, rfl, own5, hb5⟩
 obtain ⟨a8, n8, k8, rfl⟩ := own_slice own5
 have hR0e := rowStay hR0d hb5
 have hR1e := rowStay hR1d hb5
 have hA5 : Below b0 w w5 := hA4.trans (hb5.mono (by omega))
 have own4e := ownsRow_same' own4 (fun g _ g2 => hb5.block g g2)
 have hs5 := hb5.size
 clear hR0d hR1d hA4 hb5 B2d own4 c10 kk0
 have c10 := cell_of_heap hR0e 10
 have f10 := frozen_of_row w5 b0 10 _ _ hR0e
 have kk0 : b0 < w5.heap.size := by omega
 go_upto_region 6 with (fail)
 have hR0f : (w5.setCell ⟨b0, 10, none⟩ (.slice a8 n8 k8)).heap[b0]? = some (.cells #[.int .i64 dg, .int .i64 ky, .int .i64 fo, .int .i64 dp, .int .u32 lf, .int .u64 ofs, .int .u32 xo, .int .i64 nd, .int .i64 inr, .slice a5 n5 k5, .slice a8 n8 k8] 76 (0, 0)) := heap_setCell_same w5 b0 10 _ _ _ hR0e
 have hR1f : (w5.setCell ⟨b0, 10, none⟩ (.slice a8 n8 k8)).heap[b0 + 1]? = some (.cells #[.int .i64 0, .int .i64 0, .int .i64 0, .int .i64 0, .int .u32 0, .int .u64 0, .int .u32 0, .int .i64 0, .int .i64 0, .slice none 0 0, .slice none 0 0] 76 (0, 0)) := (heap_setCell_other w5 _ _ _ (by simp)).trans hR1e
 have hA6 : Below b0 w (w5.setCell ⟨b0, 10, none⟩ (.slice a8 n8 k8)) := hA5.setCell (Nat.le_refl _) _
 have own4f := ownsRow_setCell_below own4e (a := ⟨b0, 10, none⟩) (by show b0 < _; omega) (.slice a8 n8 k8)
 have own5f := ownsRow_setCell_below own5 (a := ⟨b0, 10, none⟩) (by show b0 < _; omega) (.slice a8 n8 k8)
 generalize w5.setCell ⟨b0, 10, none⟩ (.slice a8 n8 k8) = w6 at *
 clear c10 f10 kk0 hR0e hR1e hA5 own4e own5
 go_wp2_with (first | ((with_reducible show wpList _ _ _ (Oper.mk _ (Op.load 76 _) _ _ _ _ :: _) _ _); refine wpList_load_row rfl 76 _ rfl b0 rfl _ _ _ _ hR0f Tryz.underlying76 rfl (by kernel_rfl) ?_) | ((with_reducible show wpList _ _ _ (Oper.mk _ (Op.store 76 _ _) _ _ _ _ :: _) _ _); refine wpList_store_row rfl 76 _ _ rfl (b0 + 1) #[.int .i64 dg, .int .i64 ky, .int .i64 fo, .int .i64 dp, .int .u32 lf, .int .u64 ofs, .int .u32 xo, .int .i64 nd, .int .i64 inr, .slice a5 n5 k5, .slice a8 n8 k8] rfl rfl 76 _ hR1f (by kernel_rfl) rfl (by simp [Value.oneCell']) ?_))
 have own' : ∀ {B : Nat} {v : Value} {n : Nat} {xs : List Value}, b0 + 1 < B → w6.ownsRow B 5 1 v n xs → (w6.setRow (b0 + 1) #[.int .i64 dg, .int .i64 ky, .int .i64 fo, .int .i64 dp, .int .u32 lf, .int .u64 ofs, .int .u32 xo, .int .i64 nd, .int .i64 inr, .slice a5 n5 k5, .slice a8 n8 k8]).ownsRow B 5 1 v n xs := fun hB h => ownsRow_same' h (fun g g1 _ => setRow_other _ _ _ _ (by omega))
 exact bodyPost_ret (results_row_tmp rfl _ _ (b0 + 1) _ _ _ _ rfl (setRow_heap w6 (b0 + 1) _ #[.int .i64 dg, .int .i64 ky, .int .i64 fo, .int .i64 dp, .int .u32 lf, .int .u64 ofs, .int .u32 xo, .int .i64 nd, .int .i64 inr, .slice a5 n5 k5, .slice a8 n8 k8] _ _ hR1f) Tryz.underlying76 rfl (by kernel_rfl)) rfl ⟨⟨_, 0, rfl, ⟨fun _ => HN.out.1 (by trivial), fun _ => rfl⟩, fun _ => ⟨_, _, rfl, ownsRow_le (own' (by omega) own4f) (by omega), ownsRow_le (own' (by omega) own5f) (by omega)⟩, fun h => absurd rfl h⟩, by rw [hb0]; exact below_setRow hA6 (by omega) _⟩
end Go.Proofs.YtjogmckaakkomaaGreat
