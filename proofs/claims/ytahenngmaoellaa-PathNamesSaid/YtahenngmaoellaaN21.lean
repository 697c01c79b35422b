/- Parameters without the noughts at the ends of salt and personal, by the program. No condition. -/
import Derived.Test.YtahenngmaoellaaN19
import Derived.Test.YtahenngmaoellaaN20
import Derived.Test.YtahenngmaoellaaN15
import Derived.Test.YtahenngmaoellaaN16
set_option linter.all false
set_option maxRecDepth 100000
set_option maxHeartbeats 8000000
namespace Go.Proofs.Ytahenngmaoellaa
open Go.ChangeShapes Go.WideShapes Go.ChangeAt Go.RowKit Go.Joins Go.Shelf Go.Maps
open Go.Lib (hid)
attribute [local go_sem] Oper.semAt_some
theorem rowStay {p : Nat} {o : Obj} {W W' : World} (h : W.heap[p]? = some o) (hb : Below W.heap.size W W') : W'.heap[p]? = some o := (hb.block p (Array.getElem?_eq_some_iff.1 h).1).trans h
theorem bytesStay {W W' : World} {b off : Nat} {zs : List Int} {B : Nat} (h : BytesAt W b off zs) (hB : W.heap.size ≤ B) (hb : Below B W W') : BytesAt W' b off zs :=
 ⟨Nat.lt_of_lt_of_le h.1 hb.size, fun i hi => (hb.cell (p := ⟨b, off + i, none⟩) (Nat.lt_of_lt_of_le h.1 hB)).trans (h.2 i hi)⟩
theorem own_slice {W : World} {B n : Nat} {e : TypeId} {v : Value} {xs : List Value} (h : W.ownsRow B e 1 v n xs) : ∃ a m c, v = .slice a m c := by
 rcases h.2 with ⟨rfl, -⟩ | ⟨g, cap, cur, rfl, -⟩
 ·exact ⟨_, _, _, rfl⟩
 ·exact ⟨_, _, _, rfl⟩
/-- The xof's number. -/
def xoZ (big ext : Bool) (zs : List Int) : Int := cond ext (valZ zs 12 (szB big 7)) 0
theorem nthz_sub {zs : List Int} {i at_ n : Nat} (h : i < n) : nthz ((zs.drop at_).take n) i = nthz zs (at_ + i) := by
 unfold nthz; simp [List.getD_eq_getElem?_getD, List.getElem?_take, h, List.getElem?_drop]
theorem len_sub {zs : List Int} {at_ n : Nat} (h : at_ + n ≤ zs.length) : ((zs.drop at_).take n).length = n := by simp; omega
theorem bytesSub {W : World} {b off : Nat} {zs : List Int} (h : BytesAt W b off zs) {at_ n : Nat} (hn : at_ + n ≤ zs.length) : BytesAt W b (off + at_) ((zs.drop at_).take n) :=
 ⟨h.1, fun i hi => by
  rw [len_sub hn] at hi
  rw [nthz_sub hi, Nat.add_assoc]; exact h.2 _ (by omega)⟩
theorem normal_ok (dg ky fo dp lf ofs xo nd inr : Int) (zs1 zs2 : List Int) (b1 o1 c1 b2 o2 c2 : Nat) (w : World) (h1 : BytesAt w b1 o1 zs1) (h2 : BytesAt w b2 o2 zs2) (hc1 : zs1.length ≤ c1) (hc2 : zs2.length ≤ c2) (hm1 : zs1.length ≤ 4294967296) (hm2 : zs2.length ≤ 4294967296) :
  Calls Try.prog 43 #[parV dg ky fo dp lf ofs xo nd inr (.slice (some ⟨b1, o1, none⟩) zs1.length c1) (.slice (some ⟨b2, o2, none⟩) zs2.length c2)] w fun e w' => ∃ sa pe, e = .returned (parV dg ky fo dp lf ofs xo nd inr sa pe) ∧
   w'.ownsRow w.heap.size 5 1 sa (trimL zs1 zs1.length) ((zs1.take (trimL zs1 zs1.length)).map encB) ∧ w'.ownsRow w.heap.size 5 1 pe (trimL zs2 zs2.length) ((zs2.take (trimL zs2 zs2.length)).map encB) ∧ Below w.heap.size w w' := by
 obtain ⟨b0, hb0⟩ : ∃ b0, w.heap.size = b0 := ⟨_, rfl⟩
 unfold parV
 obtain ⟨S1, hS1⟩ : ∃ v : Value, v = .slice (some ⟨b1, o1, none⟩) zs1.length c1 := ⟨_, rfl⟩
 obtain ⟨S2, hS2⟩ : ∃ v : Value, v = .slice (some ⟨b2, o2, none⟩) zs2.length c2 := ⟨_, rfl⟩
 have H1 := hid h1
 have H2 := hid h2
 clear h1 h2
 clear hS1 hS2 S1 S2
 have hA1 : Below b0 w ((w.alloc (.cells #[.int .i64 dg, .int .i64 ky, .int .i64 fo, .int .i64 dp, .int .u32 lf, .int .u64 ofs, .int .u32 xo, .int .i64 nd, .int .i64 inr, .slice (some ⟨b1, o1, none⟩) zs1.length c1, .slice (some ⟨b2, o2, none⟩) zs2.length c2] 78)).alloc (.cells #[.int .i64 0, .int .i64 0, .int .i64 0, .int .i64 0, .int .u32 0, .int .u64 0, .int .u32 0, .int .i64 0, .int .i64 0, .slice none 0 0, .slice none 0 0] 78)) := by rw [← hb0]; exact ((Below.refl _ _).alloc (Nat.le_refl _) _).alloc (by simp) _
 have hR0 : ((w.alloc (.cells #[.int .i64 dg, .int .i64 ky, .int .i64 fo, .int .i64 dp, .int .u32 lf, .int .u64 ofs, .int .u32 xo, .int .i64 nd, .int .i64 inr, .slice (some ⟨b1, o1, none⟩) zs1.length c1, .slice (some ⟨b2, o2, none⟩) zs2.length c2] 78)).alloc (.cells #[.int .i64 0, .int .i64 0, .int .i64 0, .int .i64 0, .int .u32 0, .int .u64 0, .int .u32 0, .int .i64 0, .int .i64 0, .slice none 0 0, .slice none 0 0] 78)).heap[b0]? = some (.cells #[.int .i64 dg, .int .i64 ky, .int .i64 fo, .int .i64 dp, .int .u32 lf, .int .u64 ofs, .int .u32 xo, .int .i64 nd, .int .i64 inr, .slice (some ⟨b1, o1, none⟩) zs1.length c1, .slice (some ⟨b2, o2, none⟩) zs2.length c2] 78 (0, 0)) := (Below.heap_alloc _ _ _ (by simp; omega)).trans (World.alloc_new_at _ _ hb0.symm)
 have hR1 : ((w.alloc (.cells #[.int .i64 dg, .int .i64 ky, .int .i64 fo, .int .i64 dp, .int .u32 lf, .int .u64 ofs, .int .u32 xo, .int .i64 nd, .int .i64 inr, .slice (some ⟨b1, o1, none⟩) zs1.length c1, .slice (some ⟨b2, o2, none⟩) zs2.length c2] 78)).alloc (.cells #[.int .i64 0, .int .i64 0, .int .i64 0, .int .i64 0, .int .u32 0, .int .u64 0, .int .u32 0, .int .i64 0, .int .i64 0, .slice none 0 0, .slice none 0 0] 78)).heap[b0 + 1]? = some (.cells #[.int .i64 0, .int .i64 0, .int .i64 0, .int .i64 0, .int .u32 0, .int .u64 0, .int .u32 0, .int .i64 0, .int .i64 0, .slice none 0 0, .slice none 0 0] 78 (0, 0)) := World.alloc_new_at _ _ (by simp; omega)
 have hsA : ((w.alloc (.cells #[.int .i64 dg, .int .i64 ky, .int .i64 fo, .int .i64 dp, .int .u32 lf, .int .u64 ofs, .int .u32 xo, .int .i64 nd, .int .i64 inr, .slice (some ⟨b1, o1, none⟩) zs1.length c1, .slice (some ⟨b2, o2, none⟩) zs2.length c2] 78)).alloc (.cells #[.int .i64 0, .int .i64 0, .int .i64 0, .int .i64 0, .int .u32 0, .int .u64 0, .int .u32 0, .int .i64 0, .int .i64 0, .slice none 0 0, .slice none 0 0] 78)).heap.size = b0 + 2 := by simp; omega
 go_enter Try.func43, Try.ntmps43
 go_upto_region 1 with (fail)
 generalize ((w.alloc (.cells #[.int .i64 dg, .int .i64 ky, .int .i64 fo, .int .i64 dp, .int .u32 lf, .int .u64 ofs, .int .u32 xo, .int .i64 nd, .int .i64 inr, .slice (some ⟨b1, o1, none⟩) zs1.length c1, .slice (some ⟨b2, o2, none⟩) zs2.length c2] 78)).alloc (.cells #[.int .i64 0, .int .i64 0, .int .i64 0, .int .i64 0, .int .u32 0, .int .u64 0, .int .u32 0, .int .i64 0, .int .i64 0, .slice none 0 0, .slice none 0 0] 78)) = w1 at *
 have B1 : BytesAt w1 b1 o1 zs1 := bytesStay H1.out (by omega) hA1
 have B2 : BytesAt w1 b2 o2 zs2 := bytesStay H2.out (by omega) hA1
 have c9 := cell_of_heap hR0 9
 have c10 := cell_of_heap hR0 10
 refine wp_region_c (n := 7) (w0 := w1) (B := w1.heap.size) [.v 3 (.pointer (some ⟨b0, 9, none⟩)), .v 4 (.slice (some ⟨b1, o1, none⟩) zs1.length c1), .p 5 (fun u W => W.ownsRow w1.heap.size 5 1 u (trimL zs1 zs1.length) ((zs1.take (trimL zs1 zs1.length)).map encB)), .v 6 (.pointer (some ⟨b0, 10, none⟩)), .v 7 (.slice (some ⟨b2, o2, none⟩) zs2.length c2), .p 8 (fun u W => W.ownsRow w1.heap.size 5 1 u (trimL zs2 zs2.length) ((zs2.take (trimL zs2 zs2.length)).map encB)), .v 9 (.pointer (some ⟨b0, 9, none⟩))] (by exact ⟨(fun _ _ _ h hb => ownsRow_same' h (fun g _ g2 => hb.block g g2)), (fun _ _ _ h hb => ownsRow_same' h (fun g _ g2 => hb.block g g2)), trivial⟩) (Below.refl _ _).drew (Nat.le_refl _) ?_ ?_
 ·repeat' (with_reducible first | exact eachO_nil | refine eachO_cons ?_ ?_)
  all_goals try
   intro A x W hA hW hBW hdep D K hK
   have a1 := hA.2 1 (by decide)
   conv at a1 => rhs; whnf
   simp only [DepF, nthF] at D
   clear hdep hA
   first
   | go_simp
     exact hK _ _ BR rfl
   | have y0 := (hW.cell (p := ⟨b0, 9, none⟩) (by show b0 < _; omega)).trans c9
     have y1 : b0 < W.heap.size := by omega
     have y2 := (hW.cell (p := ⟨b0, 10, none⟩) (by show b0 < _; omega)).trans c10
     go_simp
     exact hK _ _ BR rfl
  ·intro A x W hA hW hBW hdep _ K hK
   have g4 := gv hA hdep 1 4
   clear hdep hA
   go_simp
   refine (trimmed_ok zs1 b1 o1 c1 _ (bytesStay B1 (Nat.le_refl _) hW) hc1 hm1).mono ?_
   rintro r w3 ⟨u, rfl, hown, hb⟩
   exact hK _ _ hb (ownsRow_le hown hBW)
  ·intro A x W hA hW hBW hdep _ K hK
   have g7 := gv hA hdep 4 7
   clear hdep hA
   go_simp
   refine (trimmed_ok zs2 b2 o2 c2 _ (bytesStay B2 (Nat.le_refl _) hW) hc2 hm2).mono ?_
   rintro r w3 ⟨u, rfl, hown, hb⟩
   exact hK _ _ hb (ownsRow_le hown hBW)
 intro x W hW hBW hall
 obtain ⟨e5, e8, -⟩ := hall
 change (fun u W => W.ownsRow w1.heap.size 5 1 u (trimL zs1 zs1.length) ((zs1.take (trimL zs1 zs1.length)).map encB)) (x 5) W at e5
 change (fun u W => W.ownsRow w1.heap.size 5 1 u (trimL zs2 zs2.length) ((zs2.take (trimL zs2 zs2.length)).map encB)) (x 8) W at e8
 have hR0W : W.heap[b0]? = some (.cells #[.int .i64 dg, .int .i64 ky, .int .i64 fo, .int .i64 dp, .int .u32 lf, .int .u64 ofs, .int .u32 xo, .int .i64 nd, .int .i64 inr, .slice (some ⟨b1, o1, none⟩) zs1.length c1, .slice (some ⟨b2, o2, none⟩) zs2.length c2] 78 (0, 0)) := (hW.block b0 (by omega)).trans hR0
 have hR1W : W.heap[b0 + 1]? = some (.cells #[.int .i64 0, .int .i64 0, .int .i64 0, .int .i64 0, .int .u32 0, .int .u64 0, .int .u32 0, .int .i64 0, .int .i64 0, .slice none 0 0, .slice none 0 0] 78 (0, 0)) := (hW.block (b0 + 1) (by omega)).trans hR1
 refine thenTail_cons ?_
 simp only [layS, Act.put, List.setIfInBounds_toArray, List.set_cons_zero, List.set_cons_succ]
 generalize x 5 = sa at *
 generalize x 8 = pe at *
 obtain ⟨a5, n5, k5, rfl⟩ := own_slice e5
 obtain ⟨a8, n8, k8, rfl⟩ := own_slice e8
 have d9 := cell_of_heap hR0W 9
 have d10 := cell_of_heap hR0W 10
 have f9 := frozen_of_row W b0 9 _ _ hR0W
 go_wp2_with fail
 have hR2 : (W.setCell ⟨b0, 9, none⟩ (.slice a5 n5 k5)).heap[b0]? = some (.cells #[.int .i64 dg, .int .i64 ky, .int .i64 fo, .int .i64 dp, .int .u32 lf, .int .u64 ofs, .int .u32 xo, .int .i64 nd, .int .i64 inr, .slice a5 n5 k5, .slice (some ⟨b2, o2, none⟩) zs2.length c2] 78 (0, 0)) := heap_setCell_same W b0 9 _ _ _ hR0W
 have hR3 : (W.setCell ⟨b0, 9, none⟩ (.slice a5 n5 k5)).heap[b0 + 1]? = some (.cells #[.int .i64 0, .int .i64 0, .int .i64 0, .int .i64 0, .int .u32 0, .int .u64 0, .int .u32 0, .int .i64 0, .int .i64 0, .slice none 0 0, .slice none 0 0] 78 (0, 0)) := (heap_setCell_other W _ _ _ (by simp)).trans hR1W
 have hbW : Below b0 w (W.setCell ⟨b0, 9, none⟩ (.slice a5 n5 k5)) := (hA1.trans (hW.mono (by omega))).setCell (Nat.le_refl _) _
 have o5 := ownsRow_setCell_below e5 (a := ⟨b0, 9, none⟩) (by show b0 < _; omega) (.slice a5 n5 k5)
 have o8 := ownsRow_setCell_below e8 (a := ⟨b0, 9, none⟩) (by show b0 < _; omega) (.slice a5 n5 k5)
 generalize W.setCell ⟨b0, 9, none⟩ (.slice a5 n5 k5) = W2 at *
 clear d9 d10 f9 hR0W hR1W hW hBW e5 e8
 have d10 := cell_of_heap hR2 10
 have f10 := frozen_of_row W2 b0 10 _ _ hR2
 refine thenTail_cons ?_
 go_wp2_with fail
 refine thenTail_cons ?_
 go_wp2_with fail
 have hR4 : (W2.setCell ⟨b0, 10, none⟩ (.slice a8 n8 k8)).heap[b0]? = some (.cells #[.int .i64 dg, .int .i64 ky, .int .i64 fo, .int .i64 dp, .int .u32 lf, .int .u64 ofs, .int .u32 xo, .int .i64 nd, .int .i64 inr, .slice a5 n5 k5, .slice a8 n8 k8] 78 (0, 0)) := heap_setCell_same W2 b0 10 _ _ _ hR2
 have hR5 : (W2.setCell ⟨b0, 10, none⟩ (.slice a8 n8 k8)).heap[b0 + 1]? = some (.cells #[.int .i64 0, .int .i64 0, .int .i64 0, .int .i64 0, .int .u32 0, .int .u64 0, .int .u32 0, .int .i64 0, .int .i64 0, .slice none 0 0, .slice none 0 0] 78 (0, 0)) := (heap_setCell_other W2 _ _ _ (by simp)).trans hR3
 have hb3 := hbW.setCell (p := ⟨b0, 10, none⟩) (Nat.le_refl _) (.slice a8 n8 k8)
 have q5 := ownsRow_setCell_below o5 (a := ⟨b0, 10, none⟩) (by show b0 < _; omega) (.slice a8 n8 k8)
 have q8 := ownsRow_setCell_below o8 (a := ⟨b0, 10, none⟩) (by show b0 < _; omega) (.slice a8 n8 k8)
 generalize W2.setCell ⟨b0, 10, none⟩ (.slice a8 n8 k8) = W3 at *
 clear d10 f10 hR2 hR3 hbW o5 o8 c9 c10
 refine thenTail_nil ?_
 go_wp2_with (first | ((with_reducible show wpList _ _ _ (Oper.mk _ (Op.load _ _) _ _ _ _ :: _) _ _); refine wpList_load_row rfl 78 _ rfl b0 rfl _ _ _ _ hR4 Try.underlying78 rfl (by kernel_rfl) ?_) | ((with_reducible show wpList _ _ _ (Oper.mk _ (Op.store _ _ _) _ _ _ _ :: _) _ _); refine wpList_store_row rfl 78 _ _ rfl (b0 + 1) #[.int .i64 dg, .int .i64 ky, .int .i64 fo, .int .i64 dp, .int .u32 lf, .int .u64 ofs, .int .u32 xo, .int .i64 nd, .int .i64 inr, .slice a5 n5 k5, .slice a8 n8 k8] rfl rfl 78 _ hR5 (by kernel_rfl) rfl (by simp [Value.oneCell']) ?_))
 have own' : ∀ {v : Value} {n : Nat} {xs : List Value}, W3.ownsRow w1.heap.size 5 1 v n xs → (W3.setRow (b0 + 1) #[.int .i64 dg, .int .i64 ky, .int .i64 fo, .int .i64 dp, .int .u32 lf, .int .u64 ofs, .int .u32 xo, .int .i64 nd, .int .i64 inr, .slice a5 n5 k5, .slice a8 n8 k8]).ownsRow w1.heap.size 5 1 v n xs := fun h => ownsRow_same' h (fun g g1 _ => setRow_other _ _ _ _ (by omega))
 exact bodyPost_ret (results_cell_row rfl _ _ (b0 + 1) _ _ _ _ rfl (setRow_heap W3 (b0 + 1) _ #[.int .i64 dg, .int .i64 ky, .int .i64 fo, .int .i64 dp, .int .u32 lf, .int .u64 ofs, .int .u32 xo, .int .i64 nd, .int .i64 inr, .slice a5 n5 k5, .slice a8 n8 k8] _ _ hR5) Try.underlying78 rfl (by kernel_rfl)) rfl ⟨_, _, rfl, ownsRow_le (own' q5) (by omega), ownsRow_le (own' q8) (by omega), by rw [hb0]; exact below_setRow hb3 (by omega) _⟩
end Go.Proofs.Ytahenngmaoellaa
