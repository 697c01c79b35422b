/- A block goes into a state, by the program. No condition. -/
import Derived.Test.YtjogmckaakkomaaGreatK26
import Derived.Test.YtjogmckaakkomaaGreatK30
namespace Go.Proofs.YtjogmckaakkomaaGreat
open Go.ChangeShapes Go.WideShapes Go.ChangeAt Go.RowKit Go.Joins Go.Shelf Go.Maps
attribute [local go_sem] Oper.semAt_some

theorem Holds8.mono_below {w w' : World} {v : Value} {zs : List Int} {B : Nat} (h : Holds8 w v zs) (hb : Below B w w') (hB : w.heap.size ≤ B) : Holds8 w' v zs := holds8_below h (hb.mono hB)
set_option maxRecDepth 100000 in
set_option maxHeartbeats 1000000 in
theorem mix_true (h bs : List Int) (hh : Words 64 8 h) (v : Value) (lo : Nat) (hlo : (lo : Int) < 9223372036854775808) (last node : Bool) (w : World) (hH : Holds8 w v bs) (hz : ∀ z ∈ bs, 0 ≤ z ∧ z ≤ 255) (hl : bs.length = 128) :
  Calls Tryz.prog 97 #[.agg (arrV .u64 h), v, .agg #[.int .u64 (lo : Nat), .int .u64 0], .bool last, .bool node] w fun e w' => e = .returned (.agg (arrV .u64 (compZ true h bs (lo : Nat) last node))) ∧ Below w.heap.size w w' := by
 obtain ⟨b0, hb0⟩ : ∃ b0, w.heap.size = b0 := ⟨_, rfl⟩
 have hMw := wordsZ_words 8 16 hz (by rw [hl])
 obtain ⟨M, hM⟩ : ∃ M, wordsZ 8 16 bs = M := ⟨_, rfl⟩
 obtain ⟨R, hR⟩ : ∃ R, compZ true h bs (lo : Nat) last node = R := ⟨_, rfl⟩
 have hRw : Words 64 8 R := by rw [← hR]; exact compZ_words true hh _ _ _ _
 have hR2 : compF mixBig IVb 12 h M (lo : Nat) 0 last node = R := by rw [← hR, ← hM]; rfl
 rw [hR]
 rw [hM] at hMw
 have HM := Lib.hid hM
 have HR2 := Lib.hid hR2
 have HL := Lib.hid hl
 have HLO := Lib.hid hlo
 clear hM hR hR2 hl hlo
 have hbA : Below b0 w (((w.alloc (.cells (arrV .u64 h) 150)).alloc (.cells #[.int .u64 (lo : Nat), .int .u64 0] 157)).alloc (.cells #[.int .u64 0, .int .u64 0, .int .u64 0, .int .u64 0, .int .u64 0, .int .u64 0, .int .u64 0, .int .u64 0] 150)) := by rw [← hb0]; exact (((Below.refl _ _).alloc (Nat.le_refl _) _).alloc (by simp) _).alloc (by simp; omega) _
 have hsA : (((w.alloc (.cells (arrV .u64 h) 150)).alloc (.cells #[.int .u64 (lo : Nat), .int .u64 0] 157)).alloc (.cells #[.int .u64 0, .int .u64 0, .int .u64 0, .int .u64 0, .int .u64 0, .int .u64 0, .int .u64 0, .int .u64 0] 150)).heap.size = b0 + 1 + 1 + 1 := by simp [hb0]
 have h0 : (((w.alloc (.cells (arrV .u64 h) 150)).alloc (.cells #[.int .u64 (lo : Nat), .int .u64 0] 157)).alloc (.cells #[.int .u64 0, .int .u64 0, .int .u64 0, .int .u64 0, .int .u64 0, .int .u64 0, .int .u64 0, .int .u64 0] 150)).heap[b0]? = some (.cells (arrV .u64 h) 150 (0, 0)) := by
  rw [Below.heap_alloc _ _ _ (by simp [hb0]; omega), Below.heap_alloc _ _ _ (by simp [hb0]), ← hb0]; exact World.alloc_heap_new _ _
 have h1 : (((w.alloc (.cells (arrV .u64 h) 150)).alloc (.cells #[.int .u64 (lo : Nat), .int .u64 0] 157)).alloc (.cells #[.int .u64 0, .int .u64 0, .int .u64 0, .int .u64 0, .int .u64 0, .int .u64 0, .int .u64 0, .int .u64 0] 150)).heap[b0 + 1]? = some (.cells #[.int .u64 (lo : Nat), .int .u64 0] 157 (0, 0)) := by
  rw [Below.heap_alloc _ _ _ (by simp [hb0]), show b0 + 1 = (w.alloc (.cells (arrV .u64 h) 150)).heap.size by simp [hb0]]; exact World.alloc_heap_new _ _
 have h2 : (((w.alloc (.cells (arrV .u64 h) 150)).alloc (.cells #[.int .u64 (lo : Nat), .int .u64 0] 157)).alloc (.cells #[.int .u64 0, .int .u64 0, .int .u64 0, .int .u64 0, .int .u64 0, .int .u64 0, .int .u64 0, .int .u64 0] 150)).heap[b0 + 1 + 1]? = some (.cells #[.int .u64 0, .int .u64 0, .int .u64 0, .int .u64 0, .int .u64 0, .int .u64 0, .int .u64 0, .int .u64 0] 150 (0, 0)) := by
  rw [show b0 + 1 + 1 = ((w.alloc (.cells (arrV .u64 h) 150)).alloc (.cells #[.int .u64 (lo : Nat), .int .u64 0] 157)).heap.size by simp [hb0]]; exact World.alloc_heap_new _ _
 have HH := Lib.hid (hH.mono_below hbA (by omega))
 clear hH
 go_enter Tryz.func97, Tryz.ntmps97
 go_wp2_with fail
 generalize (((w.alloc (.cells (arrV .u64 h) 150)).alloc (.cells #[.int .u64 (lo : Nat), .int .u64 0] 157)).alloc (.cells #[.int .u64 0, .int .u64 0, .int .u64 0, .int .u64 0, .int .u64 0, .int .u64 0, .int .u64 0, .int .u64 0] 150)) = w0 at *
 refine (words64_ok bs v _ HH.out hz HL.out).mono ?_; rintro e w1 ⟨rfl, hb1⟩
 rw [HM.out]
 have hs1 := hb1.size
 have k0 := rowStay h0 hb1
 have k1 := rowStay h1 hb1
 have k2 := rowStay h2 hb1
 have hB1 : Below b0 w w1 := hbA.trans (hb1.mono (by omega))
 have hsz : b0 + 3 ≤ w1.heap.size := by omega
 clear h0 h1 h2 hb1 hbA HH hsA hs1
 have K0 := Lib.hid k0
 have K1 := Lib.hid k1
 have K2 := Lib.hid k2
 have HHW := Lib.hid hh
 clear k0 k1 k2 hh hz
 go_upto_region 2 with ((with_reducible show wpList _ _ _ (Oper.mk none (Op.store 123 _ _) _ _ _ _ :: _) _ _); refine wpList_store_row rfl 123 _ _ rfl w1.heap.size (arrV .u64 M) rfl rfl 123 _ (World.alloc_heap_new _ _) (by rw [arrV_size, hMw.1]; kernel_rfl) (by rw [arrV_size, hMw.1]; rfl) arrV_all ?_)
 refine letterW ?_
 intro W hW
 obtain ⟨bv, hbv⟩ : ∃ bv, w1.heap.size = bv := ⟨_, rfl⟩
 have g0 : W.heap[b0]? = some (.cells (arrV .u64 h) 150 (0, 0)) := by rw [hW]; exact (setRow_other (w1.alloc _) _ _ _ (by omega)).trans ((Below.heap_alloc _ _ _ (by omega)).trans K0.out)
 have g1 : W.heap[b0 + 1]? = some (.cells #[.int .u64 (lo : Nat), .int .u64 0] 157 (0, 0)) := by rw [hW]; exact (setRow_other (w1.alloc _) _ _ _ (by omega)).trans ((Below.heap_alloc _ _ _ (by omega)).trans K1.out)
 have g2 : W.heap[b0 + 1 + 1]? = some (.cells #[.int .u64 0, .int .u64 0, .int .u64 0, .int .u64 0, .int .u64 0, .int .u64 0, .int .u64 0, .int .u64 0] 150 (0, 0)) := by rw [hW]; exact (setRow_other (w1.alloc _) _ _ _ (by omega)).trans ((Below.heap_alloc _ _ _ (by omega)).trans K2.out)
 have g3 : W.heap[bv]? = some (.cells (arrV .u64 M) 123 (0, 0)) := by rw [hW, ← hbv]; exact setRow_heap _ _ _ _ _ _ (World.alloc_heap_new _ _)
 have hB2 : Below b0 w W := by rw [hW]; exact below_setRow (hB1.alloc (by omega) _) (by omega) _
 rw [hbv]
 clear hW hB1 hbv hsz K0 K1 K2
 have HRW := Lib.hid hRw
 have HMW := Lib.hid hMw
 clear hRw hMw
 have c10 := cell_of_heap g1 0
 go_wp2_with (first | ((with_reducible show wpList _ _ _ (Oper.mk (some 18) _ _ _ _ _ :: _) _ _); refine wpList_load_row rfl 150 _ rfl b0 rfl _ _ _ _ g0 Tryz.underlying150 rfl (by rw [arrV_size, HHW.out.1]; kernel_rfl) ?_) | ((with_reducible show wpList _ _ _ (Oper.mk (some 19) _ _ _ _ _ :: _) _ _); refine wpList_load_row rfl 123 _ rfl bv rfl _ _ _ _ g3 Tryz.underlying123 rfl (by rw [arrV_size, HMW.out.1]; kernel_rfl) ?_) | ((with_reducible show wpList _ _ _ (Oper.mk (some 20) _ _ _ _ _ :: _) _ _); refine wpList_load_row rfl 157 _ rfl (b0 + 1) rfl _ _ _ _ g1 Tryz.underlying157 rfl (by kernel_rfl) ?_))
 refine (F64_any h M HHW.out HMW.out (lo : Nat) 0 last node _).mono ?_; rintro e w2 ⟨rfl, hb2⟩
 rw [HR2.out]
 have j2 := rowStay g2 hb2
 have hB3 : Below b0 w w2 := hB2.trans (hb2.mono (by have := (Array.getElem?_eq_some_iff.1 g2).1; omega))
 clear g0 g1 g2 g3 hB2 hb2 c10
 go_wp2_with ((with_reducible show wpList _ _ _ (Oper.mk none (Op.store 150 _ _) _ _ _ _ :: _) _ _); refine wpList_store_row rfl 150 _ _ rfl (b0 + 1 + 1) (arrV .u64 R) rfl rfl 150 _ j2 (by rw [arrV_size, HRW.out.1]; kernel_rfl) (by rw [arrV_size, HRW.out.1]; rfl) arrV_all ?_)
 exact bodyPost_ret (results_cell_row rfl _ _ (b0 + 1 + 1) 150 _ _ _ rfl (setRow_heap _ _ _ _ _ _ j2) Tryz.underlying150 rfl (by rw [arrV_size, HRW.out.1]; kernel_rfl)) rfl ⟨rfl, by rw [hb0]; exact below_setRow hB3 (by omega) _⟩
set_option maxRecDepth 100000 in
set_option maxHeartbeats 1000000 in
theorem mix_false (h bs : List Int) (hh : Words 32 8 h) (v : Value) (lo : Nat) (hlo : (lo : Int) < 9223372036854775808) (last node : Bool) (w : World) (hH : Holds8 w v bs) (hz : ∀ z ∈ bs, 0 ≤ z ∧ z ≤ 255) (hl : bs.length = 64) :
  Calls Tryz.prog 100 #[.agg (arrV .u32 h), v, .agg #[.int .u64 (lo : Nat), .int .u64 0], .bool last, .bool node] w fun e w' => e = .returned (.agg (arrV .u32 (compZ false h bs (lo : Nat) last node))) ∧ Below w.heap.size w w' := by
 obtain ⟨b0, hb0⟩ : ∃ b0, w.heap.size = b0 := ⟨_, rfl⟩
 have hMw := wordsZ_words 4 16 hz (by rw [hl])
 obtain ⟨M, hM⟩ : ∃ M, wordsZ 4 16 bs = M := ⟨_, rfl⟩
 obtain ⟨R, hR⟩ : ∃ R, compZ false h bs (lo : Nat) last node = R := ⟨_, rfl⟩
 have hRw : Words 32 8 R := by rw [← hR]; exact compZ_words false hh _ _ _ _
 have hR2 : compF mixSmall IVs 10 h M ((lo : Nat) % 4294967296) ((lo : Nat) / 4294967296) last node = R := by rw [← hR, ← hM]; rfl
 rw [hR]
 rw [hM] at hMw
 have HM := Lib.hid hM
 have HR2 := Lib.hid hR2
 have HL := Lib.hid hl
 have HLO := Lib.hid hlo
 clear hM hR hR2 hl hlo
 have hbA : Below b0 w (((w.alloc (.cells (arrV .u32 h) 160)).alloc (.cells #[.int .u64 (lo : Nat), .int .u64 0] 157)).alloc (.cells #[.int .u32 0, .int .u32 0, .int .u32 0, .int .u32 0, .int .u32 0, .int .u32 0, .int .u32 0, .int .u32 0] 160)) := by rw [← hb0]; exact (((Below.refl _ _).alloc (Nat.le_refl _) _).alloc (by simp) _).alloc (by simp; omega) _
 have hsA : (((w.alloc (.cells (arrV .u32 h) 160)).alloc (.cells #[.int .u64 (lo : Nat), .int .u64 0] 157)).alloc (.cells #[.int .u32 0, .int .u32 0, .int .u32 0, .int .u32 0, .int .u32 0, .int .u32 0, .int .u32 0, .int .u32 0] 160)).heap.size = b0 + 1 + 1 + 1 := by simp [hb0]
 have h0 : (((w.alloc (.cells (arrV .u32 h) 160)).alloc (.cells #[.int .u64 (lo : Nat), .int .u64 0] 157)).alloc (.cells #[.int .u32 0, .int .u32 0, .int .u32 0, .int .u32 0, .int .u32 0, .int .u32 0, .int .u32 0, .int .u32 0] 160)).heap[b0]? = some (.cells (arrV .u32 h) 160 (0, 0)) := by
  rw [Below.heap_alloc _ _ _ (by simp [hb0]; omega), Below.heap_alloc _ _ _ (by simp [hb0]), ← hb0]; exact World.alloc_heap_new _ _
 have h1 : (((w.alloc (.cells (arrV .u32 h) 160)).alloc (.cells #[.int .u64 (lo : Nat), .int .u64 0] 157)).alloc (.cells #[.int .u32 0, .int .u32 0, .int .u32 0, .int .u32 0, .int .u32 0, .int .u32 0, .int .u32 0, .int .u32 0] 160)).heap[b0 + 1]? = some (.cells #[.int .u64 (lo : Nat), .int .u64 0] 157 (0, 0)) := by
  rw [Below.heap_alloc _ _ _ (by simp [hb0]), show b0 + 1 = (w.alloc (.cells (arrV .u32 h) 160)).heap.size by simp [hb0]]; exact World.alloc_heap_new _ _
 have h2 : (((w.alloc (.cells (arrV .u32 h) 160)).alloc (.cells #[.int .u64 (lo : Nat), .int .u64 0] 157)).alloc (.cells #[.int .u32 0, .int .u32 0, .int .u32 0, .int .u32 0, .int .u32 0, .int .u32 0, .int .u32 0, .int .u32 0] 160)).heap[b0 + 1 + 1]? = some (.cells #[.int .u32 0, .int .u32 0, .int .u32 0, .int .u32 0, .int .u32 0, .int .u32 0, .int .u32 0, .int .u32 0] 160 (0, 0)) := by
  rw [show b0 + 1 + 1 = ((w.alloc (.cells (arrV .u32 h) 160)).alloc (.cells #[.int .u64 (lo : Nat), .int .u64 0] 157)).heap.size by simp [hb0]]; exact World.alloc_heap_new _ _
 have HH := Lib.hid (hH.mono_below hbA (by omega))
 clear hH
 go_enter Tryz.func100, Tryz.ntmps100
 go_wp2_with fail
 generalize (((w.alloc (.cells (arrV .u32 h) 160)).alloc (.cells #[.int .u64 (lo : Nat), .int .u64 0] 157)).alloc (.cells #[.int .u32 0, .int .u32 0, .int .u32 0, .int .u32 0, .int .u32 0, .int .u32 0, .int .u32 0, .int .u32 0] 160)) = w0 at *
 refine (words32_ok bs v _ HH.out hz HL.out).mono ?_; rintro e w1 ⟨rfl, hb1⟩
 rw [HM.out]
 have hs1 := hb1.size
 have k0 := rowStay h0 hb1
 have k1 := rowStay h1 hb1
 have k2 := rowStay h2 hb1
 have hB1 : Below b0 w w1 := hbA.trans (hb1.mono (by omega))
 have hsz : b0 + 3 ≤ w1.heap.size := by omega
 clear h0 h1 h2 hb1 hbA HH hsA hs1
 have K0 := Lib.hid k0
 have K1 := Lib.hid k1
 have K2 := Lib.hid k2
 have HHW := Lib.hid hh
 clear k0 k1 k2 hh hz
 go_upto_region 2 with ((with_reducible show wpList _ _ _ (Oper.mk none (Op.store 174 _ _) _ _ _ _ :: _) _ _); refine wpList_store_row rfl 174 _ _ rfl w1.heap.size (arrV .u32 M) rfl rfl 174 _ (World.alloc_heap_new _ _) (by rw [arrV_size, hMw.1]; kernel_rfl) (by rw [arrV_size, hMw.1]; rfl) arrV_all ?_)
 refine letterW ?_
 intro W hW
 obtain ⟨bv, hbv⟩ : ∃ bv, w1.heap.size = bv := ⟨_, rfl⟩
 have g0 : W.heap[b0]? = some (.cells (arrV .u32 h) 160 (0, 0)) := by rw [hW]; exact (setRow_other (w1.alloc _) _ _ _ (by omega)).trans ((Below.heap_alloc _ _ _ (by omega)).trans K0.out)
 have g1 : W.heap[b0 + 1]? = some (.cells #[.int .u64 (lo : Nat), .int .u64 0] 157 (0, 0)) := by rw [hW]; exact (setRow_other (w1.alloc _) _ _ _ (by omega)).trans ((Below.heap_alloc _ _ _ (by omega)).trans K1.out)
 have g2 : W.heap[b0 + 1 + 1]? = some (.cells #[.int .u32 0, .int .u32 0, .int .u32 0, .int .u32 0, .int .u32 0, .int .u32 0, .int .u32 0, .int .u32 0] 160 (0, 0)) := by rw [hW]; exact (setRow_other (w1.alloc _) _ _ _ (by omega)).trans ((Below.heap_alloc _ _ _ (by omega)).trans K2.out)
 have g3 : W.heap[bv]? = some (.cells (arrV .u32 M) 174 (0, 0)) := by rw [hW, ← hbv]; exact setRow_heap _ _ _ _ _ _ (World.alloc_heap_new _ _)
 have hB2 : Below b0 w W := by rw [hW]; exact below_setRow (hB1.alloc (by omega) _) (by omega) _
 rw [hbv]
 clear hW hB1 hbv hsz K0 K1 K2
 have HRW := Lib.hid hRw
 have HMW := Lib.hid hMw
 clear hRw hMw
 have c10 := cell_of_heap g1 0
 go_wp2_with (first | ((with_reducible show wpList _ _ _ (Oper.mk (some 18) _ _ _ _ _ :: _) _ _); refine wpList_load_row rfl 160 _ rfl b0 rfl _ _ _ _ g0 Tryz.underlying160 rfl (by rw [arrV_size, HHW.out.1]; kernel_rfl) ?_) | ((with_reducible show wpList _ _ _ (Oper.mk (some 19) _ _ _ _ _ :: _) _ _); refine wpList_load_row rfl 174 _ rfl bv rfl _ _ _ _ g3 Tryz.underlying174 rfl (by rw [arrV_size, HMW.out.1]; kernel_rfl) ?_))
 refine (F32_any h M HHW.out HMW.out (lo : Nat) (by omega) (by have := HLO.out; omega) last node _).mono ?_; rintro e w2 ⟨rfl, hb2⟩
 rw [HR2.out]
 have j2 := rowStay g2 hb2
 have hB3 : Below b0 w w2 := hB2.trans (hb2.mono (by have := (Array.getElem?_eq_some_iff.1 g2).1; omega))
 clear g0 g1 g2 g3 hB2 hb2 c10
 go_wp2_with ((with_reducible show wpList _ _ _ (Oper.mk none (Op.store 160 _ _) _ _ _ _ :: _) _ _); refine wpList_store_row rfl 160 _ _ rfl (b0 + 1 + 1) (arrV .u32 R) rfl rfl 160 _ j2 (by rw [arrV_size, HRW.out.1]; kernel_rfl) (by rw [arrV_size, HRW.out.1]; rfl) arrV_all ?_)
 exact bodyPost_ret (results_cell_row rfl _ _ (b0 + 1 + 1) 160 _ _ _ rfl (setRow_heap _ _ _ _ _ _ j2) Tryz.underlying160 rfl (by rw [arrV_size, HRW.out.1]; kernel_rfl)) rfl ⟨rfl, by rw [hb0]; exact below_setRow hB3 (by omega) _⟩
end Go.Proofs.YtjogmckaakkomaaGreat
/- A hasher of words begins. No condition. -/
namespace Go.Proofs.YtjogmckaakkomaaGreat
open Go.ChangeShapes Go.WideShapes Go.ChangeAt Go.RowKit Go.Joins Go.Shelf Go.Maps
attribute [local go_sem] Oper.semAt_some

/-- The cells of a hasher of words: state, count, what is held, the block, its functions. -/
def engB (h : List Int) (lo : Int) (hv : Value) : Array Value := #[.int .u64 (wd h 0), .int .u64 (wd h 1), .int .u64 (wd h 2), .int .u64 (wd h 3), .int .u64 (wd h 4), .int .u64 (wd h 5), .int .u64 (wd h 6), .int .u64 (wd h 7), .int .u64 lo, .int .u64 0, hv, .int .i64 128, .func (.func 97) #[] #[], .func (.func 98) #[] #[]]
def engS (h : List Int) (lo : Int) (hv : Value) : Array Value := #[.int .u32 (wd h 0), .int .u32 (wd h 1), .int .u32 (wd h 2), .int .u32 (wd h 3), .int .u32 (wd h 4), .int .u32 (wd h 5), .int .u32 (wd h 6), .int .u32 (wd h 7), .int .u64 lo, .int .u64 0, hv, .int .i64 64, .func (.func 100) #[] #[], .func (.func 101) #[] #[]]
set_option maxRecDepth 100000 in
set_option maxHeartbeats 1000000 in
theorem begun_true (bs : List Int) (v : Value) (w : World) (hH : Holds8 w v bs) (hz : ∀ z ∈ bs, 0 ≤ z ∧ z ≤ 255) (hl : bs.length = 64) :
  Calls Tryz.prog 78 #[.int .i64 1, v] w fun e w' => ∃ p, e = .returned (.iface 153 (.pointer (some ⟨p, 0, none⟩))) ∧ w.heap.size ≤ p ∧ w'.heap[p]? = some (.cells (engB (h0Z true bs) 0 (.slice none 0 0)) 159 (0, 0)) ∧ Below w.heap.size w w' := by
 obtain ⟨H, hH0⟩ : ∃ H, h0Z true bs = H := ⟨_, rfl⟩
 have hHw : Words 64 8 H := by rw [← hH0]; exact h0Z_words true bs
 have hH1 : startL .u64 IVb 8 bs = H := by rw [← hH0]; rfl
 rw [hH0]
 have HH1 := Lib.hid hH1
 clear hH0 hH1
 have HW := Lib.hid hHw
 clear hHw
 go_enter Tryz.func78, Tryz.ntmps78
 go_wp2_with fail
 refine (start64_ok bs v _ hH hz hl).mono ?_; rintro e w1 ⟨rfl, hb1⟩
 rw [HH1.out]
 clear hH hz hl
 go_upto_region 3 with ((with_reducible show wpList _ _ _ (Oper.mk none (Op.store 150 _ _) _ _ _ _ :: _) _ _); refine wpList_store_row rfl 150 _ _ rfl w1.heap.size (arrV .u64 H) rfl rfl 150 _ (World.alloc_heap_new _ _) (by rw [arrV_size, HW.out.1]; kernel_rfl) (by rw [arrV_size, HW.out.1]; rfl) arrV_all ?_)
 refine letterW ?_
 intro W hW
 obtain ⟨bv, hbv⟩ : ∃ bv, w1.heap.size = bv := ⟨_, rfl⟩
 have hs1 := hb1.size
 have g3 : W.heap[bv]? = some (.cells (arrV .u64 H) 150 (0, 0)) := by rw [hW, ← hbv]; exact setRow_heap _ _ _ _ _ _ (World.alloc_heap_new _ _)
 have hB2 : Below w.heap.size w W := by rw [hW]; exact below_setRow (hb1.alloc hs1 _) hs1 _
 rw [hbv]
 clear hW
 rw [arrV8 HW.out] at g3
 have hs2 := hB2.size
 go_wp2_with (first | ((with_reducible show wpList _ _ _ (Oper.mk (some 16) _ _ _ _ _ :: _) _ _); refine wpList_load_row rfl 150 _ rfl bv rfl _ _ _ _ g3 Tryz.underlying150 rfl (by kernel_rfl) ?_))
 go_ret
 exact ⟨_, rfl, hs2, World.alloc_heap_new _ _, hB2.alloc hs2 _⟩
set_option maxRecDepth 100000 in
set_option maxHeartbeats 1000000 in
theorem begun_false (bs : List Int) (v : Value) (w : World) (hH : Holds8 w v bs) (hz : ∀ z ∈ bs, 0 ≤ z ∧ z ≤ 255) (hl : bs.length = 32) :
  Calls Tryz.prog 78 #[.int .i64 2, v] w fun e w' => ∃ p, e = .returned (.iface 163 (.pointer (some ⟨p, 0, none⟩))) ∧ w.heap.size ≤ p ∧ w'.heap[p]? = some (.cells (engS (h0Z false bs) 0 (.slice none 0 0)) 167 (0, 0)) ∧ Below w.heap.size w w' := by
 obtain ⟨H, hH0⟩ : ∃ H, h0Z false bs = H := ⟨_, rfl⟩
 have hHw : Words 32 8 H := by rw [← hH0]; exact h0Z_words false bs
 have hH1 : startL .u32 IVs 4 bs = H := by rw [← hH0]; rfl
 rw [hH0]
 have HH1 := Lib.hid hH1
 clear hH0 hH1
 have HW := Lib.hid hHw
 clear hHw
 go_enter Tryz.func78, Tryz.ntmps78
 go_wp2_with fail
 refine (start32_ok bs v _ hH hz hl).mono ?_; rintro e w1 ⟨rfl, hb1⟩
 rw [HH1.out]
 clear hH hz hl
 go_upto_region 5 with ((with_reducible show wpList _ _ _ (Oper.mk none (Op.store 160 _ _) _ _ _ _ :: _) _ _); refine wpList_store_row rfl 160 _ _ rfl w1.heap.size (arrV .u32 H) rfl rfl 160 _ (World.alloc_heap_new _ _) (by rw [arrV_size, HW.out.1]; kernel_rfl) (by rw [arrV_size, HW.out.1]; rfl) arrV_all ?_)
 refine letterW ?_
 intro W hW
 obtain ⟨bv, hbv⟩ : ∃ bv, w1.heap.size = bv := ⟨_, rfl⟩
 have hs1 := hb1.size
 have g3 : W.heap[bv]? = some (.cells (arrV .u32 H) 160 (0, 0)) := by rw [hW, ← hbv]; exact setRow_heap _ _ _ _ _ _ (World.alloc_heap_new _ _)
 have hB2 : Below w.heap.size w W := by rw [hW]; exact below_setRow (hb1.alloc hs1 _) hs1 _
 rw [hbv]
 clear hW
 rw [arrV8 HW.out] at g3
 have hs2 := hB2.size
 go_wp2_with (first | ((with_reducible show wpList _ _ _ (Oper.mk (some 25) _ _ _ _ _ :: _) _ _); refine wpList_load_row rfl 160 _ rfl bv rfl _ _ _ _ g3 Tryz.underlying160 rfl (by kernel_rfl) ?_))
 go_ret
 exact ⟨_, rfl, hs2, World.alloc_heap_new _ _, hB2.alloc hs2 _⟩
end Go.Proofs.YtjogmckaakkomaaGreat
