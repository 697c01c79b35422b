/- A block of parameters out of its numbers: plain lists; by the reference. No condition. -/
import Derived.Test.YtchepcilkcdemaaGreatR24
import Derived.Test.YtchepcilkcdemaaGreatR27
import Derived.Test.YtchepcilkcdemaaGreatR20
set_option linter.all false
set_option maxRecDepth 100000
set_option maxHeartbeats 8000000
namespace Go.Proofs.YtchepcilkcdemaaGreat
open Go.ChangeShapes Go.WideShapes Go.ChangeAt Go.RowKit Go.Joins Go.Shelf Go.Maps
open Go.Lib (hid)
attribute [local go_sem] Oper.semAt_some
/-- Bytes laid over others from a place on. -/
def setL (b : List Int) (p : Nat) (zs : List Int) : List Int := b.take p ++ zs ++ b.drop (p + zs.length)
theorem setL_length {b zs : List Int} {p : Nat} (h : p + zs.length ≤ b.length) : (setL b p zs).length = b.length := by
 simp [setL]; omega
theorem setL_get {b zs : List Int} {p : Nat} (h : p + zs.length ≤ b.length) (i : Nat) : nthz (setL b p zs) i = if p ≤ i ∧ i < p + zs.length then nthz zs (i - p) else nthz b i := by
 unfold setL nthz
 simp only [List.getD_eq_getElem?_getD]
 have ht : (b.take p).length = p := by simp; omega
 by_cases h1 : i < p
 ·rw [List.append_assoc, List.getElem?_append_left (by omega), List.getElem?_take, if_pos h1, if_neg (by omega)]
 ·by_cases h2 : i < p + zs.length
  ·rw [List.append_assoc, List.getElem?_append_right (by omega), ht, List.getElem?_append_left (by omega), if_pos ⟨by omega, h2⟩]
  ·rw [List.getElem?_append_right (by simp; omega), if_neg (by omega), List.getElem?_drop]
   congr 2
   simp; omega
theorem setL_nil (b : List Int) (p : Nat) : setL b p [] = b := by simp [setL]
theorem setL_snoc {b zs : List Int} {p : Nat} {z : Int} (h : p + zs.length < b.length) : setL b p (zs ++ [z]) = (setL b p zs).set (p + zs.length) z := by
 have ht : (b.take p).length = p := by simp; omega
 have hs : (b.take p ++ zs).length = p + zs.length := by simp; omega
 have hd : b.drop (p + zs.length) = b[p + zs.length] :: b.drop (p + zs.length + 1) := List.drop_eq_getElem_cons h
 unfold setL
 rw [hd, List.length_append, List.length_singleton, ← Nat.add_assoc, List.set_append_right _ _ (by omega), hs, Nat.sub_self, List.set_cons_zero]
 simp
/-- The fields that have been laid. -/
def encF (big x0 : Bool) (v : Nat → Nat) : Nat → List Int
 | 0 => List.replicate (mB big) 0
 | k + 1 => if k + 1 = 7 ∧ x0 = true then encF big x0 v k else setL (encF big x0 v k) (atB big (k + 1)) (bytesK (v (k + 1)) (szB big (k + 1)))
theorem encF_length (big x0 : Bool) (v : Nat → Nat) : ∀ k, k ≤ 9 → (encF big x0 v k).length = mB big
 | 0, _ => by simp [encF]
 | k + 1, h => by
  have ih := encF_length big x0 v k (by omega)
  have hs := szE_bounds big false (k + 1) (by omega) (by omega)
  have e : szE big false (k + 1) = szB big (k + 1) := by simp [szE]
  rw [e] at hs
  have hm : 32 ≤ mB big := by cases big <;> decide
  rw [encF]
  split
  ·exact ih
  ·rw [setL_length (by rw [bytesK_length, ih]; omega), ih]
def blkP (big : Bool) (v : Nat → Nat) (z1 z2 : List Int) : List Int := setL (setL (encF big (v 7 == 0) v 9) (2 * sB big) z1) (3 * sB big) z2
theorem blkP_length {big : Bool} {v : Nat → Nat} {z1 z2 : List Int} (h1 : z1.length ≤ sB big) (h2 : z2.length ≤ sB big) : (blkP big v z1 z2).length = mB big := by
 have e := encF_length big (v 7 == 0) v 9 (by omega)
 have hm : 4 * sB big = mB big := by cases big <;> decide
 unfold blkP
 rw [setL_length (by rw [setL_length (by omega)]; omega), setL_length (by omega), e]
/-- The numbers of parameters, as a value. -/
def parN (v : Nat → Nat) (sa pe : Value) : Value := parV (v 1 : Nat) (v 2 : Nat) (v 3 : Nat) (v 4 : Nat) (v 5 : Nat) (v 6 : Nat) (v 7 : Nat) (v 8 : Nat) (v 9 : Nat) sa pe
/-- A row of bytes at a block. -/
def RowB (w : World) (g : Nat) (b : List Int) : Prop := w.heap[g]? = some (.cells (b.map encB).toArray 5 (0, 0))
theorem RowB.cell {w : World} {g : Nat} {b : List Int} (h : RowB w g b) {i : Nat} (hi : i < b.length) : w.cell? ⟨g, i, none⟩ = some (.int .u8 (nthz b i)) := by
 rw [cell_of_heap h i]
 simp [encB, nthz, List.getD_eq_getElem?_getD, hi]
theorem RowB.set {w : World} {g : Nat} {b : List Int} (h : RowB w g b) (i : Nat) (z : Int) : RowB (w.setCell ⟨g, i, none⟩ (.int .u8 z)) g (b.set i z) := by
 have := heap_setCell_same w g i _ _ (.int .u8 z) h
 unfold RowB
 rw [this]
 simp [encB, List.map_set]
theorem refLay_ok (b : List Int) (g n c p k : Nat) (hk : k ≤ 8) (hp : p + k ≤ b.length) (hn : n = b.length) (hc : n ≤ c) (hc2 : n ≤ 65535) (x : Nat) (hx : (x : Int) ≤ 18446744073709551615) (w : World) (h : RowB w g b) :
  Calls Tryz.prog 142 #[.slice (some ⟨g, 0, none⟩) n c, .int .i64 (p : Nat), .int .i64 (k : Nat), .int .u64 (x : Nat)] w fun e w' => e = .returned (.tuple #[]) ∧ RowB w' g (setL b p (bytesK x k)) ∧ But g w w' := by
 have hgs : g < w.heap.size := (Array.getElem?_eq_some_iff.1 h).1
 have HR := hid h
 have HN := hid hn
 have hpk : (p : Int) + k ≤ n := by omega
 have hnn : (n : Int) ≤ 65535 := by omega
 clear h hn
 go_enter Tryz.func142, Tryz.ntmps142
 go_wp2_with fail
 go_loopw [8] (fun i wr => ∃ j : Nat, i = .int .i64 (j : Nat) ∧ j ≤ k ∧ RowB wr g (setL b p (bytesK x j)) ∧ But g w wr) (fun i _ => k - (intOf i).toNat)
 case atStart => exact ⟨0, rfl, Nat.zero_le _, by show RowB w g (setL b p []); rw [setL_nil]; exact HR.out, But.refl _ _⟩
 case round =>
  obtain ⟨j, rfl, hj, hrow, hb⟩ := hrel
  by_cases hlt : j < k
  ·have hl : (setL b p (bytesK x j)).length = b.length := setL_length (by rw [bytesK_length]; omega)
   have hc0 := hrow.cell (i := p + j) (by have := HN.out; omega)
   have hf0 := frozen_of_row wr g (p + j) _ _ hrow
   have hg0 : g < wr.heap.size := Nat.lt_of_lt_of_le hgs hb.size
   have q := byt_shr x j
   have hst := hrow.set (p + j) (byt x j)
   have e : (setL b p (bytesK x j)).set (p + j) (byt x j) = setL b p (bytesK x (j + 1)) := by
    have e1 := setL_snoc (b := b) (zs := bytesK x j) (p := p) (z := byt x j) (by rw [bytesK_length]; omega)
    rw [bytesK_length] at e1
    rw [← e1, bytesK_succ]
   rw [e] at hst
   have HST := hid hst
   have HB := hid hb
   generalize nthz (setL b p (bytesK x j)) (p + j) = z0 at hc0
   have hjk : (j : Int) < k ∧ (k : Int) ≤ 8 ∧ 0 ≤ (j : Int) ∧ (p : Int) + j < n := by omega
   obtain ⟨q1, q2, q3, q4⟩ := hjk
   clear hst e hl hrow hb
   go_wp2
   exact ⟨⟨j + 1, rfl, by omega, HST.out, HB.out.set _ _⟩, by simp [intOf]; omega⟩
  ·obtain rfl : j = k := by omega
   have HB := hid hb
   have HW := hid hrow
   clear hb hrow
   go_wp2
   go_end0
   exact ⟨rfl, HW.out, HB.out⟩
/-- Numbers that parameters of the plain form may have. -/
structure ParOk (big : Bool) (v : Nat → Nat) : Prop where
 p : okP big (v 1 : Nat) (v 2 : Nat) (v 3 : Nat) (v 4 : Nat) (v 6 : Nat) (v 8 : Nat) (v 9 : Nat)
 lf : v 5 < 4294967296
 ofs : v 6 < 18446744073709551616
 x0 : v 7 = 0
theorem refCheck_par {big : Bool} {v : Nat → Nat} (hP : ParOk big v) (a1 a2 : Option Addr) {l1 l2 : Nat} (c1 c2 : Nat) (hl1 : l1 ≤ sB big) (hl2 : l2 ≤ sB big) (w : World) :
  Calls Tryz.prog 139 #[.int .i64 (kB big), parN v (.slice a1 l1 c1) (.slice a2 l2 c2)] w fun e w' => e = .returned (.int .i64 0) ∧ Below w.heap.size w w' := by
 unfold parN
 rw [hP.x0]
 exact refCheck_ok big _ _ _ _ _ _ _ _ a1 a2 l1 l2 c1 c2 w hP.p hl1 hl2
def rowV (v : Nat → Nat) : Array Value := #[.int .u64 (v 1 : Nat), .int .u64 (v 2 : Nat), .int .u64 (v 3 : Nat), .int .u64 (v 4 : Nat), .int .u64 (v 5 : Nat), .int .u64 (v 6 : Nat), .int .u64 (v 7 : Nat), .int .u64 (v 8 : Nat), .int .u64 (v 9 : Nat)]
theorem rowV_at (v : Nat → Nat) {k : Nat} (hk : k < 9) : (rowV v)[k]? = some (.int .u64 (v (k + 1) : Nat)) := by
 rcases (show k = 0 ∨ k = 1 ∨ k = 2 ∨ k = 3 ∨ k = 4 ∨ k = 5 ∨ k = 6 ∨ k = 7 ∨ k = 8 by omega) with rfl | rfl | rfl | rfl | rfl | rfl | rfl | rfl | rfl <;> rfl
theorem ParOk.le {big : Bool} {v : Nat → Nat} (h : ParOk big v) : ∀ f, 1 ≤ f → f ≤ 9 → ((v f : Nat) : Int) ≤ 18446744073709551615 := by
 obtain ⟨⟨h1, h2, h3, h4, -, h5, h6⟩, h7, h8, h9⟩ := h
 have hm : mB big ≤ 64 := by cases big <;> decide
 intro f f1 f2
 rcases (show f = 1 ∨ f = 2 ∨ f = 3 ∨ f = 4 ∨ f = 5 ∨ f = 6 ∨ f = 7 ∨ f = 8 ∨ f = 9 by omega) with rfl | rfl | rfl | rfl | rfl | rfl | rfl | rfl | rfl <;> omega
theorem hold_nth {w w' : World} {a : Option Addr} {n c : Nat} {zs : List Int} (h : Hold w (.slice a n c) zs) (hb : Below w.heap.size w w') {j : Nat} (hj : j < zs.length) : ∃ b off, a = some ⟨b, off, none⟩ ∧ b < w'.heap.size ∧ w'.cell? ⟨b, off + j, none⟩ = some (.int .u8 (nthz zs j)) ∧ 0 ≤ nthz zs j ∧ nthz zs j ≤ 255 := by
 have hne : zs ≠ [] := fun e => by rw [e] at hj; simp at hj
 rcases h.2 with ⟨h2, -⟩ | ⟨ad, cap, e, -, -, h3⟩
 ·exact absurd h2 hne
 ·obtain ⟨b, off, rfl, h4, h5⟩ := h3.resolve_left hne
  simp only [Value.slice.injEq] at e
  exact ⟨b, off, e.1, Nat.lt_of_lt_of_le h4 hb.size, (hb.cell (p := ⟨b, off + j, none⟩) h4).trans (h5 j hj), (mem_nthz h.1 hj).2⟩
theorem setL_take {b zs : List Int} {p j : Nat} (hj : j < zs.length) (h : p + zs.length ≤ b.length) : (setL b p (zs.take j)).set (p + j) (nthz zs j) = setL b p (zs.take (j + 1)) := by
 have e : (zs.take j).length = j := by simp; omega
 rw [take_snoc hj, setL_snoc (by omega), e]
theorem refEncode_true (v : Nat → Nat) (z1 z2 : List Int) (sa pe : Value) (w : World) (hP : ParOk true v) (h1 : Hold w sa z1) (h2 : Hold w pe z2) (hl1 : z1.length ≤ 16) (hl2 : z2.length ≤ 16) :
  Calls Tryz.prog 119 #[.int .i64 1, parN v sa pe] w fun e w' => (∃ r, e = .returned (.tuple #[r, .int .i64 0]) ∧ w'.ownsRow w.heap.size 5 1 r 64 ((blkP true v z1 z2).map encB)) ∧ Below w.heap.size w w' := by
 obtain ⟨a1, c1, rfl, hx1, hx2⟩ := h1.slice
 obtain ⟨a2, c2, rfl, hx3, hx4⟩ := h2.slice
 obtain ⟨i0, hi, hz0, hz1, hz2⟩ := info_parts info_u8
 obtain ⟨b0, hb0⟩ : ∃ b0, w.heap.size = b0 := ⟨_, rfl⟩
 have HCK := hid (refCheck_par hP a1 a2 c1 c2 hl1 hl2)
 have HX0 := hid hP.x0
 have HLE := hid hP.le
 have hv5 : ((v 5 : Nat) : Int) < 4294967296 := by have := hP.lf; omega
 have hv7 : ((v 7 : Nat) : Int) < 4294967296 := by have := hP.x0; omega
 have hvw : ∀ f, 1 ≤ f → f ≤ 9 → IntKind.u64.wrap ((v f : Nat) : Int) = ((v f : Nat) : Int) := fun f f1 f2 => u64_wrap_id _ (by omega) (by have := HLE.out f f1 f2; omega)
 have ww1 := hvw 1 (by omega) (by omega)
 have ww2 := hvw 2 (by omega) (by omega)
 have ww3 := hvw 3 (by omega) (by omega)
 have ww4 := hvw 4 (by omega) (by omega)
 have ww5 := hvw 5 (by omega) (by omega)
 have ww7 := hvw 7 (by omega) (by omega)
 have ww8 := hvw 8 (by omega) (by omega)
 have ww9 := hvw 9 (by omega) (by omega)
 have hbA : Below b0 w (w.alloc (.cells #[.int .i64 (v 1 : Nat), .int .i64 (v 2 : Nat), .int .i64 (v 3 : Nat), .int .i64 (v 4 : Nat), .int .u32 (v 5 : Nat), .int .u64 (v 6 : Nat), .int .u32 (v 7 : Nat), .int .i64 (v 8 : Nat), .int .i64 (v 9 : Nat), .slice a1 z1.length c1, .slice a2 z2.length c2] 149)) := by rw [← hb0]; exact (Below.refl _ _).alloc (Nat.le_refl _) _
 have hrA := World.alloc_heap_new w (.cells #[.int .i64 (v 1 : Nat), .int .i64 (v 2 : Nat), .int .i64 (v 3 : Nat), .int .i64 (v 4 : Nat), .int .u32 (v 5 : Nat), .int .u64 (v 6 : Nat), .int .u32 (v 7 : Nat), .int .i64 (v 8 : Nat), .int .i64 (v 9 : Nat), .slice a1 z1.length c1, .slice a2 z2.length c2] 149)
 rw [hb0] at hrA
 have HH1 := hid h1
 have HH2 := hid h2
 have HHP := hid hP
 clear hP h1 h2 hvw hx1 hx2 hx3 hx4
 unfold parN parV
 unfold parN parV at HCK
 go_enter Tryz.func119, Tryz.ntmps119
 go_upto_region 1 with (fail)
 generalize w.alloc (.cells #[.int .i64 (v 1 : Nat), .int .i64 (v 2 : Nat), .int .i64 (v 3 : Nat), .int .i64 (v 4 : Nat), .int .u32 (v 5 : Nat), .int .u64 (v 6 : Nat), .int .u32 (v 7 : Nat), .int .i64 (v 8 : Nat), .int .i64 (v 9 : Nat), .slice a1 z1.length c1, .slice a2 z2.length c2] 149) = wA at *
 go_wp2_with ((with_reducible show wpList _ _ _ (Oper.mk _ (Op.load 149 _) _ _ _ _ :: _) _ _); refine wpList_load_row rfl 149 _ rfl b0 rfl _ _ _ _ hrA Tryz.underlying149 rfl (by kernel_rfl) ?_)
 refine (HCK.out wA).mono ?_; rintro e w1 ⟨rfl, hb1⟩
 have hr1 := rowStay hrA hb1
 have hs1 := hb1.size
 have hb0A : b0 < wA.heap.size := (Array.getElem?_eq_some_iff.1 hrA).1
 have hb01 : b0 < w1.heap.size := by omega
 have hbB : Below b0 w w1 := hbA.trans (hb1.mono (by omega))
 have d0 : w1.cell? ⟨b0, 0, none⟩ = some (.int .i64 (v 1 : Nat)) := cell_of_heap hr1 0
 have d1 : w1.cell? ⟨b0, 1, none⟩ = some (.int .i64 (v 2 : Nat)) := cell_of_heap hr1 1
 have d2 : w1.cell? ⟨b0, 2, none⟩ = some (.int .i64 (v 3 : Nat)) := cell_of_heap hr1 2
 have d3 : w1.cell? ⟨b0, 3, none⟩ = some (.int .i64 (v 4 : Nat)) := cell_of_heap hr1 3
 have d4 : w1.cell? ⟨b0, 4, none⟩ = some (.int .u32 (v 5 : Nat)) := cell_of_heap hr1 4
 have d5 : w1.cell? ⟨b0, 5, none⟩ = some (.int .u64 (v 6 : Nat)) := cell_of_heap hr1 5
 have d6 : w1.cell? ⟨b0, 6, none⟩ = some (.int .u32 (v 7 : Nat)) := cell_of_heap hr1 6
 have d7 : w1.cell? ⟨b0, 7, none⟩ = some (.int .i64 (v 8 : Nat)) := cell_of_heap hr1 7
 have d8 : w1.cell? ⟨b0, 8, none⟩ = some (.int .i64 (v 9 : Nat)) := cell_of_heap hr1 8
 have HR1 := hid hr1
 have HBB := hid hbB
 clear hb1 hbA hrA hr1 hbB hs1 hb0A
 go_wp2_with fail
 refine (refSize_ok true _).mono ?_; rintro e w2 ⟨rfl, hw⟩
 rw [hw]; clear hw
 rw [show ((mB true : Nat) : Int) = 64 from rfl]
 have hmk := fun W : World => run_make (P := Tryz.prog) W 24 5 i0 (.int .u8 0) Tryz.underlying24 hi hz0 .i64 .i64 64 64 (by omega) (by omega) (by rw [hz2]; omega) (by omega)
 simp only [hz1] at hmk
 go_wp2_with fail
 obtain ⟨g, hg⟩ : ∃ g, w1.heap.size = g := ⟨_, rfl⟩
 have hmc : madeCells #[.int .u8 0] 64 = ((List.replicate 64 (0 : Int)).map encB).toArray := by
  apply Array.toList_inj.1
  rw [toList_madeCells_one]; simp [encB]
 have hw5 : ((w1.alloc (.cells (madeCells #[.int .u8 0] 64) 5)).alloc (.cells (rowV v) 44)).heap.size = g + 2 := by simp [hg]
 have hg5 : RowB ((w1.alloc (.cells (madeCells #[.int .u8 0] 64) 5)).alloc (.cells (rowV v) 44)) g (encF true (v 7 == 0) v 0) := by
  unfold RowB; rw [Below.heap_alloc _ _ _ (by simp [hg]), hmc, ← hg]; exact World.alloc_heap_new _ _
 have hv5' : ((w1.alloc (.cells (madeCells #[.int .u8 0] 64) 5)).alloc (.cells (rowV v) 44)).heap[g + 1]? = some (.cells (rowV v) 44 (0, 0)) := by
  rw [show g + 1 = (w1.alloc (.cells (madeCells #[.int .u8 0] 64) 5)).heap.size by simp [hg]]; exact World.alloc_heap_new _ _
 have hr5 : ((w1.alloc (.cells (madeCells #[.int .u8 0] 64) 5)).alloc (.cells (rowV v) 44)).heap[b0]? = some (.cells #[.int .i64 (v 1 : Nat), .int .i64 (v 2 : Nat), .int .i64 (v 3 : Nat), .int .i64 (v 4 : Nat), .int .u32 (v 5 : Nat), .int .u64 (v 6 : Nat), .int .u32 (v 7 : Nat), .int .i64 (v 8 : Nat), .int .i64 (v 9 : Nat), .slice a1 z1.length c1, .slice a2 z2.length c2] 149 (0, 0)) := by
  rw [Below.heap_alloc _ _ _ (by simp; omega), Below.heap_alloc _ _ _ (by omega)]; exact HR1.out
 have hb5 : Below b0 w ((w1.alloc (.cells (madeCells #[.int .u8 0] 64) 5)).alloc (.cells (rowV v) 44)) := (HBB.out.alloc (by omega) _).alloc (by simp; omega) _
 change Code.wp _ _ _ _ ((w1.alloc (.cells (madeCells #[.int .u8 0] 64) 5)).alloc (.cells (rowV v) 44))
 rw [hg]
 have hgb : b0 < g := by omega
 generalize ((w1.alloc (.cells (madeCells #[.int .u8 0] 64) 5)).alloc (.cells (rowV v) 44)) = W5 at *
 have HG5 := hid hg5
 have HV5R := hid hv5'
 have HR5 := hid hr5
 have HB5 := hid hb5
 clear hg5 hv5' hr5 hb5 hmc hmk HR1 HBB hg d0 d1 d2 d3 d4 d5 d6 d7 d8 ww1 ww2 ww3 ww4 ww5 ww7 ww8 ww9
 go_loopw [9] (fun f wr => ∃ n k : Nat, f = .int .i64 (n : Nat) ∧ n = k + 1 ∧ k ≤ 9 ∧ RowB wr g (encF true (v 7 == 0) v k) ∧ But g W5 wr) (fun f _ => 10 - (intOf f).toNat)
 case atStart => exact ⟨1, 0, rfl, rfl, by omega, HG5.out, But.refl _ _⟩
 case round =>
  obtain ⟨n, k, rfl, hnk, hk, hrow, hb⟩ := hrel
  have HNK := hid hnk
  have HROW := hid hrow
  have HB := hid hb
  have hgs : g + 1 < wr.heap.size := by have := hb.size; omega
  have c6 : wr.cell? ⟨b0, 6, none⟩ = some (.int .u32 (v 7 : Nat)) := cell_of_heap ((hb.block b0 (by omega) (by omega)).trans HR5.out) 6
  have hb0s : b0 < wr.heap.size := by omega
  have hlen := encF_length true (v 7 == 0) v k hk
  by_cases hlt : k < 9
  case pos =>
   have hn9 : (n : Int) ≤ 9 := by omega
   have hn1 : 1 ≤ (n : Int) := by omega
   have hfk : (n : Int) - 1 = (k : Nat) := by omega
   have cv : wr.cell? ⟨g + 1, k, none⟩ = some (.int .u64 (v (k + 1) : Nat)) := (cell_of_heap ((hb.block (g + 1) (by omega) (by omega)).trans HV5R.out) k).trans (rowV_at v hlt)
   rw [← hnk] at cv
   have hk9 : (k : Int) < 9 := by omega
   have HPL := hid (fplace_ok true n ⟨by omega, by omega⟩)
   have hsz := szE_bounds true false n (by omega) (by omega)
   rw [show szE true false n = szB true n by simp [szE]] at hsz
   have HL := hid (refLay_ok (encF true (v 7 == 0) v k) g 64 64 (atB true n) (szB true n) (by omega) (by rw [hlen]; show _ ≤ 64; have := hsz.2.2.2; omega) (by rw [hlen]; rfl) (Nat.le_refl _) (by decide) (v n) (HLE.out n (by omega) (by omega)) wr hrow)
   have hstep : ¬ (k + 1 = 7 ∧ (v 7 == 0) = true) → encF true (v 7 == 0) v (k + 1) = setL (encF true (v 7 == 0) v k) (atB true n) (bytesK (v n) (szB true n)) := fun h => by rw [encF, if_neg h, hnk]
   have HST := hid hstep
   clear hstep hrow hb hnk hsz hlen
   by_cases h7 : k = 6
   case pos =>
    obtain rfl : n = 7 := by have := HNK.out; omega
    subst h7
    clear hfk hk9
    have hq : ((v 7 : Int) == 0) = true := by rw [HX0.out]; rfl
    go_wp2
    refine ⟨⟨8, 7, rfl, rfl, by omega, ?_, HB.out⟩, by simp [intOf]⟩
    have e : encF true (v 7 == 0) v 7 = encF true (v 7 == 0) v 6 := by rw [encF, if_pos ⟨rfl, by rw [HX0.out]; rfl⟩]
    rw [e]; exact HROW.out
   have h8 : ¬ ((n : Int) = 7) := by have := HNK.out; omega
   have h9 : ¬ (n = 7) := by have := HNK.out; omega
   go_wp2_with fail
   refine (HPL.out _).mono ?_; rintro r w4 ⟨rfl, hw⟩
   rw [hw]; clear hw
   go_wp2_with fail
   refine HL.out.mono ?_; rintro r w4 ⟨rfl, hl1, hl2⟩
   have HL1 := hid hl1
   have HL2 := hid hl2
   clear hl1 hl2 c6 cv
   go_wp2
   refine ⟨⟨n + 1, k + 1, rfl, by rw [HNK.out], by omega, by rw [HST.out (fun h => h7 (by omega))]; exact HL1.out, HB.out.trans HL2.out⟩, by simp [intOf]; omega⟩
  obtain rfl : k = 9 := by omega
  obtain rfl : n = 10 := by have := HNK.out; omega
  clear hlen hrow hb hnk
  clear c6 HNK hlt
  have hEl := encF_length true (v 7 == 0) v 9 (by omega)
  have HBL := hid (show blkP true v z1 z2 = setL (setL (encF true (v 7 == 0) v 9) 32 z1) 48 z2 from rfl)
  generalize encF true (v 7 == 0) v 9 = E at *
  have hEl' : E.length = 64 := hEl
  have HEL := hid hEl'
  have HL1 := hid hl1
  have HL2 := hid hl2
  clear hEl hEl' hk hv5 hv7
  go_wp2_with fail
  refine (refMost_ok true _).mono ?_; rintro r w4 ⟨rfl, hw⟩
  rw [hw]; clear hw
  rw [show ((mB true : Nat) : Int) = 64 from rfl]
  go_wp2_with fail
  have HPL0 := HEL
  go_loopw [13] (fun i wr => ∃ j : Nat, i = .int .i64 (j : Nat) ∧ j ≤ z1.length ∧ RowB wr g (setL E 32 (z1.take j)) ∧ But g W5 wr) (fun i _ => z1.length - (intOf i).toNat)
  case atStart => exact ⟨0, rfl, Nat.zero_le _, by rw [List.take_zero, setL_nil]; exact HROW.out, HB.out⟩
  case round =>
   clear HB HROW hgs hb0s
   obtain ⟨j, rfl, hj, hrow, hb⟩ := hrel
   have HROW := hid hrow
   have HB := hid hb
   have hgs : g + 1 < wr.heap.size := by have := hb.size; omega
   have hb0s : b0 < wr.heap.size := by omega
   have hgs0 : g < wr.heap.size := by omega
   have cz : wr.cell? ⟨b0, 9, none⟩ = some (.slice a1 z1.length c1) := cell_of_heap ((hb.block b0 (by omega) (by omega)).trans HR5.out) 9
   by_cases hlt : j < z1.length
   case pos =>
    obtain ⟨bb, of', rfl, q1, q2, q3, q4⟩ := hold_nth HH1.out (hb0 ▸ HB5.out.trans (hb.below (by omega) (by omega))) hlt
    have hst := hrow.set (32 + j) (nthz z1 j)
    rw [setL_take hlt (by have := HEL.out; have := HL1.out; omega)] at hst
    have HST := hid hst
    have hlen : (setL E 32 (z1.take j)).length = 64 := by rw [setL_length (by rw [List.length_take]; have := HPL0.out; have := HL1.out; have := HL2.out; omega)]; exact HPL0.out
    have co := hrow.cell (i := 32 + j) (by rw [hlen]; have := HL1.out; have := HL2.out; omega)
    have fo := frozen_of_row wr g (32 + j) _ _ hrow
    generalize nthz (setL E 32 (z1.take j)) (32 + j) = zo at co
    generalize nthz z1 j = zj at *
    have hjs : (j : Int) < 16 := by have := HL1.out; have := HL2.out; omega
    clear hst hlen hrow hb
    go_wp2
    exact ⟨⟨j + 1, rfl, by omega, HST.out, HB.out.set _ _⟩, by simp [intOf]; omega⟩
   obtain rfl : j = z1.length := by omega
   rw [List.take_length] at HROW
   clear hrow hb
   clear hj hlt HPL0
   have HPL0 := hid (show (setL E 32 z1).length = 64 from by rw [setL_length (by have := HEL.out; have := HL1.out; omega)]; exact HEL.out)
   go_wp2_with fail
   clear cz hgs0
   go_loopw [14] (fun i wr => ∃ j : Nat, i = .int .i64 (j : Nat) ∧ j ≤ z2.length ∧ RowB wr g (setL (setL E 32 z1) 48 (z2.take j)) ∧ But g W5 wr) (fun i _ => z2.length - (intOf i).toNat)
   case atStart => exact ⟨0, rfl, Nat.zero_le _, by rw [List.take_zero, setL_nil]; exact HROW.out, HB.out⟩
   case round =>
    clear HB HROW hgs hb0s
    obtain ⟨j, rfl, hj, hrow, hb⟩ := hrel
    have HROW := hid hrow
    have HB := hid hb
    have hgs : g + 1 < wr.heap.size := by have := hb.size; omega
    have hb0s : b0 < wr.heap.size := by omega
    have hgs0 : g < wr.heap.size := by omega
    have cz : wr.cell? ⟨b0, 10, none⟩ = some (.slice a2 z2.length c2) := cell_of_heap ((hb.block b0 (by omega) (by omega)).trans HR5.out) 10
    by_cases hlt : j < z2.length
    case pos =>
     obtain ⟨bb, of', rfl, q1, q2, q3, q4⟩ := hold_nth HH2.out (hb0 ▸ HB5.out.trans (hb.below (by omega) (by omega))) hlt
     have hst := hrow.set (48 + j) (nthz z2 j)
     rw [setL_take hlt (by have := HPL0.out; have := HL2.out; omega)] at hst
     have HST := hid hst
     have hlen : (setL (setL E 32 z1) 48 (z2.take j)).length = 64 := by rw [setL_length (by rw [List.length_take]; have := HPL0.out; have := HL1.out; have := HL2.out; omega)]; exact HPL0.out
     have co := hrow.cell (i := 48 + j) (by rw [hlen]; have := HL1.out; have := HL2.out; omega)
     have fo := frozen_of_row wr g (48 + j) _ _ hrow
     generalize nthz (setL (setL E 32 z1) 48 (z2.take j)) (48 + j) = zo at co
     generalize nthz z2 j = zj at *
     have hjs : (j : Int) < 16 := by have := HL1.out; have := HL2.out; omega
     clear hst hlen hrow hb
     go_wp2
     exact ⟨⟨j + 1, rfl, by omega, HST.out, HB.out.set _ _⟩, by simp [intOf]; omega⟩
    obtain rfl : j = z2.length := by omega
    rw [List.take_length] at HROW
    clear hrow hb
    clear hj hlt
    go_wp2
    go_ret2
    refine ⟨⟨_, rfl, ?_⟩, by rw [hb0]; exact HB5.out.trans (HB.out.below (by omega) (by omega))⟩
    have hbl := blkP_length (big := true) (v := v) HL1.out HL2.out
    refine ⟨by rw [List.length_map, hbl]; rfl, .inr ⟨g, 64, _, rfl, by omega, HROW.out, Nat.le_refl _, by unfold maxLen; omega, ?_, ?_⟩⟩
    ·rw [List.size_toArray, List.length_map, ← HBL.out, hbl]; rfl
    ·rw [← HBL.out]; exact List.take_of_length_le (by rw [List.length_map, hbl]; decide)
theorem refEncode_false (v : Nat → Nat) (z1 z2 : List Int) (sa pe : Value) (w : World) (hP : ParOk false v) (h1 : Hold w sa z1) (h2 : Hold w pe z2) (hl1 : z1.length ≤ 8) (hl2 : z2.length ≤ 8) :
  Calls Tryz.prog 119 #[.int .i64 2, parN v sa pe] w fun e w' => (∃ r, e = .returned (.tuple #[r, .int .i64 0]) ∧ w'.ownsRow w.heap.size 5 1 r 32 ((blkP false v z1 z2).map encB)) ∧ Below w.heap.size w w' := by
 obtain ⟨a1, c1, rfl, hx1, hx2⟩ := h1.slice
 obtain ⟨a2, c2, rfl, hx3, hx4⟩ := h2.slice
 obtain ⟨i0, hi, hz0, hz1, hz2⟩ := info_parts info_u8
 obtain ⟨b0, hb0⟩ : ∃ b0, w.heap.size = b0 := ⟨_, rfl⟩
 have HCK := hid (refCheck_par hP a1 a2 c1 c2 hl1 hl2)
 have HX0 := hid hP.x0
 have HLE := hid hP.le
 have hv5 : ((v 5 : Nat) : Int) < 4294967296 := by have := hP.lf; omega
 have hv7 : ((v 7 : Nat) : Int) < 4294967296 := by have := hP.x0; omega
 have hvw : ∀ f, 1 ≤ f → f ≤ 9 → IntKind.u64.wrap ((v f : Nat) : Int) = ((v f : Nat) : Int) := fun f f1 f2 => u64_wrap_id _ (by omega) (by have := HLE.out f f1 f2; omega)
 have ww1 := hvw 1 (by omega) (by omega)
 have ww2 := hvw 2 (by omega) (by omega)
 have ww3 := hvw 3 (by omega) (by omega)
 have ww4 := hvw 4 (by omega) (by omega)
 have ww5 := hvw 5 (by omega) (by omega)
 have ww7 := hvw 7 (by omega) (by omega)
 have ww8 := hvw 8 (by omega) (by omega)
 have ww9 := hvw 9 (by omega) (by omega)
 have hbA : Below b0 w (w.alloc (.cells #[.int .i64 (v 1 : Nat), .int .i64 (v 2 : Nat), .int .i64 (v 3 : Nat), .int .i64 (v 4 : Nat), .int .u32 (v 5 : Nat), .int .u64 (v 6 : Nat), .int .u32 (v 7 : Nat), .int .i64 (v 8 : Nat), .int .i64 (v 9 : Nat), .slice a1 z1.length c1, .slice a2 z2.length c2] 149)) := by rw [← hb0]; exact (Below.refl _ _).alloc (Nat.le_refl _) _
 have hrA := World.alloc_heap_new w (.cells #[.int .i64 (v 1 : Nat), .int .i64 (v 2 : Nat), .int .i64 (v 3 : Nat), .int .i64 (v 4 : Nat), .int .u32 (v 5 : Nat), .int .u64 (v 6 : Nat), .int .u32 (v 7 : Nat), .int .i64 (v 8 : Nat), .int .i64 (v 9 : Nat), .slice a1 z1.length c1, .slice a2 z2.length c2] 149)
 rw [hb0] at hrA
 have HH1 := hid h1
 have HH2 := hid h2
 have HHP := hid hP
 clear hP h1 h2 hvw hx1 hx2 hx3 hx4
 unfold parN parV
 unfold parN parV at HCK
 go_enter Tryz.func119, Tryz.ntmps119
 go_upto_region 1 with (fail)
 generalize w.alloc (.cells #[.int .i64 (v 1 : Nat), .int .i64 (v 2 : Nat), .int .i64 (v 3 : Nat), .int .i64 (v 4 : Nat), .int .u32 (v 5 : Nat), .int .u64 (v 6 : Nat), .int .u32 (v 7 : Nat), .int .i64 (v 8 : Nat), .int .i64 (v 9 : Nat), .slice a1 z1.length c1, .slice a2 z2.length c2] 149) = wA at *
 go_wp2_with ((with_reducible show wpList _ _ _ (Oper.mk _ (Op.load 149 _) _ _ _ _ :: _) _ _); refine wpList_load_row rfl 149 _ rfl b0 rfl _ _ _ _ hrA Tryz.underlying149 rfl (by kernel_rfl) ?_)
 refine (HCK.out wA).mono ?_; rintro e w1 ⟨rfl, hb1⟩
 have hr1 := rowStay hrA hb1
 have hs1 := hb1.size
 have hb0A : b0 < wA.heap.size := (Array.getElem?_eq_some_iff.1 hrA).1
 have hb01 : b0 < w1.heap.size := by omega
 have hbB : Below b0 w w1 := hbA.trans (hb1.mono (by omega))
 have d0 : w1.cell? ⟨b0, 0, none⟩ = some (.int .i64 (v 1 : Nat)) := cell_of_heap hr1 0
 have d1 : w1.cell? ⟨b0, 1, none⟩ = some (.int .i64 (v 2 : Nat)) := cell_of_heap hr1 1
 have d2 : w1.cell? ⟨b0, 2, none⟩ = some (.int .i64 (v 3 : Nat)) := cell_of_heap hr1 2
 have d3 : w1.cell? ⟨b0, 3, none⟩ = some (.int .i64 (v 4 : Nat)) := cell_of_heap hr1 3
 have d4 : w1.cell? ⟨b0, 4, none⟩ = some (.int .u32 (v 5 : Nat)) := cell_of_heap hr1 4
 have d5 : w1.cell? ⟨b0, 5, none⟩ = some (.int .u64 (v 6 : Nat)) := cell_of_heap hr1 5
 have d6 : w1.cell? ⟨b0, 6, none⟩ = some (.int .u32 (v 7 : Nat)) := cell_of_heap hr1 6
 have d7 : w1.cell? ⟨b0, 7, none⟩ = some (.int .i64 (v 8 : Nat)) := cell_of_heap hr1 7
 have d8 : w1.cell? ⟨b0, 8, none⟩ = some (.int .i64 (v 9 : Nat)) := cell_of_heap hr1 8
 have HR1 := hid hr1
 have HBB := hid hbB
 clear hb1 hbA hrA hr1 hbB hs1 hb0A
 go_wp2_with fail
 refine (refSize_ok false _).mono ?_; rintro e w2 ⟨rfl, hw⟩
 rw [hw]; clear hw
 rw [show ((mB false : Nat) : Int) = 32 from rfl]
 have hmk := fun W : World => run_make (P := Tryz.prog) W 24 5 i0 (.int .u8 0) Tryz.underlying24 hi hz0 .i64 .i64 32 32 (by omega) (by omega) (by rw [hz2]; omega) (by omega)
 simp only [hz1] at hmk
 go_wp2_with fail
 obtain ⟨g, hg⟩ : ∃ g, w1.heap.size = g := ⟨_, rfl⟩
 have hmc : madeCells #[.int .u8 0] 32 = ((List.replicate 32 (0 : Int)).map encB).toArray := by
  apply Array.toList_inj.1
  rw [toList_madeCells_one]; simp [encB]
 have hw5 : ((w1.alloc (.cells (madeCells #[.int .u8 0] 32) 5)).alloc (.cells (rowV v) 44)).heap.size = g + 2 := by simp [hg]
 have hg5 : RowB ((w1.alloc (.cells (madeCells #[.int .u8 0] 32) 5)).alloc (.cells (rowV v) 44)) g (encF false (v 7 == 0) v 0) := by
  unfold RowB; rw [Below.heap_alloc _ _ _ (by simp [hg]), hmc, ← hg]; exact World.alloc_heap_new _ _
 have hv5' : ((w1.alloc (.cells (madeCells #[.int .u8 0] 32) 5)).alloc (.cells (rowV v) 44)).heap[g + 1]? = some (.cells (rowV v) 44 (0, 0)) := by
  rw [show g + 1 = (w1.alloc (.cells (madeCells #[.int .u8 0] 32) 5)).heap.size by simp [hg]]; exact World.alloc_heap_new _ _
 have hr5 : ((w1.alloc (.cells (madeCells #[.int .u8 0] 32) 5)).alloc (.cells (rowV v) 44)).heap[b0]? = some (.cells #[.int .i64 (v 1 : Nat), .int .i64 (v 2 : Nat), .int .i64 (v 3 : Nat), .int .i64 (v 4 : Nat), .int .u32 (v 5 : Nat), .int .u64 (v 6 : Nat), .int .u32 (v 7 : Nat), .int .i64 (v 8 : Nat), .int .i64 (v 9 : Nat), .slice a1 z1.length c1, .slice a2 z2.length c2] 149 (0, 0)) := by
  rw [Below.heap_alloc _ _ _ (by simp; omega), Below.heap_alloc _ _ _ (by omega)]; exact HR1.out
 have hb5 : Below b0 w ((w1.alloc (.cells (madeCells #[.int .u8 0] 32) 5)).alloc (.cells (rowV v) 44)) := (HBB.out.alloc (by omega) _).alloc (by simp; omega) _
 change Code.wp _ _ _ _ ((w1.alloc (.cells (madeCells #[.int .u8 0] 32) 5)).alloc (.cells (rowV v) 44))
 rw [hg]
 have hgb : b0 < g := by omega
 generalize ((w1.alloc (.cells (madeCells #[.int .u8 0] 32) 5)).alloc (.cells (rowV v) 44)) = W5 at *
 have HG5 := hid hg5
 have HV5R := hid hv5'
 have HR5 := hid hr5
 have HB5 := hid hb5
 clear hg5 hv5' hr5 hb5 hmc hmk HR1 HBB hg d0 d1 d2 d3 d4 d5 d6 d7 d8 ww1 ww2 ww3 ww4 ww5 ww7 ww8 ww9
 go_loopw [9] (fun f wr => ∃ n k : Nat, f = .int .i64 (n : Nat) ∧ n = k + 1 ∧ k ≤ 9 ∧ RowB wr g (encF false (v 7 == 0) v k) ∧ But g W5 wr) (fun f _ => 10 - (intOf f).toNat)
 case atStart => exact ⟨1, 0, rfl, rfl, by omega, HG5.out, But.refl _ _⟩
 case round =>
  obtain ⟨n, k, rfl, hnk, hk, hrow, hb⟩ := hrel
  have HNK := hid hnk
  have HROW := hid hrow
  have HB := hid hb
  have hgs : g + 1 < wr.heap.size := by have := hb.size; omega
  have c6 : wr.cell? ⟨b0, 6, none⟩ = some (.int .u32 (v 7 : Nat)) := cell_of_heap ((hb.block b0 (by omega) (by omega)).trans HR5.out) 6
  have hb0s : b0 < wr.heap.size := by omega
  have hlen := encF_length false (v 7 == 0) v k hk
  by_cases hlt : k < 9
  case pos =>
   have hn9 : (n : Int) ≤ 9 := by omega
   have hn1 : 1 ≤ (n : Int) := by omega
   have hfk : (n : Int) - 1 = (k : Nat) := by omega
   have cv : wr.cell? ⟨g + 1, k, none⟩ = some (.int .u64 (v (k + 1) : Nat)) := (cell_of_heap ((hb.block (g + 1) (by omega) (by omega)).trans HV5R.out) k).trans (rowV_at v hlt)
   rw [← hnk] at cv
   have hk9 : (k : Int) < 9 := by omega
   have HPL := hid (fplace_ok false n ⟨by omega, by omega⟩)
   have hsz := szE_bounds false false n (by omega) (by omega)
   rw [show szE false false n = szB false n by simp [szE]] at hsz
   have HL := hid (refLay_ok (encF false (v 7 == 0) v k) g 32 32 (atB false n) (szB false n) (by omega) (by rw [hlen]; show _ ≤ 32; have := hsz.2.2.2; have := this rfl; omega) (by rw [hlen]; rfl) (Nat.le_refl _) (by decide) (v n) (HLE.out n (by omega) (by omega)) wr hrow)
   have hstep : ¬ (k + 1 = 7 ∧ (v 7 == 0) = true) → encF false (v 7 == 0) v (k + 1) = setL (encF false (v 7 == 0) v k) (atB false n) (bytesK (v n) (szB false n)) := fun h => by rw [encF, if_neg h, hnk]
   have HST := hid hstep
   clear hstep hrow hb hnk hsz hlen
   by_cases h7 : k = 6
   case pos =>
    obtain rfl : n = 7 := by have := HNK.out; omega
    subst h7
    clear hfk hk9
    have hq : ((v 7 : Int) == 0) = true := by rw [HX0.out]; rfl
    go_wp2
    refine ⟨⟨8, 7, rfl, rfl, by omega, ?_, HB.out⟩, by simp [intOf]⟩
    have e : encF false (v 7 == 0) v 7 = encF false (v 7 == 0) v 6 := by rw [encF, if_pos ⟨rfl, by rw [HX0.out]; rfl⟩]
    rw [e]; exact HROW.out
   have h8 : ¬ ((n : Int) = 7) := by have := HNK.out; omega
   have h9 : ¬ (n = 7) := by have := HNK.out; omega
   go_wp2_with fail
   refine (HPL.out _).mono ?_; rintro r w4 ⟨rfl, hw⟩
   rw [hw]; clear hw
   go_wp2_with fail
   refine HL.out.mono ?_; rintro r w4 ⟨rfl, hl1, hl2⟩
   have HL1 := hid hl1
   have HL2 := hid hl2
   clear hl1 hl2 c6 cv
   go_wp2
   refine ⟨⟨n + 1, k + 1, rfl, by rw [HNK.out], by omega, by rw [HST.out (fun h => h7 (by omega))]; exact HL1.out, HB.out.trans HL2.out⟩, by simp [intOf]; omega⟩
  obtain rfl : k = 9 := by omega
  obtain rfl : n = 10 := by have := HNK.out; omega
  clear hlen hrow hb hnk
  clear c6 HNK hlt
  have hEl := encF_length false (v 7 == 0) v 9 (by omega)
  have HBL := hid (show blkP false v z1 z2 = setL (setL (encF false (v 7 == 0) v 9) 16 z1) 24 z2 from rfl)
  generalize encF false (v 7 == 0) v 9 = E at *
  have hEl' : E.length = 32 := hEl
  have HEL := hid hEl'
  have HL1 := hid hl1
  have HL2 := hid hl2
  clear hEl hEl' hk hv5 hv7
  go_wp2_with fail
  refine (refMost_ok false _).mono ?_; rintro r w4 ⟨rfl, hw⟩
  rw [hw]; clear hw
  rw [show ((mB false : Nat) : Int) = 32 from rfl]
  go_wp2_with fail
  have HPL0 := HEL
  go_loopw [13] (fun i wr => ∃ j : Nat, i = .int .i64 (j : Nat) ∧ j ≤ z1.length ∧ RowB wr g (setL E 16 (z1.take j)) ∧ But g W5 wr) (fun i _ => z1.length - (intOf i).toNat)
  case atStart => exact ⟨0, rfl, Nat.zero_le _, by rw [List.take_zero, setL_nil]; exact HROW.out, HB.out⟩
  case round =>
   clear HB HROW hgs hb0s
   obtain ⟨j, rfl, hj, hrow, hb⟩ := hrel
   have HROW := hid hrow
   have HB := hid hb
   have hgs : g + 1 < wr.heap.size := by have := hb.size; omega
   have hb0s : b0 < wr.heap.size := by omega
   have hgs0 : g < wr.heap.size := by omega
   have cz : wr.cell? ⟨b0, 9, none⟩ = some (.slice a1 z1.length c1) := cell_of_heap ((hb.block b0 (by omega) (by omega)).trans HR5.out) 9
   by_cases hlt : j < z1.length
   case pos =>
    obtain ⟨bb, of', rfl, q1, q2, q3, q4⟩ := hold_nth HH1.out (hb0 ▸ HB5.out.trans (hb.below (by omega) (by omega))) hlt
    have hst := hrow.set (16 + j) (nthz z1 j)
    rw [setL_take hlt (by have := HEL.out; have := HL1.out; omega)] at hst
    have HST := hid hst
    have hlen : (setL E 16 (z1.take j)).length = 32 := by rw [setL_length (by rw [List.length_take]; have := HPL0.out; have := HL1.out; have := HL2.out; omega)]; exact HPL0.out
    have co := hrow.cell (i := 16 + j) (by rw [hlen]; have := HL1.out; have := HL2.out; omega)
    have fo := frozen_of_row wr g (16 + j) _ _ hrow
    generalize nthz (setL E 16 (z1.take j)) (16 + j) = zo at co
    generalize nthz z1 j = zj at *
    have hjs : (j : Int) < 8 := by have := HL1.out; have := HL2.out; omega
    clear hst hlen hrow hb
    go_wp2
    exact ⟨⟨j + 1, rfl, by omega, HST.out, HB.out.set _ _⟩, by simp [intOf]; omega⟩
   obtain rfl : j = z1.length := by omega
   rw [List.take_length] at HROW
   clear hrow hb
   clear hj hlt HPL0
   have HPL0 := hid (show (setL E 16 z1).length = 32 from by rw [setL_length (by have := HEL.out; have := HL1.out; omega)]; exact HEL.out)
   go_wp2_with fail
   clear cz hgs0
   go_loopw [14] (fun i wr => ∃ j : Nat, i = .int .i64 (j : Nat) ∧ j ≤ z2.length ∧ RowB wr g (setL (setL E 16 z1) 24 (z2.take j)) ∧ But g W5 wr) (fun i _ => z2.length - (intOf i).toNat)
   case atStart => exact ⟨0, rfl, Nat.zero_le _, by rw [List.take_zero, setL_nil]; exact HROW.out, HB.out⟩
   case round =>
    clear HB HROW hgs hb0s
    obtain ⟨j, rfl, hj, hrow, hb⟩ := hrel
    have HROW := hid hrow
    have HB := hid hb
    have hgs : g + 1 < wr.heap.size := by have := hb.size; omega
    have hb0s : b0 < wr.heap.size := by omega
    have hgs0 : g < wr.heap.size := by omega
    have cz : wr.cell? ⟨b0, 10, none⟩ = some (.slice a2 z2.length c2) := cell_of_heap ((hb.block b0 (by omega) (by omega)).trans HR5.out) 10
    by_cases hlt : j < z2.length
    case pos =>
     obtain ⟨bb, of', rfl, q1, q2, q3, q4⟩ := hold_nth HH2.out (hb0 ▸ HB5.out.trans (hb.below (by omega) (by omega))) hlt
     have hst := hrow.set (24 + j) (nthz z2 j)
     rw [setL_take hlt (by have := HPL0.out; have := HL2.out; omega)] at hst
     have HST := hid hst
     have hlen : (setL (setL E 16 z1) 24 (z2.take j)).length = 32 := by rw [setL_length (by rw [List.length_take]; have := HPL0.out; have := HL1.out; have := HL2.out; omega)]; exact HPL0.out
     have co := hrow.cell (i := 24 + j) (by rw [hlen]; have := HL1.out; have := HL2.out; omega)
     have fo := frozen_of_row wr g (24 + j) _ _ hrow
     generalize nthz (setL (setL E 16 z1) 24 (z2.take j)) (24 + j) = zo at co
     generalize nthz z2 j = zj at *
     have hjs : (j : Int) < 8 := by have := HL1.out; have := HL2.out; omega
     clear hst hlen hrow hb
     go_wp2
     exact ⟨⟨j + 1, rfl, by omega, HST.out, HB.out.set _ _⟩, by simp [intOf]; omega⟩
    obtain rfl : j = z2.length := by omega
    rw [List.take_length] at HROW
    clear hrow hb
    clear hj hlt
    go_wp2
    go_ret2
    refine ⟨⟨_, rfl, ?_⟩, by rw [hb0]; exact HB5.out.trans (HB.out.below (by omega) (by omega))⟩
    have hbl := blkP_length (big := false) (v := v) HL1.out HL2.out
    refine ⟨by rw [List.length_map, hbl]; rfl, .inr ⟨g, 32, _, rfl, by omega, HROW.out, Nat.le_refl _, by unfold maxLen; omega, ?_, ?_⟩⟩
    ·rw [List.size_toArray, List.length_map, ← HBL.out, hbl]; rfl
    ·rw [← HBL.out]; exact List.take_of_length_le (by rw [List.length_map, hbl]; decide)
theorem put_ok (b : List Int) (g n c p k : Nat) (hk : k ≤ 8) (hp : p + k ≤ b.length) (hn : n = b.length) (hc : n ≤ c) (hc2 : n ≤ 65535) (x : Nat) (hx : (x : Int) ≤ 18446744073709551615) (w : World) (h : RowB w g b) :
  Calls Tryz.prog 117 #[.slice (some ⟨g, 0, none⟩) n c, .int .i64 (p : Nat), .int .i64 (k : Nat), .int .u64 (x : Nat)] w fun e w' => e = .returned (.tuple #[]) ∧ RowB w' g (setL b p (bytesK x k)) ∧ But g w w' := by
 have hgs : g < w.heap.size := (Array.getElem?_eq_some_iff.1 h).1
 have HR := hid h
 have HN := hid hn
 have hpk : (p : Int) + k ≤ n := by omega
 have hnn : (n : Int) ≤ 65535 := by omega
 clear h hn
 go_enter Tryz.func117, Tryz.ntmps117
 go_wp2_with fail
 go_loopw [10] (fun i wr => ∃ j : Nat, i = .int .i64 (j : Nat) ∧ j ≤ k ∧ RowB wr g (setL b p (bytesK x j)) ∧ But g w wr) (fun i _ => k - (intOf i).toNat)
 case atStart => exact ⟨0, rfl, Nat.zero_le _, by show RowB w g (setL b p []); rw [setL_nil]; exact HR.out, But.refl _ _⟩
 case round =>
  obtain ⟨j, rfl, hj, hrow, hb⟩ := hrel
  by_cases hlt : j < k
  ·have hl : (setL b p (bytesK x j)).length = b.length := setL_length (by rw [bytesK_length]; omega)
   have hc0 := hrow.cell (i := p + j) (by have := HN.out; omega)
   have hf0 := frozen_of_row wr g (p + j) _ _ hrow
   have hg0 : g < wr.heap.size := Nat.lt_of_lt_of_le hgs hb.size
   have q := byt_shr x j
   have hst := hrow.set (p + j) (byt x j)
   have e : (setL b p (bytesK x j)).set (p + j) (byt x j) = setL b p (bytesK x (j + 1)) := by
    have e1 := setL_snoc (b := b) (zs := bytesK x j) (p := p) (z := byt x j) (by rw [bytesK_length]; omega)
    rw [bytesK_length] at e1
    rw [← e1, bytesK_succ]
   rw [e] at hst
   have HST := hid hst
   have HB := hid hb
   generalize nthz (setL b p (bytesK x j)) (p + j) = z0 at hc0
   have hjk : (j : Int) < k ∧ (k : Int) ≤ 8 ∧ 0 ≤ (j : Int) ∧ (p : Int) + j < n := by omega
   obtain ⟨q1, q2, q3, q4⟩ := hjk
   clear hst e hl hrow hb
   go_wp2
   exact ⟨⟨j + 1, rfl, by omega, HST.out, HB.out.set _ _⟩, by simp [intOf]; omega⟩
  ·obtain rfl : j = k := by omega
   have HB := hid hb
   have HW := hid hrow
   clear hb hrow
   go_wp2
   go_end0
   exact ⟨rfl, HW.out, HB.out⟩
theorem value_ok {big : Bool} {v : Nat → Nat} (hP : ParOk big v) (sa pe : Value) (f : Nat) (h1 : 1 ≤ f) (h2 : f ≤ 9) (w : World) :
  Calls Tryz.prog 118 #[parN v sa pe, .int .i64 (f : Nat)] w fun e w' => e = .returned (.int .u64 (v f : Nat)) ∧ Below w.heap.size w w' := by
 have q : IntKind.u64.wrap ((v f : Nat) : Int) = ((v f : Nat) : Int) := u64_wrap_id _ (by omega) (by have := hP.le f h1 h2; omega)
 unfold parN parV
 clear hP
 rcases (show f = 1 ∨ f = 2 ∨ f = 3 ∨ f = 4 ∨ f = 5 ∨ f = 6 ∨ f = 7 ∨ f = 8 ∨ f = 9 by omega) with rfl | rfl | rfl | rfl | rfl | rfl | rfl | rfl | rfl
 all_goals
  clear h1 h2
  go_enter Tryz.func118, Tryz.ntmps118
  go_wp2_with fail
  go_ret
  exact ⟨rfl, (Below.refl _ _).alloc (Nat.le_refl _) _⟩
end Go.Proofs.YtchepcilkcdemaaGreat
