/- A block's words, by the program and by the reference: the big kind. No condition. -/
import Derived.Test.YtchepcilkcdemaaGreatR07
import Derived.Test.YtchepcilkcdemaaGreatR17
set_option linter.all false
set_option maxRecDepth 100000
set_option maxHeartbeats 8000000
namespace Go.Proofs.YtchepcilkcdemaaGreat
open Go.ChangeShapes Go.WideShapes Go.ChangeAt Go.RowKit Go.Joins Go.Shelf Go.Maps
open Go.Lib (hid)
attribute [local go_sem] Oper.semAt_some
/-- c words of n bytes each. -/
def wordsZ (n c : Nat) (zs : List Int) : List Int := (List.range c).map fun i => valZ zs (n * i) n
/-- The first j of c words have been laid. -/
def fillW (n c : Nat) (zs : List Int) : Nat → List Int
 | 0 => List.replicate c 0
 | j + 1 => (fillW n c zs j).set j (valZ zs (n * j) n)
theorem fillW_length (n c : Nat) (zs : List Int) : ∀ j, (fillW n c zs j).length = c
 | 0 => by simp [fillW]
 | j + 1 => by simp [fillW, fillW_length n c zs j]
theorem fillW_at (n c : Nat) (zs : List Int) : ∀ j i, i < j → i < c → (fillW n c zs j)[i]? = some (valZ zs (n * i) n)
 | j + 1, i, h, hc => by
  simp only [fillW]
  by_cases e : i = j
  ·subst e; rw [List.getElem?_set_self (by rw [fillW_length]; exact hc)]
  ·rw [List.getElem?_set_ne (Ne.symm e)]
   exact fillW_at n c zs j i (by omega) hc
theorem fillW_all (n c : Nat) (zs : List Int) : fillW n c zs c = wordsZ n c zs := by
 apply List.ext_getElem?
 intro i
 by_cases h : i < c
 ·rw [fillW_at n c zs c i h h]; simp [wordsZ, h]
 ·rw [List.getElem?_eq_none (by rw [fillW_length]; omega), List.getElem?_eq_none (by simp [wordsZ]; omega)]
theorem wordsZ_words (n c : Nat) {zs : List Int} (hz : ∀ z ∈ zs, 0 ≤ z ∧ z ≤ 255) (hl : zs.length = n * c) : Words (8 * n) c (wordsZ n c zs) := by
 refine ⟨by simp [wordsZ], fun x hx => ?_⟩
 simp only [wordsZ, List.mem_map, List.mem_range] at hx
 obtain ⟨i, hi, rfl⟩ := hx
 have : n * i + n ≤ n * c := by
  rw [← Nat.mul_succ]; exact Nat.mul_le_mul_left n hi
 exact valZ_bounds hz n (by omega)
theorem Holds8.slice {w : World} {v : Value} {zs : List Int} (h : Holds8 w v zs) : ∃ a cap, v = .slice a zs.length cap := by
 obtain ⟨a, cap, e, -⟩ := h
 exact ⟨a, cap, e⟩
theorem load64w_ok (zs : List Int) (v : Value) (at_ : Nat) (w : World) (h : Holds8 w v zs) (hz : ∀ z ∈ zs, 0 ≤ z ∧ z ≤ 255) (hl : at_ + 8 ≤ zs.length) (hm : zs.length ≤ 4294967296) :
  Calls Tryz.prog 169 #[v, .int .i64 (at_ : Nat)] w fun e w' => e = .returned (.tuple #[.int .u64 (valZ zs at_ 8), .int .i64 0]) ∧ w' = w := by
 have H := hid (load64_ok zs v at_ w h hz hl hm)
 go_enter Tryz.func169, Tryz.ntmps169
 go_wp2_with fail
 refine H.out.mono ?_; rintro e w1 ⟨rfl, rfl⟩
 go_wp2
 exact bodyPost_ret (results_tmp2 rfl _ _ _) rfl ⟨rfl, rfl⟩
theorem words64_ok (zs : List Int) (v : Value) (w : World) (h : Holds8 w v zs) (hz : ∀ z ∈ zs, 0 ≤ z ∧ z ≤ 255) (hl : zs.length = 128) :
  Calls Tryz.prog 170 #[v] w fun e w' => e = .returned (.tuple #[.agg (arrV .u64 (wordsZ 8 16 zs)), .int .i64 0]) ∧ Below w.heap.size w w' := by
 obtain ⟨a, cap, rfl⟩ := h.slice
 obtain ⟨b0, hb0⟩ : ∃ b0, w.heap.size = b0 := ⟨_, rfl⟩
 have H := hid h
 have HZ := hid hz
 have HL := hid hl
 rw [hl] at H ⊢
 clear h hz hl
 go_enter Tryz.func170, Tryz.ntmps170
 go_wp2_with fail
 refine letterW ?_
 intro W hW
 have hr : W.heap[b0]? = some (.cells #[.int .u64 0, .int .u64 0, .int .u64 0, .int .u64 0, .int .u64 0, .int .u64 0, .int .u64 0, .int .u64 0, .int .u64 0, .int .u64 0, .int .u64 0, .int .u64 0, .int .u64 0, .int .u64 0, .int .u64 0, .int .u64 0] 212 (0, 0)) := by
  rw [hW]; exact (Below.heap_alloc _ _ _ (by simp; omega)).trans (World.alloc_new_at _ _ hb0.symm)
 have hv : W.heap[b0 + 1]? = some (.cells (arrV .u64 (fillW 8 16 zs 0)) 212 (0, 0)) := by
  rw [hW]; exact World.alloc_new_at _ _ (by simp; omega)
 have hB : Below w.heap.size w W := by
  rw [hW]; exact ((Below.refl w.heap.size w).alloc (Nat.le_refl _) _).alloc (by simp) _
 have hs1 : b0 + 1 < W.heap.size := (Array.getElem?_eq_some_iff.1 hv).1
 clear hW
 have HR := hid hr
 have HV := hid hv
 have HB := hid hB
 clear hr hv hB
 go_loopw [10] (fun i wr => ∃ j : Nat, i = .int .i64 j ∧ j ≤ 16 ∧ wr.heap[b0 + 1]? = some (.cells (arrV .u64 (fillW 8 16 zs j)) 212 (0, 0)) ∧ But (b0 + 1) W wr) (fun i _ => 16 - (intOf i).toNat)
 case atStart => exact ⟨0, rfl, Nat.zero_le _, HV.out, But.refl _ _⟩
 case round =>
  obtain ⟨j, rfl, hj, hv, hB⟩ := hrel
  have hsz := hB.size
  have HVr := hid hv
  have HBr := hid hB
  have HBw := hid (HB.out.trans (hB.below (by omega) HB.out.size))
  by_cases hlt : j < 16
  ·have c2 : wr.cell? ⟨b0 + 1, j, none⟩ = some (.int .u64 (wd (fillW 8 16 zs j) j)) := (cellOfRow hv _).trans (arrV_get (fillW_length _ _ _ _) (by omega))
   have f2 : ∀ o, wr.frozen? ⟨b0 + 1, o, none⟩ = false := (rowFacts hv).2
   have e8 : IntKind.i64.wrap (8 * (j : Int)) = ((8 * j : Nat) : Int) := by rw [IntKind.wrap_i64]; omega
   have HLd := hid (load64w_ok zs (.slice a 128 cap) (8 * j) wr (holds8_below H.out HBw.out) HZ.out (by have := HL.out; omega) (by have := HL.out; omega))
   have e9 : ((8 * j : Nat) : Int) = 8 * (j : Int) := by omega
   have hrange : 8 * (j : Int) ≤ 128 := by omega
   rw [e9] at HLd
   clear hv hB e8 e9
   go_wp2_with fail
   refine HLd.out.mono ?_; rintro e2 w2 ⟨rfl, rfl⟩
   go_wp2
   exact ⟨⟨j + 1, rfl, by omega, by rw [fillW, ← arrV_set]; exact block_setCell HVr.out _, HBr.out.set _ _⟩, by simp [intOf]; omega⟩
  ·obtain rfl : j = 16 := by omega
   have hW := wordsZ_words 8 16 HZ.out HL.out
   have hr5 := (hB.block b0 (by omega) (by omega)).trans HR.out
   rw [fillW_all] at hv
   clear hB HVr
   go_wp2_with ((with_reducible show wpList _ _ _ (Oper.mk (some 23) _ _ _ _ _ :: _) _ _); refine wpList_load_row rfl 212 _ rfl (b0 + 1) rfl _ _ _ _ hv Tryz.underlying212 rfl (by rw [arrV_size, hW.1]; kernel_rfl) ?_; refine wpList_store_row rfl 212 _ _ rfl b0 (arrV .u64 (wordsZ 8 16 zs)) rfl rfl 212 _ hr5 (by rw [arrV_size, hW.1]; kernel_rfl) (by rw [arrV_size, hW.1]; rfl) arrV_all ?_)
   exact bodyPost_ret (results_row_tmp rfl _ _ _ _ _ _ _ rfl (setRow_heap _ _ _ _ _ _ hr5) Tryz.underlying212 rfl (by rw [arrV_size, hW.1]; kernel_rfl)) rfl ⟨rfl, below_setRow (HBw.out.mono (by omega)) (by omega) _⟩
theorem refWords64_ok (zs : List Int) (v : Value) (w : World) (h : Holds8 w v zs) (hz : ∀ z ∈ zs, 0 ≤ z ∧ z ≤ 255) (hl : zs.length = 128) :
  Calls Tryz.prog 163 #[v] w fun e w' => e = .returned (.tuple #[.agg (arrV .u64 (wordsZ 8 16 zs)), .int .i64 0]) ∧ Below w.heap.size w w' := by
 obtain ⟨a, cap, rfl⟩ := h.slice
 obtain ⟨b0, hb0⟩ : ∃ b0, w.heap.size = b0 := ⟨_, rfl⟩
 have H := hid h
 have HZ := hid hz
 have HL := hid hl
 rw [hl] at H ⊢
 clear h hz hl
 go_enter Tryz.func163, Tryz.ntmps163
 go_wp2_with fail
 refine letterW ?_
 intro W hW
 have hr : W.heap[b0]? = some (.cells #[.int .u64 0, .int .u64 0, .int .u64 0, .int .u64 0, .int .u64 0, .int .u64 0, .int .u64 0, .int .u64 0, .int .u64 0, .int .u64 0, .int .u64 0, .int .u64 0, .int .u64 0, .int .u64 0, .int .u64 0, .int .u64 0] 212 (0, 0)) := by
  rw [hW]; exact (Below.heap_alloc _ _ _ (by simp; omega)).trans (World.alloc_new_at _ _ hb0.symm)
 have hv : W.heap[b0 + 1]? = some (.cells (arrV .u64 (fillW 8 16 zs 0)) 212 (0, 0)) := by
  rw [hW]; exact World.alloc_new_at _ _ (by simp; omega)
 have hB : Below w.heap.size w W := by
  rw [hW]; exact ((Below.refl w.heap.size w).alloc (Nat.le_refl _) _).alloc (by simp) _
 have hs1 : b0 + 1 < W.heap.size := (Array.getElem?_eq_some_iff.1 hv).1
 clear hW
 have HR := hid hr
 have HV := hid hv
 have HB := hid hB
 clear hr hv hB
 go_loopw [5] (fun i wr => ∃ j : Nat, i = .int .i64 j ∧ j ≤ 16 ∧ wr.heap[b0 + 1]? = some (.cells (arrV .u64 (fillW 8 16 zs j)) 212 (0, 0)) ∧ But (b0 + 1) W wr) (fun i _ => 16 - (intOf i).toNat)
 case atStart => exact ⟨0, rfl, Nat.zero_le _, HV.out, But.refl _ _⟩
 case round =>
  obtain ⟨j, rfl, hj, hv, hB⟩ := hrel
  have hsz := hB.size
  have HVr := hid hv
  have HBr := hid hB
  have HBw := hid (HB.out.trans (hB.below (by omega) HB.out.size))
  by_cases hlt : j < 16
  ·have c2 : wr.cell? ⟨b0 + 1, j, none⟩ = some (.int .u64 (wd (fillW 8 16 zs j) j)) := (cellOfRow hv _).trans (arrV_get (fillW_length _ _ _ _) (by omega))
   have f2 : ∀ o, wr.frozen? ⟨b0 + 1, o, none⟩ = false := (rowFacts hv).2
   have e8 : IntKind.i64.wrap (8 * (j : Int)) = ((8 * j : Nat) : Int) := by rw [IntKind.wrap_i64]; omega
   have HLd := hid (refLoad_ok zs (.slice a 128 cap) (8 * j) wr (holds8_below H.out HBw.out) HZ.out (by have := HL.out; omega) (by have := HL.out; omega))
   have e9 : ((8 * j : Nat) : Int) = 8 * (j : Int) := by omega
   have hrange : 8 * (j : Int) ≤ 128 := by omega
   rw [e9] at HLd
   clear hv hB e8 e9
   go_wp2_with fail
   refine HLd.out.mono ?_; rintro e2 w2 ⟨rfl, rfl⟩
   go_wp2
   exact ⟨⟨j + 1, rfl, by omega, by rw [fillW, ← arrV_set]; exact block_setCell HVr.out _, HBr.out.set _ _⟩, by simp [intOf]; omega⟩
  ·obtain rfl : j = 16 := by omega
   have hW := wordsZ_words 8 16 HZ.out HL.out
   have hr5 := (hB.block b0 (by omega) (by omega)).trans HR.out
   rw [fillW_all] at hv
   clear hB HVr
   go_wp2_with ((with_reducible show wpList _ _ _ (Oper.mk (some 23) _ _ _ _ _ :: _) _ _); refine wpList_load_row rfl 212 _ rfl (b0 + 1) rfl _ _ _ _ hv Tryz.underlying212 rfl (by rw [arrV_size, hW.1]; kernel_rfl) ?_; refine wpList_store_row rfl 212 _ _ rfl b0 (arrV .u64 (wordsZ 8 16 zs)) rfl rfl 212 _ hr5 (by rw [arrV_size, hW.1]; kernel_rfl) (by rw [arrV_size, hW.1]; rfl) arrV_all ?_)
   exact bodyPost_ret (results_row_tmp rfl _ _ _ _ _ _ _ rfl (setRow_heap _ _ _ _ _ _ hr5) Tryz.underlying212 rfl (by rw [arrV_size, hW.1]; kernel_rfl)) rfl ⟨rfl, below_setRow (HBw.out.mono (by omega)) (by omega) _⟩
/-- The first j places of a list, laid anew. -/
def fillG (L : List Int) (f : Nat → Int) : Nat → List Int
 | 0 => L
 | j + 1 => (fillG L f j).set j (f j)
theorem fillG_length (L : List Int) (f : Nat → Int) : ∀ j, (fillG L f j).length = L.length
 | 0 => rfl
 | j + 1 => by simp [fillG, fillG_length L f j]
theorem fillG_at (L : List Int) (f : Nat → Int) : ∀ j i, i < j → i < L.length → (fillG L f j)[i]? = some (f i)
 | j + 1, i, h, hc => by
  simp only [fillG]
  by_cases e : i = j
  ·subst e; rw [List.getElem?_set_self (by rw [fillG_length]; exact hc)]
  ·rw [List.getElem?_set_ne (Ne.symm e)]
   exact fillG_at L f j i (by omega) hc
theorem fillG_later (L : List Int) (f : Nat → Int) : ∀ j i, j ≤ i → wd (fillG L f j) i = wd L i
 | 0, i, _ => rfl
 | j + 1, i, h => by
  have ih := fillG_later L f j i (by omega)
  simp only [fillG]
  unfold wd at *
  rw [List.getD_eq_getElem?_getD, List.getElem?_set_ne (by omega), ← List.getD_eq_getElem?_getD]
  exact ih
theorem fillG_all (L : List Int) (f : Nat → Int) : fillG L f L.length = (List.range L.length).map f := by
 apply List.ext_getElem?
 intro i
 by_cases h : i < L.length
 ·rw [fillG_at L f _ i h h]; simp [h]
 ·rw [List.getElem?_eq_none (by rw [fillG_length]; omega), List.getElem?_eq_none (by simp; omega)]
/-- The chain at first. -/
def startF (k : IntKind) (iv : List Int) (n : Nat) (zs : List Int) (i : Nat) : Int := bits .xor k (wd iv i) (valZ zs (n * i) n)
def startL (k : IntKind) (iv : List Int) (n : Nat) (zs : List Int) : List Int := (List.range 8).map (startF k iv n zs)
theorem startL_words {k : IntKind} {N : Nat} (hm : ∀ z, k.wrap z = z % 2 ^ N) (iv : List Int) (n : Nat) (zs : List Int) : Words N 8 (startL k iv n zs) := by
 refine ⟨by simp [startL], fun x hx => ?_⟩
 simp only [startL, List.mem_map, List.mem_range] at hx
 obtain ⟨i, hi, rfl⟩ := hx
 exact bits_bound _ _ _ hm _ _
theorem start64_ok (zs : List Int) (v : Value) (w : World) (h : Holds8 w v zs) (hz : ∀ z ∈ zs, 0 ≤ z ∧ z ≤ 255) (hl : zs.length = 64) :
  Calls Tryz.prog 155 #[v] w fun e w' => e = .returned (.tuple #[.agg (arrV .u64 (startL .u64 IVb 8 zs)), .int .i64 0]) ∧ Below w.heap.size w w' := by
 obtain ⟨a, cap, rfl⟩ := h.slice
 obtain ⟨b0, hb0⟩ : ∃ b0, w.heap.size = b0 := ⟨_, rfl⟩
 have H := hid h
 have HZ := hid hz
 have HL := hid hl
 rw [hl] at H ⊢
 clear h hz hl
 go_enter Tryz.func155, Tryz.ntmps155
 go_wp2_with fail
 refine (ivb_any _).mono ?_; rintro e1 w1 ⟨rfl, hb1⟩
 have hr0 := (hb1.block b0 (by simp; omega)).trans (World.alloc_new_at _ _ hb0.symm)
 have hs0 : b0 + 1 ≤ w1.heap.size := by have := hb1.size; simp at this; omega
 have hB0 : Below w.heap.size w w1 := ((Below.refl w.heap.size w).alloc (Nat.le_refl _) _).trans (hb1.mono (by simp))
 clear hb1
 go_wp2_with fail
 refine letterW ?_
 intro W hW
 obtain ⟨bv, hbv⟩ : ∃ bv, w1.heap.size = bv := ⟨_, rfl⟩
 have hr : W.heap[b0]? = some (.cells #[.int .u64 0, .int .u64 0, .int .u64 0, .int .u64 0, .int .u64 0, .int .u64 0, .int .u64 0, .int .u64 0] 239 (0, 0)) := by
  rw [hW]; exact (Below.heap_alloc _ _ _ (by omega)).trans hr0
 have hv : W.heap[bv]? = some (.cells (arrV .u64 (fillG IVb (startF .u64 IVb 8 zs) 0)) 239 (0, 0)) := by
  rw [hW]; exact World.alloc_new_at _ _ hbv.symm
 have hB : Below w.heap.size w W := by
  rw [hW]; exact hB0.alloc (by omega) _
 rw [hbv]
 have hbb : b0 + 1 ≤ bv := by omega
 clear hW hr0 hs0 hB0 hbv
 have hs1 : bv < W.heap.size := (Array.getElem?_eq_some_iff.1 hv).1
 have HR := hid hr
 have HV := hid hv
 have HB := hid hB
 clear hr hv hB
 go_loopw [13] (fun i wr => ∃ j : Nat, i = .int .i64 j ∧ j ≤ 8 ∧ wr.heap[bv]? = some (.cells (arrV .u64 (fillG IVb (startF .u64 IVb 8 zs) j)) 239 (0, 0)) ∧ But bv W wr) (fun i _ => 8 - (intOf i).toNat)
 case atStart => exact ⟨0, rfl, Nat.zero_le _, HV.out, But.refl _ _⟩
 case round =>
  obtain ⟨j, rfl, hj, hv, hB⟩ := hrel
  have hsz := hB.size
  have HVr := hid hv
  have HBr := hid hB
  have HBw := hid (HB.out.trans (hB.below (by omega) HB.out.size))
  have hvs : bv < wr.heap.size := (Array.getElem?_eq_some_iff.1 hv).1
  by_cases hlt : j < 8
  ·have c2 : wr.cell? ⟨bv, j, none⟩ = some (.int .u64 (wd IVb j)) := by
    rw [cellOfRow hv, arrV_get (n := 8) (by rw [fillG_length]; rfl) (by omega), fillG_later _ _ _ _ (Nat.le_refl _)]
   have f2 : ∀ o, wr.frozen? ⟨bv, o, none⟩ = false := (rowFacts hv).2
   have e8 : IntKind.i64.wrap (8 * (j : Int)) = ((8 * j : Nat) : Int) := by rw [IntKind.wrap_i64]; omega
   have HLd := hid (load64w_ok zs (.slice a 64 cap) (8 * j) wr (holds8_below H.out HBw.out) HZ.out (by have := HL.out; omega) (by have := HL.out; omega))
   have e9 : ((8 * j : Nat) : Int) = 8 * (j : Int) := by omega
   have hrange : 8 * (j : Int) ≤ 64 := by omega
   rw [e9] at HLd
   clear hv hB e8 e9
   go_wp2_with fail
   refine HLd.out.mono ?_; rintro e2 w2 ⟨rfl, rfl⟩
   go_wp2
   exact ⟨⟨j + 1, rfl, by omega, by rw [fillG, ← arrV_set]; exact block_setCell HVr.out _, HBr.out.set _ _⟩, by simp [intOf]; omega⟩
  ·obtain rfl : j = 8 := by omega
   have hW := startL_words (k := .u64) (N := 64) (fun z => IntKind.wrap_u64 z) IVb 8 zs
   have hr5 := (hB.block b0 (by omega) (by omega)).trans HR.out
   have hall : (fillG IVb (startF .u64 IVb 8 zs) 8) = startL .u64 IVb 8 zs := fillG_all _ _
   rw [hall] at hv
   clear hB HVr hall
   go_wp2_with ((with_reducible show wpList _ _ _ (Oper.mk (some 30) _ _ _ _ _ :: _) _ _); refine wpList_load_row rfl 239 _ rfl bv rfl _ _ _ _ hv Tryz.underlying239 rfl (by rw [arrV_size, hW.1]; kernel_rfl) ?_; refine wpList_store_row rfl 239 _ _ rfl b0 (arrV .u64 (startL .u64 IVb 8 zs)) rfl rfl 239 _ hr5 (by rw [arrV_size, hW.1]; kernel_rfl) (by rw [arrV_size, hW.1]; rfl) arrV_all ?_)
   exact bodyPost_ret (results_row_tmp rfl _ _ _ _ _ _ _ rfl (setRow_heap _ _ _ _ _ _ hr5) Tryz.underlying239 rfl (by rw [arrV_size, hW.1]; kernel_rfl)) rfl ⟨rfl, below_setRow (HBw.out.mono (by omega)) (by omega) _⟩
theorem refStart64 (zs : List Int) (v : Value) (w : World) (h : Holds8 w v zs) (hz : ∀ z ∈ zs, 0 ≤ z ∧ z ≤ 255) (hl : zs.length = 64) :
  Calls Tryz.prog 178 #[v] w fun e w' => e = .returned (.tuple #[.agg (arrV .u64 (startL .u64 IVb 8 zs)), .int .i64 0]) ∧ Below w.heap.size w w' := by
 obtain ⟨a, cap, rfl⟩ := h.slice
 obtain ⟨b0, hb0⟩ : ∃ b0, w.heap.size = b0 := ⟨_, rfl⟩
 have H := hid h
 have HZ := hid hz
 have HL := hid hl
 rw [hl] at H ⊢
 clear h hz hl
 go_enter Tryz.func178, Tryz.ntmps178
 go_wp2_with fail
 refine letterW ?_
 intro W hW
 obtain ⟨bv, hbv⟩ : ∃ bv, b0 + 1 = bv := ⟨_, rfl⟩
 have hr : W.heap[b0]? = some (.cells #[.int .u64 0, .int .u64 0, .int .u64 0, .int .u64 0, .int .u64 0, .int .u64 0, .int .u64 0, .int .u64 0] 239 (0, 0)) := by
  rw [hW]; exact (Below.heap_alloc _ _ _ (by simp; omega)).trans (World.alloc_new_at _ _ hb0.symm)
 have hv : W.heap[bv]? = some (.cells (arrV .u64 (fillG [0, 0, 0, 0, 0, 0, 0, 0] (startF .u64 IVb 8 zs) 0)) 239 (0, 0)) := by
  rw [hW]; exact World.alloc_new_at _ _ (by simp; omega)
 have hB : Below w.heap.size w W := by
  rw [hW]; exact ((Below.refl w.heap.size w).alloc (Nat.le_refl _) _).alloc (by simp) _
 rw [hbv]
 have hbb : b0 + 1 ≤ bv := by omega
 clear hW hbv
 have hs1 : bv < W.heap.size := (Array.getElem?_eq_some_iff.1 hv).1
 have HR := hid hr
 have HV := hid hv
 have HB := hid hB
 clear hr hv hB
 go_loopw [5] (fun i wr => ∃ j : Nat, i = .int .i64 j ∧ j ≤ 8 ∧ wr.heap[bv]? = some (.cells (arrV .u64 (fillG [0, 0, 0, 0, 0, 0, 0, 0] (startF .u64 IVb 8 zs) j)) 239 (0, 0)) ∧ But bv W wr) (fun i _ => 8 - (intOf i).toNat)
 case atStart => exact ⟨0, rfl, Nat.zero_le _, HV.out, But.refl _ _⟩
 case round =>
  obtain ⟨j, rfl, hj, hv, hB⟩ := hrel
  have hsz := hB.size
  have HVr := hid hv
  have HBr := hid hB
  have HBw := hid (HB.out.trans (hB.below (by omega) HB.out.size))
  have hvs : bv < wr.heap.size := (Array.getElem?_eq_some_iff.1 hv).1
  by_cases hlt : j < 8
  ·have c2 : wr.cell? ⟨bv, j, none⟩ = some (.int .u64 (wd [0, 0, 0, 0, 0, 0, 0, 0] j)) := by
    rw [cellOfRow hv, arrV_get (n := 8) (by rw [fillG_length]; rfl) (by omega), fillG_later _ _ _ _ (Nat.le_refl _)]
   have f2 : ∀ o, wr.frozen? ⟨bv, o, none⟩ = false := (rowFacts hv).2
   have e8 : IntKind.i64.wrap (8 * (j : Int)) = ((8 * j : Nat) : Int) := by rw [IntKind.wrap_i64]; omega
   have HLd := hid (refLoad_ok zs (.slice a 64 cap) (8 * j) wr (holds8_below H.out HBw.out) HZ.out (by have := HL.out; omega) (by have := HL.out; omega))
   have e9 : ((8 * j : Nat) : Int) = 8 * (j : Int) := by omega
   have hrange : 8 * (j : Int) ≤ 64 := by omega
   rw [e9] at HLd
   clear hv hB e8 e9
   go_wp2_with fail
   refine HLd.out.mono ?_; rintro e2 w2 ⟨rfl, rfl⟩
   go_wp2_with fail
   refine (refIV_any j hlt _).mono ?_; rintro e3 w3 ⟨rfl, hb3⟩
   have hv3 := (hb3.block bv hvs).trans HVr.out
   have HV3 := hid hv3
   have HB3 := hid (HBr.out.trans (But.of_below (b := bv) hb3))
   have c3 : w3.cell? ⟨bv, j, none⟩ = some (.int .u64 (wd [0, 0, 0, 0, 0, 0, 0, 0] j)) := by
    rw [cellOfRow hv3, arrV_get (n := 8) (by rw [fillG_length]; rfl) (by omega), fillG_later _ _ _ _ (Nat.le_refl _)]
   have f3 : ∀ o, w3.frozen? ⟨bv, o, none⟩ = false := (rowFacts hv3).2
   clear c2 f2 hb3 hv3
   go_wp2
   exact ⟨⟨j + 1, rfl, by omega, by rw [fillG, ← arrV_set]; exact block_setCell HV3.out _, HB3.out.set _ _⟩, by simp [intOf]; omega⟩
  ·obtain rfl : j = 8 := by omega
   have hW := startL_words (k := .u64) (N := 64) (fun z => IntKind.wrap_u64 z) IVb 8 zs
   have hr5 := (hB.block b0 (by omega) (by omega)).trans HR.out
   have hall : (fillG [0, 0, 0, 0, 0, 0, 0, 0] (startF .u64 IVb 8 zs) 8) = startL .u64 IVb 8 zs := fillG_all _ _
   rw [hall] at hv
   clear hB HVr hall
   go_wp2_with ((with_reducible show wpList _ _ _ (Oper.mk (some 29) _ _ _ _ _ :: _) _ _); refine wpList_load_row rfl 239 _ rfl bv rfl _ _ _ _ hv Tryz.underlying239 rfl (by rw [arrV_size, hW.1]; kernel_rfl) ?_; refine wpList_store_row rfl 239 _ _ rfl b0 (arrV .u64 (startL .u64 IVb 8 zs)) rfl rfl 239 _ hr5 (by rw [arrV_size, hW.1]; kernel_rfl) (by rw [arrV_size, hW.1]; rfl) arrV_all ?_)
   exact bodyPost_ret (results_row_tmp rfl _ _ _ _ _ _ _ rfl (setRow_heap _ _ _ _ _ _ hr5) Tryz.underlying239 rfl (by rw [arrV_size, hW.1]; kernel_rfl)) rfl ⟨rfl, below_setRow (HBw.out.mono (by omega)) (by omega) _⟩
theorem load4_ok (zs : List Int) (v : Value) (at_ : Nat) (w : World) (h : Holds8 w v zs) (hz : ∀ z ∈ zs, 0 ≤ z ∧ z ≤ 255) (hl : at_ + 4 ≤ zs.length) (hm : zs.length ≤ 4294967296) :
  Calls Tryz.prog 187 #[v, .int .i64 (at_ : Nat), .int .i64 4] w fun e w' => e = .returned (.tuple #[.int .u64 (valZ zs at_ 4), .int .i64 0]) ∧ w' = w := by
 obtain ⟨a, cap, rfl, h⟩ := h
 obtain ⟨b, off, rfl, h1, h2⟩ := h.resolve_left (fun e => by rw [e] at hl; simp at hl)
 have HC := hid h2
 clear h h2
 go_enter Tryz.func187, Tryz.ntmps187
 go_wp2_with fail
 go_loopw [8, 25] (fun s i wr => ∃ k : Nat, s = .int .u64 (valZ zs at_ k) ∧ i = .int .i64 k ∧ w = wr ∧ k ≤ 4) (fun _ i _ => 4 - (intOf i).toNat)
 case atStart => exact ⟨0, rfl, rfl, rfl, by omega⟩
 case round =>
  obtain ⟨k, rfl, rfl, rfl, hk⟩ := hrel
  by_cases hlt : k < 4
  ·have hc := HC.out (at_ + k) (by omega)
   have hv := orZ (valZ zs at_ k) (nthz zs (at_ + k)) k (by omega) (valZ_bounds hz k (by omega)) (mem_nthz hz (by omega)).2
   go_wp2
   exact ⟨⟨k + 1, rfl, rfl, by trivial, by omega⟩, by simp [intOf]; omega⟩
  ·obtain rfl : k = 4 := by omega
   go_wp2
   exact bodyPost_ret (results_tmp2 (fn := Tryz.f187) (t := 6) (u := 7) rfl _ _ _) rfl ⟨rfl, rfl⟩
theorem load32w_ok (zs : List Int) (v : Value) (at_ : Nat) (w : World) (h : Holds8 w v zs) (hz : ∀ z ∈ zs, 0 ≤ z ∧ z ≤ 255) (hl : at_ + 4 ≤ zs.length) (hm : zs.length ≤ 4294967296) :
  Calls Tryz.prog 190 #[v, .int .i64 (at_ : Nat)] w fun e w' => e = .returned (.tuple #[.int .u32 (valZ zs at_ 4), .int .i64 0]) ∧ w' = w := by
 have H := hid (load4_ok zs v at_ w h hz hl hm)
 have hb := valZ_bounds hz (at_ := at_) 4 hl
 simp only [Nat.reduceMul, Int.reducePow] at hb
 obtain ⟨x, hx⟩ : ∃ x, valZ zs at_ 4 = x := ⟨_, rfl⟩
 rw [hx] at H hb ⊢
 obtain ⟨hb1, hb2⟩ := hb
 clear hx
 go_enter Tryz.func190, Tryz.ntmps190
 go_wp2_with fail
 refine H.out.mono ?_; rintro e w1 ⟨rfl, rfl⟩
 go_wp2
 exact bodyPost_ret (results_tmp2 rfl _ _ _) rfl ⟨rfl, rfl⟩
theorem right_ok (n : Nat) (a : Option Addr) (cap : Nat) (w : World) : Calls Tryz.prog 173 #[.slice a n cap, .int .i64 n] w fun e w' => e = .returned (.int .i64 0) ∧ w' = w := by
 go_enter Tryz.func173, Tryz.ntmps173
 go_wp2
 go_ret
 exact ⟨rfl, rfl⟩
/-- words: into a row of c words that lies in a block. -/
theorem words32in_ok (c : Nat) (hc : c ≤ 16) (bv : Nat) (T : TypeId) (zs : List Int) (v : Value) (w : World) (h : Holds8 w v zs) (hz : ∀ z ∈ zs, 0 ≤ z ∧ z ≤ 255) (hl : zs.length = 4 * c) (hv : w.heap[bv]? = some (.cells (arrV .u32 (fillW 4 c zs 0)) T (0, 0)))
  (hne : ∀ w', But bv w w' → Holds8 w' v zs) :
  Calls Tryz.prog 174 #[.slice (some ⟨bv, 0, none⟩) c c, v] w fun e w' => e = .returned (.tuple #[]) ∧ w'.heap[bv]? = some (.cells (arrV .u32 (wordsZ 4 c zs)) T (0, 0)) ∧ But bv w w' := by
 have HN := hid hne
 have HZ := hid hz
 have HL := hid hl
 have HV := hid hv
 clear h hz hl hv hne
 go_enter Tryz.func174, Tryz.ntmps174
 go_wp2_with fail
 go_loopw [7] (fun i wr => ∃ j : Nat, i = .int .i64 j ∧ j ≤ c ∧ wr.heap[bv]? = some (.cells (arrV .u32 (fillW 4 c zs j)) T (0, 0)) ∧ But bv w wr) (fun i _ => c - (intOf i).toNat)
 case atStart => exact ⟨0, rfl, Nat.zero_le _, HV.out, But.refl _ _⟩
 case round =>
  obtain ⟨j, rfl, hj, hv, hB⟩ := hrel
  have HVr := hid hv
  have HBr := hid hB
  by_cases hlt : j < c
  ·have c2 : wr.cell? ⟨bv, j, none⟩ = some (.int .u32 (wd (fillW 4 c zs j) j)) := (cellOfRow hv _).trans (arrV_get (fillW_length _ _ _ _) hlt)
   have f2 : ∀ o, wr.frozen? ⟨bv, o, none⟩ = false := (rowFacts hv).2
   have e9 : ((4 * j : Nat) : Int) = 4 * (j : Int) := by omega
   have HLd := hid (load32w_ok zs v (4 * j) wr (HN.out wr hB) HZ.out (by have := HL.out; omega) (by have := HL.out; omega))
   have hrange : 4 * (j : Int) ≤ 64 := by omega
   rw [e9] at HLd
   clear hv hB e9
   go_wp2_with fail
   refine HLd.out.mono ?_; rintro e2 w2 ⟨rfl, rfl⟩
   go_wp2
   exact ⟨⟨j + 1, rfl, by omega, by rw [fillW, ← arrV_set]; exact block_setCell HVr.out _, HBr.out.set _ _⟩, by simp [intOf]; omega⟩
  ·obtain rfl : j = c := by omega
   rw [fillW_all] at hv
   have HV2 := hid hv
   clear hv hB
   go_wp2
   exact bodyPost_end (results_none rfl _ _ _) rfl ⟨rfl, HV2.out, HBr.out⟩
theorem val4 (zs : List Int) (i : Nat) : valZ zs i 4 = nthz zs i + nthz zs (i + 1) * 256 + nthz zs (i + 2) * 65536 + nthz zs (i + 3) * 16777216 := by
 simp only [valZ, Nat.reduceMul, Int.reducePow, Nat.add_zero]
 omega
theorem refLoad4_ok (zs : List Int) (v : Value) (at_ : Nat) (w : World) (h : Holds8 w v zs) (hz : ∀ z ∈ zs, 0 ≤ z ∧ z ≤ 255) (hl : at_ + 4 ≤ zs.length) (hm : zs.length ≤ 4294967296) :
  Calls Tryz.prog 183 #[v, .int .i64 (at_ : Nat)] w fun e w' => e = .returned (.int .u32 (valZ zs at_ 4)) ∧ ∃ m, w' = w.drewN m := by
 obtain ⟨a, cap, rfl, h⟩ := h
 obtain ⟨b, off, rfl, h1, h2⟩ := h.resolve_left (fun e => by rw [e] at hl; simp at hl)
 have hc0 := h2 at_ (by omega)
 have hc1 := h2 (at_ + 1) (by omega)
 have hc2 := h2 (at_ + 2) (by omega)
 have hc3 := h2 (at_ + 3) (by omega)
 obtain ⟨-, x0, x1⟩ := mem_nthz hz (show at_ < zs.length by omega)
 obtain ⟨-, y0, y1⟩ := mem_nthz hz (show at_ + 1 < zs.length by omega)
 obtain ⟨-, z0, z1⟩ := mem_nthz hz (show at_ + 2 < zs.length by omega)
 obtain ⟨-, t0, t1⟩ := mem_nthz hz (show at_ + 3 < zs.length by omega)
 rw [val4]
 generalize nthz zs at_ = x at *
 generalize nthz zs (at_ + 1) = y at *
 generalize nthz zs (at_ + 2) = z at *
 generalize nthz zs (at_ + 3) = t at *
 have e1 : IntKind.i64.wrap ((at_ : Int) + 1) = ((at_ + 1 : Nat) : Int) := by rw [IntKind.wrap_i64]; omega
 have e2 : IntKind.i64.wrap ((at_ : Int) + 2) = ((at_ + 2 : Nat) : Int) := by rw [IntKind.wrap_i64]; omega
 have e3 : IntKind.i64.wrap ((at_ : Int) + 3) = ((at_ + 3 : Nat) : Int) := by rw [IntKind.wrap_i64]; omega
 have l0 : at_ < zs.length := by omega
 have l1 : at_ + 1 < zs.length := by omega
 have l2 : at_ + 2 < zs.length := by omega
 have l3 : at_ + 3 < zs.length := by omega
 clear h h2 hz
 go_enter Tryz.func183, Tryz.ntmps183
 go_wp2_with fail
 go_quiet (fail)
 go_wp2
 go_ret
 exact ⟨rfl, nq, rfl⟩
theorem words32_ok (zs : List Int) (v : Value) (w : World) (h : Holds8 w v zs) (hz : ∀ z ∈ zs, 0 ≤ z ∧ z ≤ 255) (hl : zs.length = 64) :
  Calls Tryz.prog 176 #[v] w fun e w' => e = .returned (.tuple #[.agg (arrV .u32 (wordsZ 4 16 zs)), .int .i64 0]) ∧ Below w.heap.size w w' := by
 obtain ⟨a, cap, rfl⟩ := h.slice
 obtain ⟨b0, hb0⟩ : ∃ b0, w.heap.size = b0 := ⟨_, rfl⟩
 have H := hid h
 have HZ := hid hz
 have HL := hid hl
 rw [hl] at H ⊢
 clear h hz hl
 go_enter Tryz.func176, Tryz.ntmps176
 go_wp2_with fail
 refine (right_ok 64 a cap _).mono ?_; rintro e1 w1 ⟨rfl, hw1⟩
 have hr : w1.heap[b0]? = some (.cells #[.int .u32 0, .int .u32 0, .int .u32 0, .int .u32 0, .int .u32 0, .int .u32 0, .int .u32 0, .int .u32 0, .int .u32 0, .int .u32 0, .int .u32 0, .int .u32 0, .int .u32 0, .int .u32 0, .int .u32 0, .int .u32 0] 263 (0, 0)) := by
  rw [hw1]; exact (Below.heap_alloc _ _ _ (by simp; omega)).trans (World.alloc_new_at _ _ hb0.symm)
 have hv : w1.heap[b0 + 1]? = some (.cells (arrV .u32 (fillW 4 16 zs 0)) 263 (0, 0)) := by
  rw [hw1]; exact World.alloc_new_at _ _ (by simp; omega)
 have hB : Below w.heap.size w w1 := by
  rw [hw1]; exact ((Below.refl w.heap.size w).alloc (Nat.le_refl _) _).alloc (by simp) _
 clear hw1
 have HB := hid hB
 have HR := hid hr
 have HV := hid hv
 clear hr hv hB
 go_wp2_with fail
 refine (words32in_ok 16 (by decide) (b0 + 1) 263 zs (.slice a 64 cap) w1 (holds8_below H.out HB.out) HZ.out HL.out HV.out (fun w' hw' => holds8_below H.out (HB.out.trans (hw'.below (by omega) HB.out.size)))).mono ?_
 rintro e2 w2 ⟨rfl, hv2, hB2⟩
 have hW := wordsZ_words 4 16 HZ.out HL.out
 have hr5 := (hB2.block b0 (by have := (Array.getElem?_eq_some_iff.1 HR.out).1; omega) (by omega)).trans HR.out
 have HB5 := hid (HB.out.trans (hB2.below (by omega) HB.out.size))
 clear hB2
 go_wp2_with ((with_reducible show wpList _ _ _ (Oper.mk (some 15) _ _ _ _ _ :: _) _ _); refine wpList_load_row rfl 263 _ rfl (b0 + 1) rfl _ _ _ _ hv2 Tryz.underlying263 rfl (by rw [arrV_size, hW.1]; kernel_rfl) ?_; refine wpList_store_row rfl 263 _ _ rfl b0 (arrV .u32 (wordsZ 4 16 zs)) rfl rfl 263 _ hr5 (by rw [arrV_size, hW.1]; kernel_rfl) (by rw [arrV_size, hW.1]; rfl) arrV_all ?_)
 exact bodyPost_ret (results_row_tmp rfl _ _ _ _ _ _ _ rfl (setRow_heap _ _ _ _ _ _ hr5) Tryz.underlying263 rfl (by rw [arrV_size, hW.1]; kernel_rfl)) rfl ⟨rfl, below_setRow (HB5.out.mono (by omega)) (by omega) _⟩
theorem refWords32_ok (zs : List Int) (v : Value) (w : World) (h : Holds8 w v zs) (hz : ∀ z ∈ zs, 0 ≤ z ∧ z ≤ 255) (hl : zs.length = 64) :
  Calls Tryz.prog 165 #[v] w fun e w' => e = .returned (.tuple #[.agg (arrV .u32 (wordsZ 4 16 zs)), .int .i64 0]) ∧ Below w.heap.size w w' := by
 obtain ⟨a, cap, rfl⟩ := h.slice
 obtain ⟨b0, hb0⟩ : ∃ b0, w.heap.size = b0 := ⟨_, rfl⟩
 have H := hid h
 have HZ := hid hz
 have HL := hid hl
 rw [hl] at H ⊢
 clear h hz hl
 go_enter Tryz.func165, Tryz.ntmps165
 go_wp2_with fail
 refine letterW ?_
 intro W hW
 have hr : W.heap[b0]? = some (.cells #[.int .u32 0, .int .u32 0, .int .u32 0, .int .u32 0, .int .u32 0, .int .u32 0, .int .u32 0, .int .u32 0, .int .u32 0, .int .u32 0, .int .u32 0, .int .u32 0, .int .u32 0, .int .u32 0, .int .u32 0, .int .u32 0] 263 (0, 0)) := by
  rw [hW]; exact (Below.heap_alloc _ _ _ (by simp; omega)).trans (World.alloc_new_at _ _ hb0.symm)
 have hv : W.heap[b0 + 1]? = some (.cells (arrV .u32 (fillW 4 16 zs 0)) 263 (0, 0)) := by
  rw [hW]; exact World.alloc_new_at _ _ (by simp; omega)
 have hB : Below w.heap.size w W := by
  rw [hW]; exact ((Below.refl w.heap.size w).alloc (Nat.le_refl _) _).alloc (by simp) _
 have hs1 : b0 + 1 < W.heap.size := (Array.getElem?_eq_some_iff.1 hv).1
 clear hW
 have HR := hid hr
 have HV := hid hv
 have HB := hid hB
 clear hr hv hB
 go_loopw [5] (fun i wr => ∃ j : Nat, i = .int .i64 j ∧ j ≤ 16 ∧ wr.heap[b0 + 1]? = some (.cells (arrV .u32 (fillW 4 16 zs j)) 263 (0, 0)) ∧ But (b0 + 1) W wr) (fun i _ => 16 - (intOf i).toNat)
 case atStart => exact ⟨0, rfl, Nat.zero_le _, HV.out, But.refl _ _⟩
 case round =>
  obtain ⟨j, rfl, hj, hv, hB⟩ := hrel
  have hsz := hB.size
  have HVr := hid hv
  have HBr := hid hB
  have HBw := hid (HB.out.trans (hB.below (by omega) HB.out.size))
  by_cases hlt : j < 16
  ·have e9 : ((4 * j : Nat) : Int) = 4 * (j : Int) := by omega
   have HLd := hid (refLoad4_ok zs (.slice a 64 cap) (4 * j) wr (holds8_below H.out HBw.out) HZ.out (by have := HL.out; omega) (by have := HL.out; omega))
   have hrange : 4 * (j : Int) ≤ 64 := by omega
   rw [e9] at HLd
   clear hB e9
   go_wp2_with fail
   refine HLd.out.mono ?_; rintro e2 w2 ⟨rfl, m, rfl⟩
   have c2 : (wr.drewN m).cell? ⟨b0 + 1, j, none⟩ = some (.int .u32 (wd (fillW 4 16 zs j) j)) := (cellOfRow (W := wr.drewN m) hv _).trans (arrV_get (fillW_length _ _ _ _) (by omega))
   have f2 : ∀ o, (wr.drewN m).frozen? ⟨b0 + 1, o, none⟩ = false := (rowFacts (W := wr.drewN m) hv).2
   go_wp2
   exact ⟨⟨j + 1, rfl, by omega, by rw [fillW, ← arrV_set]; exact block_setCell (w := wr.drewN m) HVr.out _, (HBr.out.drewN m).set _ _⟩, by simp [intOf]; omega⟩
  ·obtain rfl : j = 16 := by omega
   have hW := wordsZ_words 4 16 HZ.out HL.out
   have hr5 := (hB.block b0 (by omega) (by omega)).trans HR.out
   rw [fillW_all] at hv
   clear hB HVr
   go_wp2_with ((with_reducible show wpList _ _ _ (Oper.mk (some 26) _ _ _ _ _ :: _) _ _); refine wpList_load_row rfl 263 _ rfl (b0 + 1) rfl _ _ _ _ hv Tryz.underlying263 rfl (by rw [arrV_size, hW.1]; kernel_rfl) ?_; refine wpList_store_row rfl 263 _ _ rfl b0 (arrV .u32 (wordsZ 4 16 zs)) rfl rfl 263 _ hr5 (by rw [arrV_size, hW.1]; kernel_rfl) (by rw [arrV_size, hW.1]; rfl) arrV_all ?_)
   exact bodyPost_ret (results_row_tmp rfl _ _ _ _ _ _ _ rfl (setRow_heap _ _ _ _ _ _ hr5) Tryz.underlying263 rfl (by rw [arrV_size, hW.1]; kernel_rfl)) rfl ⟨rfl, below_setRow (HBw.out.mono (by omega)) (by omega) _⟩
theorem wd_wordsZ (n c : Nat) (zs : List Int) {i : Nat} (hi : i < c) : wd (wordsZ n c zs) i = valZ zs (n * i) n := by
 simp [wd, wordsZ, List.getD_eq_getElem?_getD, hi]
theorem start32_ok (zs : List Int) (v : Value) (w : World) (h : Holds8 w v zs) (hz : ∀ z ∈ zs, 0 ≤ z ∧ z ≤ 255) (hl : zs.length = 32) :
  Calls Tryz.prog 158 #[v] w fun e w' => e = .returned (.tuple #[.agg (arrV .u32 (startL .u32 IVs 4 zs)), .int .i64 0]) ∧ Below w.heap.size w w' := by
 obtain ⟨a, cap, rfl⟩ := h.slice
 obtain ⟨b0, hb0⟩ : ∃ b0, w.heap.size = b0 := ⟨_, rfl⟩
 have H := hid h
 have HZ := hid hz
 have HL := hid hl
 rw [hl] at H ⊢
 clear h hz hl
 go_enter Tryz.func158, Tryz.ntmps158
 go_wp2_with fail
 refine (right_ok 32 a cap _).mono ?_; rintro e1 w1 ⟨rfl, hw1⟩
 have hr1 : w1.heap[b0]? = some (.cells #[.int .u32 0, .int .u32 0, .int .u32 0, .int .u32 0, .int .u32 0, .int .u32 0, .int .u32 0, .int .u32 0] 249 (0, 0)) := by
  rw [hw1]; exact World.alloc_new_at _ _ hb0.symm
 have hB1 : Below w.heap.size w w1 := by
  rw [hw1]; exact (Below.refl w.heap.size w).alloc (Nat.le_refl _) _
 have hs1 : w1.heap.size = b0 + 1 := by rw [hw1]; simp; omega
 clear hw1
 go_wp2_with fail
 have hv1 : (w1.alloc (.cells #[.int .u32 0, .int .u32 0, .int .u32 0, .int .u32 0, .int .u32 0, .int .u32 0, .int .u32 0, .int .u32 0] 249 (0, 0))).heap[b0 + 1]? = some (.cells (arrV .u32 (fillW 4 8 zs 0)) 249 (0, 0)) := World.alloc_new_at _ _ hs1.symm
 have hB1' := hB1.alloc (by omega) (.cells #[.int .u32 0, .int .u32 0, .int .u32 0, .int .u32 0, .int .u32 0, .int .u32 0, .int .u32 0, .int .u32 0] 249 (0, 0))
 refine (words32in_ok 8 (by decide) (b0 + 1) 249 zs (.slice a 32 cap) _ (holds8_below H.out hB1') HZ.out HL.out hv1 (fun w' hw' => holds8_below H.out (hB1'.trans (hw'.below (by omega) hB1'.size)))).mono ?_
 rintro e2 w2 ⟨rfl, hv2, hB2⟩
 have hr2 := (hB2.block b0 (by simp; omega) (by omega)).trans ((Below.heap_alloc _ _ _ (by omega)).trans hr1)
 have hB2' := hB1'.trans (hB2.below (by omega) hB1'.size)
 have hs2 : b0 + 1 < w2.heap.size := (Array.getElem?_eq_some_iff.1 hv2).1
 clear hB2 hr1 hB1 hv1 hB1' hs1
 go_wp2_with fail
 refine (ivs_any _).mono ?_; rintro e3 w3 ⟨rfl, hb3⟩
 have hp3 := (hb3.block (b0 + 1) hs2).trans hv2
 have hr3 := (hb3.block b0 (by omega)).trans hr2
 have hB3 := hB2'.trans (hb3.mono hB2'.size)
 have hs3 : b0 + 1 < w3.heap.size := (Array.getElem?_eq_some_iff.1 hp3).1
 clear hb3 hv2 hr2 hB2' hs2
 go_wp2_with fail
 refine letterW ?_
 intro W hW
 obtain ⟨bv, hbv⟩ : ∃ bv, w3.heap.size = bv := ⟨_, rfl⟩
 have hr : W.heap[b0]? = some (.cells #[.int .u32 0, .int .u32 0, .int .u32 0, .int .u32 0, .int .u32 0, .int .u32 0, .int .u32 0, .int .u32 0] 249 (0, 0)) := by rw [hW]; exact (Below.heap_alloc _ _ _ (by omega)).trans hr3
 have hp : W.heap[b0 + 1]? = some (.cells (arrV .u32 (wordsZ 4 8 zs)) 249 (0, 0)) := by rw [hW]; exact (Below.heap_alloc _ _ _ (by omega)).trans hp3
 have hv : W.heap[bv]? = some (.cells (arrV .u32 (fillG IVs (startF .u32 IVs 4 zs) 0)) 249 (0, 0)) := by rw [hW]; exact World.alloc_new_at _ _ hbv.symm
 have hB : Below w.heap.size w W := by rw [hW]; exact hB3.alloc (by omega) _
 rw [hbv]
 have hbb : b0 + 1 < bv := by omega
 have hsv : bv < W.heap.size := (Array.getElem?_eq_some_iff.1 hv).1
 clear hW hr3 hp3 hB3 hs3 hbv
 have HR := hid hr
 have HP := hid hp
 have HV := hid hv
 have HB := hid hB
 clear hr hp hv hB
 go_loopw [18] (fun i wr => ∃ j : Nat, i = .int .i64 j ∧ j ≤ 8 ∧ wr.heap[bv]? = some (.cells (arrV .u32 (fillG IVs (startF .u32 IVs 4 zs) j)) 249 (0, 0)) ∧ But bv W wr) (fun i _ => 8 - (intOf i).toNat)
 case atStart => exact ⟨0, rfl, Nat.zero_le _, HV.out, But.refl _ _⟩
 case round =>
  obtain ⟨j, rfl, hj, hv, hB⟩ := hrel
  have hsz := hB.size
  have HVr := hid hv
  have HBr := hid hB
  have HBw := hid (HB.out.trans (hB.below (by omega) HB.out.size))
  have hvs : bv < wr.heap.size := (Array.getElem?_eq_some_iff.1 hv).1
  by_cases hlt : j < 8
  ·have c2 : wr.cell? ⟨bv, j, none⟩ = some (.int .u32 (wd IVs j)) := by
    rw [cellOfRow hv, arrV_get (n := 8) (by rw [fillG_length]; rfl) (by omega), fillG_later _ _ _ _ (Nat.le_refl _)]
   have c1 : wr.cell? ⟨b0 + 1, j, none⟩ = some (.int .u32 (valZ zs (4 * j) 4)) := by
    rw [cellOfRow ((hB.block (b0 + 1) (by omega) (by omega)).trans HP.out), arrV_get (n := 8) (by simp [wordsZ]) (by omega), wd_wordsZ _ _ _ hlt]
   have f2 : ∀ o, wr.frozen? ⟨bv, o, none⟩ = false := (rowFacts hv).2
   have q1 : b0 + 1 < wr.heap.size := by omega
   clear hv hB
   go_wp2_with fail
   refine wp_region_pop_q (by dsimp only [List.dropLast]) (by rfl) (by rfl) (by kernel_rfl) (by kernel_rfl) (by kernel_rfl) (by kernel_rfl) ?_
   repeat (go_big_quiet_step (fail))
   refine wpQuiet_nil ?_
   intro _ hw'
   obtain ⟨n1, rfl⟩ := hw'
   go_wp2
   exact ⟨⟨j + 1, rfl, by omega, by rw [fillG, ← arrV_set]; exact block_setCell (w := wr.drewN n1) HVr.out _, (HBr.out.drewN n1).set _ _⟩, by simp [intOf]; omega⟩
  ·obtain rfl : j = 8 := by omega
   have hW := startL_words (k := .u32) (N := 32) (fun z => IntKind.wrap_u32 z) IVs 4 zs
   have hr5 := (hB.block b0 (by omega) (by omega)).trans HR.out
   have hall : (fillG IVs (startF .u32 IVs 4 zs) 8) = startL .u32 IVs 4 zs := fillG_all _ _
   rw [hall] at hv
   clear hB HVr hall
   go_wp2_with ((with_reducible show wpList _ _ _ (Oper.mk (some 30) _ _ _ _ _ :: _) _ _); refine wpList_load_row rfl 249 _ rfl (bv) rfl _ _ _ _ hv Tryz.underlying249 rfl (by rw [arrV_size, hW.1]; kernel_rfl) ?_; refine wpList_store_row rfl 249 _ _ rfl b0 (arrV .u32 (startL .u32 IVs 4 zs)) rfl rfl 249 _ hr5 (by rw [arrV_size, hW.1]; kernel_rfl) (by rw [arrV_size, hW.1]; rfl) arrV_all ?_)
   exact bodyPost_ret (results_row_tmp rfl _ _ _ _ _ _ _ rfl (setRow_heap _ _ _ _ _ _ hr5) Tryz.underlying249 rfl (by rw [arrV_size, hW.1]; kernel_rfl)) rfl ⟨rfl, below_setRow (HBw.out.mono (by omega)) (by omega) _⟩
theorem refStart32 (zs : List Int) (v : Value) (w : World) (h : Holds8 w v zs) (hz : ∀ z ∈ zs, 0 ≤ z ∧ z ≤ 255) (hl : zs.length = 32) :
  Calls Tryz.prog 179 #[v] w fun e w' => e = .returned (.tuple #[.agg (arrV .u32 (startL .u32 IVs 4 zs)), .int .i64 0]) ∧ Below w.heap.size w w' := by
 obtain ⟨a, cap, rfl⟩ := h.slice
 obtain ⟨b0, hb0⟩ : ∃ b0, w.heap.size = b0 := ⟨_, rfl⟩
 have H := hid h
 have HZ := hid hz
 have HL := hid hl
 rw [hl] at H ⊢
 clear h hz hl
 go_enter Tryz.func179, Tryz.ntmps179
 go_wp2_with fail
 refine (refIVs_any _).mono ?_; rintro e3 w3 ⟨rfl, hb3⟩
 have hr3 := (hb3.block b0 (by simp; omega)).trans ((Below.heap_alloc _ _ _ (by simp; omega)).trans (World.alloc_new_at _ _ hb0.symm))
 have hv3 := (hb3.block (b0 + 1) (by simp; omega)).trans (World.alloc_new_at _ _ (by simp; omega))
 have hB3 : Below w.heap.size w w3 := (((Below.refl w.heap.size w).alloc (Nat.le_refl _) _).alloc (by simp) _).trans (hb3.mono (by simp; omega))
 have hs3 : b0 + 1 < w3.heap.size := by have := hb3.size; simp at this; omega
 clear hb3
 go_wp2_with ((with_reducible show wpList _ _ _ (Oper.mk none (Op.store 249 _ _) _ _ _ _ :: _) _ _); refine wpList_store_row rfl 249 _ _ rfl (b0 + 1) #[.int .u32 1779033703, .int .u32 3144134277, .int .u32 1013904242, .int .u32 2773480762, .int .u32 1359893119, .int .u32 2600822924, .int .u32 528734635, .int .u32 1541459225] rfl rfl 249 _ hv3 (by kernel_rfl) (by kernel_rfl) (by kernel_rfl) ?_)
 refine letterW ?_
 intro W hW
 have hr : W.heap[b0]? = some (.cells #[.int .u32 0, .int .u32 0, .int .u32 0, .int .u32 0, .int .u32 0, .int .u32 0, .int .u32 0, .int .u32 0] 249 (0, 0)) := by rw [hW]; exact (setRow_other _ _ _ _ (by omega)).trans hr3
 have hv : W.heap[b0 + 1]? = some (.cells (arrV .u32 (fillG IVs (startF .u32 IVs 4 zs) 0)) 249 (0, 0)) := by rw [hW]; exact setRow_heap _ _ _ _ _ _ hv3
 have hB : Below w.heap.size w W := by rw [hW]; exact below_setRow hB3 (by omega) _
 have hsv : b0 + 1 < W.heap.size := (Array.getElem?_eq_some_iff.1 hv).1
 clear hW hr3 hv3 hB3 hs3
 have HR := hid hr
 have HV := hid hv
 have HB := hid hB
 clear hr hv hB
 go_loopw [5] (fun i wr => ∃ j : Nat, i = .int .i64 j ∧ j ≤ 8 ∧ wr.heap[b0 + 1]? = some (.cells (arrV .u32 (fillG IVs (startF .u32 IVs 4 zs) j)) 249 (0, 0)) ∧ But (b0 + 1) W wr) (fun i _ => 8 - (intOf i).toNat)
 case atStart => exact ⟨0, rfl, Nat.zero_le _, HV.out, But.refl _ _⟩
 case round =>
  obtain ⟨j, rfl, hj, hv, hB⟩ := hrel
  have hsz := hB.size
  have HVr := hid hv
  have HBr := hid hB
  have HBw := hid (HB.out.trans (hB.below (by omega) HB.out.size))
  by_cases hlt : j < 8
  ·have c2 : wr.cell? ⟨b0 + 1, j, none⟩ = some (.int .u32 (wd IVs j)) := by
    rw [cellOfRow hv, arrV_get (n := 8) (by rw [fillG_length]; rfl) (by omega), fillG_later _ _ _ _ (Nat.le_refl _)]
   have f2 : ∀ o, wr.frozen? ⟨b0 + 1, o, none⟩ = false := (rowFacts hv).2
   have e9 : ((4 * j : Nat) : Int) = 4 * (j : Int) := by omega
   have HLd := hid (fun n => refLoad4_ok zs (.slice a 32 cap) (4 * j) (wr.drewN n) (holds8_below H.out (HBw.out.trans (Below.drewN' n))) HZ.out (by have := HL.out; omega) (by have := HL.out; omega))
   have e8 : IntKind.i64.wrap (4 * (j : Int)) = ((4 * j : Nat) : Int) := by rw [IntKind.wrap_i64]; omega
   have hS := hid (show startF .u32 IVs 4 zs j = bits .xor .u32 (wd IVs j) (valZ zs (4 * j) 4) from rfl)
   generalize hk4 : 4 * j = k4 at *
   clear hv hB hk4 e9
   go_wp2_with fail
   refine wp_region_pop_q (by dsimp only [List.dropLast]) (by rfl) (by rfl) (by kernel_rfl) (by kernel_rfl) (by kernel_rfl) (by kernel_rfl) ?_
   repeat (go_big_quiet_step (exact Calls.quiet_of (HLd.out _)))
   refine wpQuiet_nil ?_
   intro _ hw'
   obtain ⟨n1, rfl⟩ := hw'
   go_wp2
   exact ⟨⟨j + 1, rfl, by omega, by rw [fillG, ← arrV_set, hS.out]; exact block_setCell (w := wr.drewN n1) HVr.out _, (HBr.out.drewN n1).set _ _⟩, by simp [intOf]; omega⟩
  ·obtain rfl : j = 8 := by omega
   have hW := startL_words (k := .u32) (N := 32) (fun z => IntKind.wrap_u32 z) IVs 4 zs
   have hr5 := (hB.block b0 (by omega) (by omega)).trans HR.out
   have hall : (fillG IVs (startF .u32 IVs 4 zs) 8) = startL .u32 IVs 4 zs := fillG_all _ _
   rw [hall] at hv
   clear hB HVr hall
   go_wp2_with ((with_reducible show wpList _ _ _ (Oper.mk (some 31) _ _ _ _ _ :: _) _ _); refine wpList_load_row rfl 249 _ rfl (b0 + 1) rfl _ _ _ _ hv Tryz.underlying249 rfl (by rw [arrV_size, hW.1]; kernel_rfl) ?_; refine wpList_store_row rfl 249 _ _ rfl b0 (arrV .u32 (startL .u32 IVs 4 zs)) rfl rfl 249 _ hr5 (by rw [arrV_size, hW.1]; kernel_rfl) (by rw [arrV_size, hW.1]; rfl) arrV_all ?_)
   exact bodyPost_ret (results_row_tmp rfl _ _ _ _ _ _ _ rfl (setRow_heap _ _ _ _ _ _ hr5) Tryz.underlying249 rfl (by rw [arrV_size, hW.1]; kernel_rfl)) rfl ⟨rfl, below_setRow (HBw.out.mono (by omega)) (by omega) _⟩
end Go.Proofs.YtchepcilkcdemaaGreat
