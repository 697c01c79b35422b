/- A block's words, by the program and by the reference: the big kind. No condition. -/
import Derived.Test.YtahenngmaoellaaN07
import Derived.Test.YtahenngmaoellaaN17
set_option linter.all false
set_option maxRecDepth 100000
set_option maxHeartbeats 8000000
namespace Go.Proofs.Ytahenngmaoellaa
open Go.ChangeShapes Go.WideShapes Go.ChangeAt Go.RowKit Go.Joins Go.Shelf Go.Maps
open Go.Lib (hid)
attribute [local go_sem] Oper.semAt_some
/-- c words of n bytes each. -/
def wordsZ (n c : Nat) (zs : List Int) : List Int := (List.range c).map fun i => valZ zs (n * i) n
/-- The first j of c words have been laid. -/
def fillW (n c : Nat) (zs : List Int) : Nat → List Int
 | 0 => List.replicate c 0
 | j + 1 => (fillW n c zs j).set j (valZ zs (n * j) n)
theorem fillW_length (n c : Nat) (zs : List Int) : ∀ j, (fillW n c zs j).length = c
 | 0 => by simp [fillW]
 | j + 1 => by simp [fillW, fillW_length n c zs j]
theorem fillW_at (n c : Nat) (zs : List Int) : ∀ j i, i < j → i < c → (fillW n c zs j)[i]? = some (valZ zs (n * i) n)
 | j + 1, i, h, hc => by
  simp only [fillW]
  by_cases e : i = j
  ·subst e; rw [List.getElem?_set_self (by rw [fillW_length]; exact hc)]
  ·rw [List.getElem?_set_ne (Ne.symm e)]
   exact fillW_at n c zs j i (by omega) hc
theorem fillW_all (n c : Nat) (zs : List Int) : fillW n c zs c = wordsZ n c zs := by
 apply List.ext_getElem?
 intro i
 by_cases h : i < c
 ·rw [fillW_at n c zs c i h h]; simp [wordsZ, h]
 ·rw [List.getElem?_eq_none (by rw [fillW_length]; omega), List.getElem?_eq_none (by simp [wordsZ]; omega)]
theorem wordsZ_words (n c : Nat) {zs : List Int} (hz : ∀ z ∈ zs, 0 ≤ z ∧ z ≤ 255) (hl : zs.length = n * c) : Words (8 * n) c (wordsZ n c zs) := by
 refine ⟨by simp [wordsZ], fun x hx => ?_⟩
 simp only [wordsZ, List.mem_map, List.mem_range] at hx
 obtain ⟨i, hi, rfl⟩ := hx
 have : n * i + n ≤ n * c := by
  rw [← Nat.mul_succ]; exact Nat.mul_le_mul_left n hi
 exact valZ_bounds hz n (by omega)
theorem Holds8.slice {w : World} {v : Value} {zs : List Int} (h : Holds8 w v zs) : ∃ a cap, v = .slice a zs.length cap := by
 obtain ⟨a, cap, e, -⟩ := h
 exact ⟨a, cap, e⟩
theorem load64w_ok (zs : List Int) (v : Value) (at_ : Nat) (w : World) (h : Holds8 w v zs) (hz : ∀ z ∈ zs, 0 ≤ z ∧ z ≤ 255) (hl : at_ + 8 ≤ zs.length) (hm : zs.length ≤ 4294967296) :
  Calls Try.prog 62 #[v, .int .i64 (at_ : Nat)] w fun e w' => e = .returned (.tuple #[.int .u64 (valZ zs at_ 8), .int .i64 0]) ∧ w' = w := by
 have H := hid (load64_ok zs v at_ w h hz hl hm)
 go_enter Try.func62, Try.ntmps62
 go_wp2_with fail
 refine H.out.mono ?_; rintro e w1 ⟨rfl, rfl⟩
 go_wp2
 exact bodyPost_ret (results_tmp2 rfl _ _ _) rfl ⟨rfl, rfl⟩
theorem words64_ok (zs : List Int) (v : Value) (w : World) (h : Holds8 w v zs) (hz : ∀ z ∈ zs, 0 ≤ z ∧ z ≤ 255) (hl : zs.length = 128) :
  Calls Try.prog 63 #[v] w fun e w' => e = .returned (.tuple #[.agg (arrV .u64 (wordsZ 8 16 zs)), .int .i64 0]) ∧ Below w.heap.size w w' := by
 obtain ⟨a, cap, rfl⟩ := h.slice
 obtain ⟨b0, hb0⟩ : ∃ b0, w.heap.size = b0 := ⟨_, rfl⟩
 have H := hid h
 have HZ := hid hz
 have HL := hid hl
 rw [hl] at H ⊢
 clear h hz hl
 go_enter Try.func63, Try.ntmps63
 go_wp2_with fail
 refine letterW ?_
 intro W hW
 have hr : W.heap[b0]? = some (.cells #[.int .u64 0, .int .u64 0, .int .u64 0, .int .u64 0, .int .u64 0, .int .u64 0, .int .u64 0, .int .u64 0, .int .u64 0, .int .u64 0, .int .u64 0, .int .u64 0, .int .u64 0, .int .u64 0, .int .u64 0, .int .u64 0] 134 (0, 0)) := by
  rw [hW]; exact (Below.heap_alloc _ _ _ (by simp; omega)).trans (World.alloc_new_at _ _ hb0.symm)
 have hv : W.heap[b0 + 1]? = some (.cells (arrV .u64 (fillW 8 16 zs 0)) 134 (0, 0)) := by
  rw [hW]; exact World.alloc_new_at _ _ (by simp; omega)
 have hB : Below w.heap.size w W := by
  rw [hW]; exact ((Below.refl w.heap.size w).alloc (Nat.le_refl _) _).alloc (by simp) _
 have hs1 : b0 + 1 < W.heap.size := (Array.getElem?_eq_some_iff.1 hv).1
 clear hW
 have HR := hid hr
 have HV := hid hv
 have HB := hid hB
 clear hr hv hB
 go_loopw [10] (fun i wr => ∃ j : Nat, i = .int .i64 j ∧ j ≤ 16 ∧ wr.heap[b0 + 1]? = some (.cells (arrV .u64 (fillW 8 16 zs j)) 134 (0, 0)) ∧ But (b0 + 1) W wr) (fun i _ => 16 - (intOf i).toNat)
 case atStart => exact ⟨0, rfl, Nat.zero_le _, HV.out, But.refl _ _⟩
 case round =>
  obtain ⟨j, rfl, hj, hv, hB⟩ := hrel
  have hsz := hB.size
  have HVr := hid hv
  have HBr := hid hB
  have HBw := hid (HB.out.trans (hB.below (by omega) HB.out.size))
  by_cases hlt : j < 16
  ·have c2 : wr.cell? ⟨b0 + 1, j, none⟩ = some (.int .u64 (wd (fillW 8 16 zs j) j)) := (cellOfRow hv _).trans (arrV_get (fillW_length _ _ _ _) (by omega))
   have f2 : ∀ o, wr.frozen? ⟨b0 + 1, o, none⟩ = false := (rowFacts hv).2
   have e8 : IntKind.i64.wrap (8 * (j : Int)) = ((8 * j : Nat) : Int) := by rw [IntKind.wrap_i64]; omega
   have HLd := hid (load64w_ok zs (.slice a 128 cap) (8 * j) wr (holds8_below H.out HBw.out) HZ.out (by have := HL.out; omega) (by have := HL.out; omega))
   have e9 : ((8 * j : Nat) : Int) = 8 * (j : Int) := by omega
   have hrange : 8 * (j : Int) ≤ 128 := by omega
   rw [e9] at HLd
   clear hv hB e8 e9
   go_wp2_with fail
   refine HLd.out.mono ?_; rintro e2 w2 ⟨rfl, rfl⟩
   go_wp2
   exact ⟨⟨j + 1, rfl, by omega, by rw [fillW, ← arrV_set]; exact block_setCell HVr.out _, HBr.out.set _ _⟩, by simp [intOf]; omega⟩
  ·obtain rfl : j = 16 := by omega
   have hW := wordsZ_words 8 16 HZ.out HL.out
   have hr5 := (hB.block b0 (by omega) (by omega)).trans HR.out
   rw [fillW_all] at hv
   clear hB HVr
   go_wp2_with ((with_reducible show wpList _ _ _ (Oper.mk (some 23) _ _ _ _ _ :: _) _ _); refine wpList_load_row rfl 134 _ rfl (b0 + 1) rfl _ _ _ _ hv Try.underlying134 rfl (by rw [arrV_size, hW.1]; kernel_rfl) ?_; refine wpList_store_row rfl 134 _ _ rfl b0 (arrV .u64 (wordsZ 8 16 zs)) rfl rfl 134 _ hr5 (by rw [arrV_size, hW.1]; kernel_rfl) (by rw [arrV_size, hW.1]; rfl) arrV_all ?_)
   exact bodyPost_ret (results_row_tmp rfl _ _ _ _ _ _ _ rfl (setRow_heap _ _ _ _ _ _ hr5) Try.underlying134 rfl (by rw [arrV_size, hW.1]; kernel_rfl)) rfl ⟨rfl, below_setRow (HBw.out.mono (by omega)) (by omega) _⟩
/-- The first j places of a list, laid anew. -/
def fillG (L : List Int) (f : Nat → Int) : Nat → List Int
 | 0 => L
 | j + 1 => (fillG L f j).set j (f j)
theorem fillG_length (L : List Int) (f : Nat → Int) : ∀ j, (fillG L f j).length = L.length
 | 0 => rfl
 | j + 1 => by simp [fillG, fillG_length L f j]
theorem fillG_at (L : List Int) (f : Nat → Int) : ∀ j i, i < j → i < L.length → (fillG L f j)[i]? = some (f i)
 | j + 1, i, h, hc => by
  simp only [fillG]
  by_cases e : i = j
  ·subst e; rw [List.getElem?_set_self (by rw [fillG_length]; exact hc)]
  ·rw [List.getElem?_set_ne (Ne.symm e)]
   exact fillG_at L f j i (by omega) hc
theorem fillG_later (L : List Int) (f : Nat → Int) : ∀ j i, j ≤ i → wd (fillG L f j) i = wd L i
 | 0, i, _ => rfl
 | j + 1, i, h => by
  have ih := fillG_later L f j i (by omega)
  simp only [fillG]
  unfold wd at *
  rw [List.getD_eq_getElem?_getD, List.getElem?_set_ne (by omega), ← List.getD_eq_getElem?_getD]
  exact ih
theorem fillG_all (L : List Int) (f : Nat → Int) : fillG L f L.length = (List.range L.length).map f := by
 apply List.ext_getElem?
 intro i
 by_cases h : i < L.length
 ·rw [fillG_at L f _ i h h]; simp [h]
 ·rw [List.getElem?_eq_none (by rw [fillG_length]; omega), List.getElem?_eq_none (by simp; omega)]
/-- The chain at first. -/
def startF (k : IntKind) (iv : List Int) (n : Nat) (zs : List Int) (i : Nat) : Int := bits .xor k (wd iv i) (valZ zs (n * i) n)
def startL (k : IntKind) (iv : List Int) (n : Nat) (zs : List Int) : List Int := (List.range 8).map (startF k iv n zs)
theorem startL_words {k : IntKind} {N : Nat} (hm : ∀ z, k.wrap z = z % 2 ^ N) (iv : List Int) (n : Nat) (zs : List Int) : Words N 8 (startL k iv n zs) := by
 refine ⟨by simp [startL], fun x hx => ?_⟩
 simp only [startL, List.mem_map, List.mem_range] at hx
 obtain ⟨i, hi, rfl⟩ := hx
 exact bits_bound _ _ _ hm _ _
theorem start64_ok (zs : List Int) (v : Value) (w : World) (h : Holds8 w v zs) (hz : ∀ z ∈ zs, 0 ≤ z ∧ z ≤ 255) (hl : zs.length = 64) :
  Calls Try.prog 55 #[v] w fun e w' => e = .returned (.tuple #[.agg (arrV .u64 (startL .u64 IVb 8 zs)), .int .i64 0]) ∧ Below w.heap.size w w' := by
 obtain ⟨a, cap, rfl⟩ := h.slice
 obtain ⟨b0, hb0⟩ : ∃ b0, w.heap.size = b0 := ⟨_, rfl⟩
 have H := hid h
 have HZ := hid hz
 have HL := hid hl
 rw [hl] at H ⊢
 clear h hz hl
 go_enter Try.func55, Try.ntmps55
 go_wp2_with fail
 refine (ivb_any _).mono ?_; rintro e1 w1 ⟨rfl, hb1⟩
 have hr0 := (hb1.block b0 (by simp; omega)).trans (World.alloc_new_at _ _ hb0.symm)
 have hs0 : b0 + 1 ≤ w1.heap.size := by have := hb1.size; simp at this; omega
 have hB0 : Below w.heap.size w w1 := ((Below.refl w.heap.size w).alloc (Nat.le_refl _) _).trans (hb1.mono (by simp))
 clear hb1
 go_wp2_with fail
 refine letterW ?_
 intro W hW
 obtain ⟨bv, hbv⟩ : ∃ bv, w1.heap.size = bv := ⟨_, rfl⟩
 have hr : W.heap[b0]? = some (.cells #[.int .u64 0, .int .u64 0, .int .u64 0, .int .u64 0, .int .u64 0, .int .u64 0, .int .u64 0, .int .u64 0] 114 (0, 0)) := by
  rw [hW]; exact (Below.heap_alloc _ _ _ (by omega)).trans hr0
 have hv : W.heap[bv]? = some (.cells (arrV .u64 (fillG IVb (startF .u64 IVb 8 zs) 0)) 114 (0, 0)) := by
  rw [hW]; exact World.alloc_new_at _ _ hbv.symm
 have hB : Below w.heap.size w W := by
  rw [hW]; exact hB0.alloc (by omega) _
 rw [hbv]
 have hbb : b0 + 1 ≤ bv := by omega
 clear hW hr0 hs0 hB0 hbv
 have hs1 : bv < W.heap.size := (Array.getElem?_eq_some_iff.1 hv).1
 have HR := hid hr
 have HV := hid hv
 have HB := hid hB
 clear hr hv hB
 go_loopw [13] (fun i wr => ∃ j : Nat, i = .int .i64 j ∧ j ≤ 8 ∧ wr.heap[bv]? = some (.cells (arrV .u64 (fillG IVb (startF .u64 IVb 8 zs) j)) 114 (0, 0)) ∧ But bv W wr) (fun i _ => 8 - (intOf i).toNat)
 case atStart => exact ⟨0, rfl, Nat.zero_le _, HV.out, But.refl _ _⟩
 case round =>
  obtain ⟨j, rfl, hj, hv, hB⟩ := hrel
  have hsz := hB.size
  have HVr := hid hv
  have HBr := hid hB
  have HBw := hid (HB.out.trans (hB.below (by omega) HB.out.size))
  have hvs : bv < wr.heap.size := (Array.getElem?_eq_some_iff.1 hv).1
  by_cases hlt : j < 8
  ·have c2 : wr.cell? ⟨bv, j, none⟩ = some (.int .u64 (wd IVb j)) := by
    rw [cellOfRow hv, arrV_get (n := 8) (by rw [fillG_length]; rfl) (by omega), fillG_later _ _ _ _ (Nat.le_refl _)]
   have f2 : ∀ o, wr.frozen? ⟨bv, o, none⟩ = false := (rowFacts hv).2
   have e8 : IntKind.i64.wrap (8 * (j : Int)) = ((8 * j : Nat) : Int) := by rw [IntKind.wrap_i64]; omega
   have HLd := hid (load64w_ok zs (.slice a 64 cap) (8 * j) wr (holds8_below H.out HBw.out) HZ.out (by have := HL.out; omega) (by have := HL.out; omega))
   have e9 : ((8 * j : Nat) : Int) = 8 * (j : Int) := by omega
   have hrange : 8 * (j : Int) ≤ 64 := by omega
   rw [e9] at HLd
   clear hv hB e8 e9
   go_wp2_with fail
   refine HLd.out.mono ?_; rintro e2 w2 ⟨rfl, rfl⟩
   go_wp2
   exact ⟨⟨j + 1, rfl, by omega, by rw [fillG, ← arrV_set]; exact block_setCell HVr.out _, HBr.out.set _ _⟩, by simp [intOf]; omega⟩
  ·obtain rfl : j = 8 := by omega
   have hW := startL_words (k := .u64) (N := 64) (fun z => IntKind.wrap_u64 z) IVb 8 zs
   have hr5 := (hB.block b0 (by omega) (by omega)).trans HR.out
   have hall : (fillG IVb (startF .u64 IVb 8 zs) 8) = startL .u64 IVb 8 zs := fillG_all _ _
   rw [hall] at hv
   clear hB HVr hall
   go_wp2_with ((with_reducible show wpList _ _ _ (Oper.mk (some 30) _ _ _ _ _ :: _) _ _); refine wpList_load_row rfl 114 _ rfl bv rfl _ _ _ _ hv Try.underlying114 rfl (by rw [arrV_size, hW.1]; kernel_rfl) ?_; refine wpList_store_row rfl 114 _ _ rfl b0 (arrV .u64 (startL .u64 IVb 8 zs)) rfl rfl 114 _ hr5 (by rw [arrV_size, hW.1]; kernel_rfl) (by rw [arrV_size, hW.1]; rfl) arrV_all ?_)
   exact bodyPost_ret (results_row_tmp rfl _ _ _ _ _ _ _ rfl (setRow_heap _ _ _ _ _ _ hr5) Try.underlying114 rfl (by rw [arrV_size, hW.1]; kernel_rfl)) rfl ⟨rfl, below_setRow (HBw.out.mono (by omega)) (by omega) _⟩
theorem load4_ok (zs : List Int) (v : Value) (at_ : Nat) (w : World) (h : Holds8 w v zs) (hz : ∀ z ∈ zs, 0 ≤ z ∧ z ≤ 255) (hl : at_ + 4 ≤ zs.length) (hm : zs.length ≤ 4294967296) :
  Calls Try.prog 71 #[v, .int .i64 (at_ : Nat), .int .i64 4] w fun e w' => e = .returned (.tuple #[.int .u64 (valZ zs at_ 4), .int .i64 0]) ∧ w' = w := by
 obtain ⟨a, cap, rfl, h⟩ := h
 obtain ⟨b, off, rfl, h1, h2⟩ := h.resolve_left (fun e => by rw [e] at hl; simp at hl)
 have HC := hid h2
 clear h h2
 go_enter Try.func71, Try.ntmps71
 go_wp2_with fail
 go_loopw [8, 25] (fun s i wr => ∃ k : Nat, s = .int .u64 (valZ zs at_ k) ∧ i = .int .i64 k ∧ w = wr ∧ k ≤ 4) (fun _ i _ => 4 - (intOf i).toNat)
 case atStart => exact ⟨0, rfl, rfl, rfl, by omega⟩
 case round =>
  obtain ⟨k, rfl, rfl, rfl, hk⟩ := hrel
  by_cases hlt : k < 4
  ·have hc := HC.out (at_ + k) (by omega)
   have hv := orZ (valZ zs at_ k) (nthz zs (at_ + k)) k (by omega) (valZ_bounds hz k (by omega)) (mem_nthz hz (by omega)).2
   go_wp2
   exact ⟨⟨k + 1, rfl, rfl, by trivial, by omega⟩, by simp [intOf]; omega⟩
  ·obtain rfl : k = 4 := by omega
   go_wp2
   exact bodyPost_ret (results_tmp2 (fn := Try.f71) (t := 6) (u := 7) rfl _ _ _) rfl ⟨rfl, rfl⟩
theorem load32w_ok (zs : List Int) (v : Value) (at_ : Nat) (w : World) (h : Holds8 w v zs) (hz : ∀ z ∈ zs, 0 ≤ z ∧ z ≤ 255) (hl : at_ + 4 ≤ zs.length) (hm : zs.length ≤ 4294967296) :
  Calls Try.prog 74 #[v, .int .i64 (at_ : Nat)] w fun e w' => e = .returned (.tuple #[.int .u32 (valZ zs at_ 4), .int .i64 0]) ∧ w' = w := by
 have H := hid (load4_ok zs v at_ w h hz hl hm)
 have hb := valZ_bounds hz (at_ := at_) 4 hl
 simp only [Nat.reduceMul, Int.reducePow] at hb
 obtain ⟨x, hx⟩ : ∃ x, valZ zs at_ 4 = x := ⟨_, rfl⟩
 rw [hx] at H hb ⊢
 obtain ⟨hb1, hb2⟩ := hb
 clear hx
 go_enter Try.func74, Try.ntmps74
 go_wp2_with fail
 refine H.out.mono ?_; rintro e w1 ⟨rfl, rfl⟩
 go_wp2
 exact bodyPost_ret (results_tmp2 rfl _ _ _) rfl ⟨rfl, rfl⟩
theorem right_ok (n : Nat) (a : Option Addr) (cap : Nat) (w : World) : Calls Try.prog 66 #[.slice a n cap, .int .i64 n] w fun e w' => e = .returned (.int .i64 0) ∧ w' = w := by
 go_enter Try.func66, Try.ntmps66
 go_wp2
 go_ret
 exact ⟨rfl, rfl⟩
/-- words: into a row of c words that lies in a block. -/
theorem words32in_ok (c : Nat) (hc : c ≤ 16) (bv : Nat) (T : TypeId) (zs : List Int) (v : Value) (w : World) (h : Holds8 w v zs) (hz : ∀ z ∈ zs, 0 ≤ z ∧ z ≤ 255) (hl : zs.length = 4 * c) (hv : w.heap[bv]? = some (.cells (arrV .u32 (fillW 4 c zs 0)) T (0, 0)))
  (hne : ∀ w', But bv w w' → Holds8 w' v zs) :
  Calls Try.prog 67 #[.slice (some ⟨bv, 0, none⟩) c c, v] w fun e w' => e = .returned (.tuple #[]) ∧ w'.heap[bv]? = some (.cells (arrV .u32 (wordsZ 4 c zs)) T (0, 0)) ∧ But bv w w' := by
 have HN := hid hne
 have HZ := hid hz
 have HL := hid hl
 have HV := hid hv
 clear h hz hl hv hne
 go_enter Try.func67, Try.ntmps67
 go_wp2_with fail
 go_loopw [7] (fun i wr => ∃ j : Nat, i = .int .i64 j ∧ j ≤ c ∧ wr.heap[bv]? = some (.cells (arrV .u32 (fillW 4 c zs j)) T (0, 0)) ∧ But bv w wr) (fun i _ => c - (intOf i).toNat)
 case atStart => exact ⟨0, rfl, Nat.zero_le _, HV.out, But.refl _ _⟩
 case round =>
  obtain ⟨j, rfl, hj, hv, hB⟩ := hrel
  have HVr := hid hv
  have HBr := hid hB
  by_cases hlt : j < c
  ·have c2 : wr.cell? ⟨bv, j, none⟩ = some (.int .u32 (wd (fillW 4 c zs j) j)) := (cellOfRow hv _).trans (arrV_get (fillW_length _ _ _ _) hlt)
   have f2 : ∀ o, wr.frozen? ⟨bv, o, none⟩ = false := (rowFacts hv).2
   have e9 : ((4 * j : Nat) : Int) = 4 * (j : Int) := by omega
   have HLd := hid (load32w_ok zs v (4 * j) wr (HN.out wr hB) HZ.out (by have := HL.out; omega) (by have := HL.out; omega))
   have hrange : 4 * (j : Int) ≤ 64 := by omega
   rw [e9] at HLd
   clear hv hB e9
   go_wp2_with fail
   refine HLd.out.mono ?_; rintro e2 w2 ⟨rfl, rfl⟩
   go_wp2
   exact ⟨⟨j + 1, rfl, by omega, by rw [fillW, ← arrV_set]; exact block_setCell HVr.out _, HBr.out.set _ _⟩, by simp [intOf]; omega⟩
  ·obtain rfl : j = c := by omega
   rw [fillW_all] at hv
   have HV2 := hid hv
   clear hv hB
   go_wp2
   exact bodyPost_end (results_none rfl _ _ _) rfl ⟨rfl, HV2.out, HBr.out⟩
theorem words32_ok (zs : List Int) (v : Value) (w : World) (h : Holds8 w v zs) (hz : ∀ z ∈ zs, 0 ≤ z ∧ z ≤ 255) (hl : zs.length = 64) :
  Calls Try.prog 69 #[v] w fun e w' => e = .returned (.tuple #[.agg (arrV .u32 (wordsZ 4 16 zs)), .int .i64 0]) ∧ Below w.heap.size w w' := by
 obtain ⟨a, cap, rfl⟩ := h.slice
 obtain ⟨b0, hb0⟩ : ∃ b0, w.heap.size = b0 := ⟨_, rfl⟩
 have H := hid h
 have HZ := hid hz
 have HL := hid hl
 rw [hl] at H ⊢
 clear h hz hl
 go_enter Try.func69, Try.ntmps69
 go_wp2_with fail
 refine (right_ok 64 a cap _).mono ?_; rintro e1 w1 ⟨rfl, hw1⟩
 have hr : w1.heap[b0]? = some (.cells #[.int .u32 0, .int .u32 0, .int .u32 0, .int .u32 0, .int .u32 0, .int .u32 0, .int .u32 0, .int .u32 0, .int .u32 0, .int .u32 0, .int .u32 0, .int .u32 0, .int .u32 0, .int .u32 0, .int .u32 0, .int .u32 0] 143 (0, 0)) := by
  rw [hw1]; exact (Below.heap_alloc _ _ _ (by simp; omega)).trans (World.alloc_new_at _ _ hb0.symm)
 have hv : w1.heap[b0 + 1]? = some (.cells (arrV .u32 (fillW 4 16 zs 0)) 143 (0, 0)) := by
  rw [hw1]; exact World.alloc_new_at _ _ (by simp; omega)
 have hB : Below w.heap.size w w1 := by
  rw [hw1]; exact ((Below.refl w.heap.size w).alloc (Nat.le_refl _) _).alloc (by simp) _
 clear hw1
 have HB := hid hB
 have HR := hid hr
 have HV := hid hv
 clear hr hv hB
 go_wp2_with fail
 refine (words32in_ok 16 (by decide) (b0 + 1) 143 zs (.slice a 64 cap) w1 (holds8_below H.out HB.out) HZ.out HL.out HV.out (fun w' hw' => holds8_below H.out (HB.out.trans (hw'.below (by omega) HB.out.size)))).mono ?_
 rintro e2 w2 ⟨rfl, hv2, hB2⟩
 have hW := wordsZ_words 4 16 HZ.out HL.out
 have hr5 := (hB2.block b0 (by have := (Array.getElem?_eq_some_iff.1 HR.out).1; omega) (by omega)).trans HR.out
 have HB5 := hid (HB.out.trans (hB2.below (by omega) HB.out.size))
 clear hB2
 go_wp2_with ((with_reducible show wpList _ _ _ (Oper.mk (some 15) _ _ _ _ _ :: _) _ _); refine wpList_load_row rfl 143 _ rfl (b0 + 1) rfl _ _ _ _ hv2 Try.underlying143 rfl (by rw [arrV_size, hW.1]; kernel_rfl) ?_; refine wpList_store_row rfl 143 _ _ rfl b0 (arrV .u32 (wordsZ 4 16 zs)) rfl rfl 143 _ hr5 (by rw [arrV_size, hW.1]; kernel_rfl) (by rw [arrV_size, hW.1]; rfl) arrV_all ?_)
 exact bodyPost_ret (results_row_tmp rfl _ _ _ _ _ _ _ rfl (setRow_heap _ _ _ _ _ _ hr5) Try.underlying143 rfl (by rw [arrV_size, hW.1]; kernel_rfl)) rfl ⟨rfl, below_setRow (HB5.out.mono (by omega)) (by omega) _⟩
theorem wd_wordsZ (n c : Nat) (zs : List Int) {i : Nat} (hi : i < c) : wd (wordsZ n c zs) i = valZ zs (n * i) n := by
 simp [wd, wordsZ, List.getD_eq_getElem?_getD, hi]
theorem start32_ok (zs : List Int) (v : Value) (w : World) (h : Holds8 w v zs) (hz : ∀ z ∈ zs, 0 ≤ z ∧ z ≤ 255) (hl : zs.length = 32) :
  Calls Try.prog 58 #[v] w fun e w' => e = .returned (.tuple #[.agg (arrV .u32 (startL .u32 IVs 4 zs)), .int .i64 0]) ∧ Below w.heap.size w w' := by
 obtain ⟨a, cap, rfl⟩ := h.slice
 obtain ⟨b0, hb0⟩ : ∃ b0, w.heap.size = b0 := ⟨_, rfl⟩
 have H := hid h
 have HZ := hid hz
 have HL := hid hl
 rw [hl] at H ⊢
 clear h hz hl
 go_enter Try.func58, Try.ntmps58
 go_wp2_with fail
 refine (right_ok 32 a cap _).mono ?_; rintro e1 w1 ⟨rfl, hw1⟩
 have hr1 : w1.heap[b0]? = some (.cells #[.int .u32 0, .int .u32 0, .int .u32 0, .int .u32 0, .int .u32 0, .int .u32 0, .int .u32 0, .int .u32 0] 124 (0, 0)) := by
  rw [hw1]; exact World.alloc_new_at _ _ hb0.symm
 have hB1 : Below w.heap.size w w1 := by
  rw [hw1]; exact (Below.refl w.heap.size w).alloc (Nat.le_refl _) _
 have hs1 : w1.heap.size = b0 + 1 := by rw [hw1]; simp; omega
 clear hw1
 go_wp2_with fail
 have hv1 : (w1.alloc (.cells #[.int .u32 0, .int .u32 0, .int .u32 0, .int .u32 0, .int .u32 0, .int .u32 0, .int .u32 0, .int .u32 0] 124 (0, 0))).heap[b0 + 1]? = some (.cells (arrV .u32 (fillW 4 8 zs 0)) 124 (0, 0)) := World.alloc_new_at _ _ hs1.symm
 have hB1' := hB1.alloc (by omega) (.cells #[.int .u32 0, .int .u32 0, .int .u32 0, .int .u32 0, .int .u32 0, .int .u32 0, .int .u32 0, .int .u32 0] 124 (0, 0))
 refine (words32in_ok 8 (by decide) (b0 + 1) 124 zs (.slice a 32 cap) _ (holds8_below H.out hB1') HZ.out HL.out hv1 (fun w' hw' => holds8_below H.out (hB1'.trans (hw'.below (by omega) hB1'.size)))).mono ?_
 rintro e2 w2 ⟨rfl, hv2, hB2⟩
 have hr2 := (hB2.block b0 (by simp; omega) (by omega)).trans ((Below.heap_alloc _ _ _ (by omega)).trans hr1)
 have hB2' := hB1'.trans (hB2.below (by omega) hB1'.size)
 have hs2 : b0 + 1 < w2.heap.size := (Array.getElem?_eq_some_iff.1 hv2).1
 clear hB2 hr1 hB1 hv1 hB1' hs1
 go_wp2_with fail
 refine (ivs_any _).mono ?_; rintro e3 w3 ⟨rfl, hb3⟩
 have hp3 := (hb3.block (b0 + 1) hs2).trans hv2
 have hr3 := (hb3.block b0 (by omega)).trans hr2
 have hB3 := hB2'.trans (hb3.mono hB2'.size)
 have hs3 : b0 + 1 < w3.heap.size := (Array.getElem?_eq_some_iff.1 hp3).1
 clear hb3 hv2 hr2 hB2' hs2
 go_wp2_with fail
 refine letterW ?_
 intro W hW
 obtain ⟨bv, hbv⟩ : ∃ bv, w3.heap.size = bv := ⟨_, rfl⟩
 have hr : W.heap[b0]? = some (.cells #[.int .u32 0, .int .u32 0, .int .u32 0, .int .u32 0, .int .u32 0, .int .u32 0, .int .u32 0, .int .u32 0] 124 (0, 0)) := by rw [hW]; exact (Below.heap_alloc _ _ _ (by omega)).trans hr3
 have hp : W.heap[b0 + 1]? = some (.cells (arrV .u32 (wordsZ 4 8 zs)) 124 (0, 0)) := by rw [hW]; exact (Below.heap_alloc _ _ _ (by omega)).trans hp3
 have hv : W.heap[bv]? = some (.cells (arrV .u32 (fillG IVs (startF .u32 IVs 4 zs) 0)) 124 (0, 0)) := by rw [hW]; exact World.alloc_new_at _ _ hbv.symm
 have hB : Below w.heap.size w W := by rw [hW]; exact hB3.alloc (by omega) _
 rw [hbv]
 have hbb : b0 + 1 < bv := by omega
 have hsv : bv < W.heap.size := (Array.getElem?_eq_some_iff.1 hv).1
 clear hW hr3 hp3 hB3 hs3 hbv
 have HR := hid hr
 have HP := hid hp
 have HV := hid hv
 have HB := hid hB
 clear hr hp hv hB
 go_loopw [18] (fun i wr => ∃ j : Nat, i = .int .i64 j ∧ j ≤ 8 ∧ wr.heap[bv]? = some (.cells (arrV .u32 (fillG IVs (startF .u32 IVs 4 zs) j)) 124 (0, 0)) ∧ But bv W wr) (fun i _ => 8 - (intOf i).toNat)
 case atStart => exact ⟨0, rfl, Nat.zero_le _, HV.out, But.refl _ _⟩
 case round =>
  obtain ⟨j, rfl, hj, hv, hB⟩ := hrel
  have hsz := hB.size
  have HVr := hid hv
  have HBr := hid hB
  have HBw := hid (HB.out.trans (hB.below (by omega) HB.out.size))
  have hvs : bv < wr.heap.size := (Array.getElem?_eq_some_iff.1 hv).1
  by_cases hlt : j < 8
  ·have c2 : wr.cell? ⟨bv, j, none⟩ = some (.int .u32 (wd IVs j)) := by
    rw [cellOfRow hv, arrV_get (n := 8) (by rw [fillG_length]; rfl) (by omega), fillG_later _ _ _ _ (Nat.le_refl _)]
   have c1 : wr.cell? ⟨b0 + 1, j, none⟩ = some (.int .u32 (valZ zs (4 * j) 4)) := by
    rw [cellOfRow ((hB.block (b0 + 1) (by omega) (by omega)).trans HP.out), arrV_get (n := 8) (by simp [wordsZ]) (by omega), wd_wordsZ _ _ _ hlt]
   have f2 : ∀ o, wr.frozen? ⟨bv, o, none⟩ = false := (rowFacts hv).2
   have q1 : b0 + 1 < wr.heap.size := by omega
   clear hv hB
   go_wp2_with fail
   refine wp_region_pop_q (by dsimp only [List.dropLast]) (by rfl) (by rfl) (by kernel_rfl) (by kernel_rfl) (by kernel_rfl) (by kernel_rfl) ?_
   repeat (go_big_quiet_step (fail))
   refine wpQuiet_nil ?_
   intro _ hw'
   obtain ⟨n1, rfl⟩ := hw'
   go_wp2
   exact ⟨⟨j + 1, rfl, by omega, by rw [fillG, ← arrV_set]; exact block_setCell (w := wr.drewN n1) HVr.out _, (HBr.out.drewN n1).set _ _⟩, by simp [intOf]; omega⟩
  ·obtain rfl : j = 8 := by omega
   have hW := startL_words (k := .u32) (N := 32) (fun z => IntKind.wrap_u32 z) IVs 4 zs
   have hr5 := (hB.block b0 (by omega) (by omega)).trans HR.out
   have hall : (fillG IVs (startF .u32 IVs 4 zs) 8) = startL .u32 IVs 4 zs := fillG_all _ _
   rw [hall] at hv
   clear hB HVr hall
   go_wp2_with ((with_reducible show wpList _ _ _ (Oper.mk (some 30) _ _ _ _ _ :: _) _ _); refine wpList_load_row rfl 124 _ rfl (bv) rfl _ _ _ _ hv Try.underlying124 rfl (by rw [arrV_size, hW.1]; kernel_rfl) ?_; refine wpList_store_row rfl 124 _ _ rfl b0 (arrV .u32 (startL .u32 IVs 4 zs)) rfl rfl 124 _ hr5 (by rw [arrV_size, hW.1]; kernel_rfl) (by rw [arrV_size, hW.1]; rfl) arrV_all ?_)
   exact bodyPost_ret (results_row_tmp rfl _ _ _ _ _ _ _ rfl (setRow_heap _ _ _ _ _ _ hr5) Try.underlying124 rfl (by rw [arrV_size, hW.1]; kernel_rfl)) rfl ⟨rfl, below_setRow (HBw.out.mono (by omega)) (by omega) _⟩
end Go.Proofs.Ytahenngmaoellaa
