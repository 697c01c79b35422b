/- The output of a hasher of words. No condition. -/
import Derived.Test.YtjogmckaakkomaaGreatK33
namespace Go.Proofs.YtjogmckaakkomaaGreat
open Go.ChangeShapes Go.WideShapes Go.ChangeAt Go.RowKit Go.Joins Go.Shelf Go.Maps
attribute [local go_sem] Oper.semAt_some

set_option maxRecDepth 100000 in
set_option maxHeartbeats 4000000 in
theorem out_true (h0 msg : List Int) (node : Bool) (hh : Words 64 8 h0) (hm : ∀ z ∈ msg, 0 ≤ z ∧ z ≤ 255) (p : Nat) (hv : Value) (w : World) (hE : EngAt true w p hv h0 msg) (hlen : (msg.length : Int) ≤ 281474976710656) :
  Calls Tryz.prog 173 #[.pointer (some ⟨p, 0, none⟩), .bool node] w fun e w' => ∃ v, e = .returned v ∧ w'.ownsRow w.heap.size 5 1 v 64 ((outZ true h0 msg node).map encB) ∧ Below w.heap.size w w' := by
 have hps : p < w.heap.size := (Array.getElem?_eq_some_iff.1 hE.1).1
 obtain ⟨hrow, hown⟩ := hE
 have hsum := held_sum (bB_pos true) msg
 have hhl := heldZ_le (bB_pos true) msg
 have hhz := heldZ_bounds (n := bB true) hm
 have hst := stZ_words true hh msg (nbk (bB true) msg.length)
 have hbk := blkZ_held (bB_pos true) msg
 have hout : outZ true h0 msg node = bytesW 8 (compZ true (stZ true h0 msg (nbk (bB true) msg.length)) (padZ 128 (heldZ (bB true) msg)) ((bB true * nbk (bB true) msg.length + (heldZ (bB true) msg).length : Nat) : Int) true node) 8 := by rw [hsum]; unfold outZ; rw [hbk]; rfl
 simp only [cond] at hrow
 rw [hout]
 clear hout hbk hh
 generalize stZ true h0 msg (nbk (bB true) msg.length) = H1 at *
 generalize bB true * nbk (bB true) msg.length = lo1 at *
 generalize heldZ (bB true) msg = hl at *
 have hhl' : hl.length ≤ 128 := hhl
 clear hm hhl
 obtain ⟨a1, n1, c1, rfl⟩ := own_slice hown
 obtain rfl : n1 = hl.length := own_len hown
 have hH0 := hold_of_own hown hhz
 obtain ⟨s1, hs1⟩ : ∃ s, lo1 + hl.length = s := ⟨_, rfl⟩
 have hAD := add_ok lo1 hl.length (by omega)
 have hsl : (s1 : Int) < 9223372036854775808 := by omega
 have HSL := Lib.hid hsl
 rw [hs1] at hAD ⊢
 have hpz := padZ_bounds (n := 128) hhz
 have hpl := padZ_length (n := 128) hhl'
 have hPD := padded_ok hl (.slice a1 hl.length c1) 128
 obtain ⟨PZ, hPZ⟩ : ∃ PZ, padZ 128 hl = PZ := ⟨_, rfl⟩
 rw [hPZ] at hpz hpl hPD ⊢
 have hCW := compZ_words true hst PZ (s1 : Nat) true node
 have hMX := mix_true H1 PZ hst
 obtain ⟨R, hR⟩ : ∃ R, compZ true H1 PZ (s1 : Nat) true node = R := ⟨_, rfl⟩
 have hMX2 := fun (v : Value) (W : World) (h8 : Holds8 W v PZ) => hMX v s1 hsl true node W h8 hpz hpl
 rw [hR] at hCW ⊢
 simp only [hR] at hMX2
 have HAD := Lib.hid hAD
 have HPD := Lib.hid hPD
 have HMX2 := Lib.hid hMX2
 have HST := Lib.hid hst
 have HCW := Lib.hid hCW
 have HROW := Lib.hid hrow
 have HH0 := Lib.hid hH0
 clear hAD hPD hMX hMX2 hst hCW hrow hH0 hown hsum hs1 hPZ hR hpz hpl hhz hsl hlen
 have hl4 : (hl.length : Int) ≤ 128 := by omega
 go_enter Tryz.func173, Tryz.ntmps173
 go_upto_region 1 with (fail)
 refine wp_region_one (fun _ W => Below w.heap.size w W) 15 [8, 9, 10, 11, 12, 13, 14, 15, 16, 17, 18, 7, 19, 20, 5, 6] [.own (vl (.pointer (some ⟨p, 0, none⟩))), .own (vl (.pointer (some ⟨p, 0, none⟩))), .own (vl (.pointer (some ⟨p, 8, none⟩))), .own (vl (.agg #[.int .u64 (lo1 : Nat), .int .u64 0])), .own (vl (.pointer (some ⟨p, 0, none⟩))), .own (vl (.pointer (some ⟨p, 0, none⟩))), .own (vl (.pointer (some ⟨p, 10, none⟩))), .own (vl (.slice a1 hl.length c1)), .own (vl (.int .i64 (hl.length : Nat))), .own (vl (.int .u64 (hl.length : Nat))), .own (vl (.tuple #[.agg #[.int .u64 (s1 : Nat), .int .u64 0], .bool false])), .own (vl (.tuple #[.agg #[.int .u64 (s1 : Nat), .int .u64 0], .bool false])), .own (vl (.agg #[.int .u64 (s1 : Nat), .int .u64 0])), .own (vl (.bool false)), .own (fun u W => ∃ p', u = .pointer (some ⟨p', 0, none⟩) ∧ w.heap.size ≤ p' ∧ ∃ c, W.heap[p']? = some (.cells c 157 (0, 0)) ∧ c.size = 2), .far [5] (fun vs W => ∃ p', vs = [.pointer (some ⟨p', 0, none⟩)] ∧ w.heap.size ≤ p' ∧ W.heap[p']? = some (.cells #[.int .u64 (s1 : Nat), .int .u64 0] 157 (0, 0))), .own (vl (.bool false))] rfl (by rfl) (by decide) (by kernel_rfl) (by rfl) (by kernel_rfl) (by decide) (by kernel_rfl) (Below.refl _ _).drew (fun _ _ _ h hb => h.trans (hb.mono h.size)) ?_ ?_ ?_
 ·exact ⟨kW, kW, kW, kW, kW, kW, kW, kW, kW, kW, kW, kW, kW, kW, (fun _ _ hb _ h => by obtain ⟨p', e, h3, c, h4, h5⟩ := h; exact ⟨p', e, h3, c, rowStay h4 hb, h5⟩), (fun _ _ hb _ h => by obtain ⟨p', e, h3, h4⟩ := h; exact ⟨p', e, h3, rowStay h4 hb⟩), kW, trivial⟩
 ·refine eachO_cons (.inl ⟨rfl, ?_⟩) (eachO_cons (.inl ⟨rfl, ?_⟩) (eachO_cons (.inl ⟨rfl, ?_⟩) (eachO_cons (.inl ⟨rfl, ?_⟩) (eachO_cons (.inl ⟨rfl, ?_⟩) (eachO_cons (.inl ⟨rfl, ?_⟩) (eachO_cons (.inl ⟨rfl, ?_⟩) (eachO_cons (.inl ⟨rfl, ?_⟩) (eachO_cons (.inl ⟨rfl, ?_⟩) (eachO_cons (.inl ⟨rfl, ?_⟩) (eachO_cons (.inl ⟨rfl, ?_⟩) (eachO_cons (.inl ⟨rfl, ?_⟩) (eachO_cons (.inl ⟨rfl, ?_⟩) (eachO_cons (.inl ⟨rfl, ?_⟩) (eachO_cons (.inl ⟨rfl, ?_⟩) (eachO_cons (.inr ⟨rfl, ?_⟩) (eachO_cons (.inl ⟨rfl, ?_⟩) (eachO_nil)))))))))))))))))
  ·intro A x W f hA hR hf hdep K hK
   have a0 := hA.2 0 (by decide)
   conv at a0 => rhs; whnf
   clear hdep hA
   go_simp
   exact hK _ _ BR rfl
  ·intro A x W f hA hR hf hdep K hK
   have g8 := gw hA hdep 0 8
   clear hdep hA
   go_simp
   exact hK _ _ BR rfl
  ·intro A x W f hA hR hf hdep K hK
   have g9 := gw hA hdep 1 9
   clear hdep hA
   go_simp
   exact hK _ _ BR rfl
  ·intro A x W f hA hR hf hdep K hK
   have g10 := gw hA hdep 2 10
   clear hdep hA
   have g0 := rowStay HROW.out hR
   refine wp_load_part 157 _ rfl p 8 g10 159 _ #[.int .u64 (lo1 : Nat), .int .u64 0] (0, 0) _ g0 Tryz.underlying157 rfl (by kernel_rfl) (engB_lo _ _ _) (hK _ _ (Below.refl _ _) rfl)
  ·intro A x W f hA hR hf hdep K hK
   have a0 := hA.2 0 (by decide)
   conv at a0 => rhs; whnf
   clear hdep hA
   go_simp
   exact hK _ _ BR rfl
  ·intro A x W f hA hR hf hdep K hK
   have g12 := gw hA hdep 4 12
   clear hdep hA
   go_simp
   exact hK _ _ BR rfl
  ·intro A x W f hA hR hf hdep K hK
   have g13 := gw hA hdep 5 13
   clear hdep hA
   go_simp
   exact hK _ _ BR rfl
  ·intro A x W f hA hR hf hdep K hK
   have g14 := gw hA hdep 6 14
   clear hdep hA
   have g0 := rowStay HROW.out hR
   have c0 : W.cell? ⟨p, 10, none⟩ = some (.slice a1 hl.length c1) := cell_of_heap g0 10
   go_simp
   exact hK _ _ BR rfl
  ·intro A x W f hA hR hf hdep K hK
   have g15 := gw hA hdep 7 15
   clear hdep hA
   go_simp
   exact hK _ _ BR rfl
  ·intro A x W f hA hR hf hdep K hK
   have g16 := gw hA hdep 8 16
   clear hdep hA
   have q0 : IntKind.u64.wrap (hl.length : Int) = (hl.length : Int) := u64_wrap_id _ (by omega) (by omega)
   go_simp
   exact hK _ _ BR rfl
  ·intro A x W f hA hR hf hdep K hK
   have g11 := gw hA hdep 3 11
   have g17 := gw hA hdep 9 17
   clear hdep hA
   go_simp
   refine (HAD.out _).mono ?_; rintro e w' ⟨rfl, hb⟩; exact hK _ _ hb rfl
  ·intro A x W f hA hR hf hdep K hK
   have g18 := gw hA hdep 10 18
   clear hdep hA
   go_simp
   exact hK _ _ BR rfl
  ·intro A x W f hA hR hf hdep K hK
   have g7 := gw hA hdep 11 7
   clear hdep hA
   go_simp
   exact hK _ _ BR rfl
  ·intro A x W f hA hR hf hdep K hK
   have g7 := gw hA hdep 11 7
   clear hdep hA
   go_simp
   exact hK _ _ BR rfl
  ·intro A x W f hA hR hf hdep K hK
   clear hdep hA
   go_simp
   exact hK _ _ ((Below.refl _ _).alloc (Nat.le_refl _) _) ⟨W.heap.size, rfl, hR.size, _, World.alloc_heap_new W _, rfl⟩
  ·intro A x W hA hR hdep K hK
   have g5 : (fun u W => ∃ p', u = .pointer (some ⟨p', 0, none⟩) ∧ w.heap.size ≤ p' ∧ ∃ c, W.heap[p']? = some (.cells c 157 (0, 0)) ∧ c.size = 2) (x 5) W := hdep ⟨14, .data⟩ (by simp) rfl
   have a5 : A.tmps.getD 5 undef = x 5 := hA.1 5 (by decide)
   have g19 := gw hA hdep 12 19
   clear hdep hA
   obtain ⟨p', e5, hp1, c, hp2, hp3⟩ := g5
   refine wp_store_row 157 _ _ rfl p' #[.int .u64 (s1 : Nat), .int .u64 0] (a5.trans e5) g19 157 c hp2 (by kernel_rfl) (by rw [hp3]; rfl) (by simp [Value.oneCell']) ?_
   have hb' : Below w.heap.size w (W.setRow p' #[.int .u64 (s1 : Nat), .int .u64 0]) := below_setRow hR hp1 _
   refine hK _ _ (fun _ => rfl) hb' ⟨.inr (fun _ h => h), .inr (fun _ h => h), .inr (fun _ h => h), .inr (fun _ h => h), .inr (fun _ h => h), .inr (fun _ h => h), .inr (fun _ h => h), .inr (fun _ h => h), .inr (fun _ h => h), .inr (fun _ h => h), .inr (fun _ h => h), .inr (fun _ h => h), .inr (fun _ h => h), .inr (fun _ h => h), .inr (fun u h => ?_), .inl rfl, .inr (fun _ h => h), trivial⟩ ⟨p', by simp [e5], hp1, setRow_heap _ _ _ _ _ _ hp2⟩
   obtain ⟨q, e, q1, c', q2, q3⟩ := h
   refine ⟨q, e, q1, ?_⟩
   by_cases hq : q = p'
   ·subst hq; exact ⟨_, setRow_heap _ _ _ _ _ _ hp2, rfl⟩
   ·exact ⟨c', (setRow_other _ _ _ _ hq).trans q2, q3⟩
  ·intro A x W f hA hR hf hdep K hK
   have g20 := gw hA hdep 13 20
   clear hdep hA
   go_simp
   exact hK _ _ BR rfl
 intro x W hR hall
 obtain ⟨e8, e9, e10, e11, e12, e13, e14, e15, e16, e17, e18, e7, e19, e20, e5, es15, e6, -⟩ := hall
 change x 8 = (.pointer (some ⟨p, 0, none⟩) : Value) at e8
 change x 9 = (.pointer (some ⟨p, 0, none⟩) : Value) at e9
 change x 10 = (.pointer (some ⟨p, 8, none⟩) : Value) at e10
 change x 11 = (.agg #[.int .u64 (lo1 : Nat), .int .u64 0] : Value) at e11
 change x 12 = (.pointer (some ⟨p, 0, none⟩) : Value) at e12
 change x 13 = (.pointer (some ⟨p, 0, none⟩) : Value) at e13
 change x 14 = (.pointer (some ⟨p, 10, none⟩) : Value) at e14
 change x 15 = (.slice a1 hl.length c1 : Value) at e15
 change x 16 = (.int .i64 (hl.length : Nat) : Value) at e16
 change x 17 = (.int .u64 (hl.length : Nat) : Value) at e17
 change x 18 = (.tuple #[.agg #[.int .u64 (s1 : Nat), .int .u64 0], .bool false] : Value) at e18
 change x 7 = (.tuple #[.agg #[.int .u64 (s1 : Nat), .int .u64 0], .bool false] : Value) at e7
 change x 19 = (.agg #[.int .u64 (s1 : Nat), .int .u64 0] : Value) at e19
 change x 20 = (.bool false : Value) at e20
 change (fun u W => ∃ p', u = .pointer (some ⟨p', 0, none⟩) ∧ w.heap.size ≤ p' ∧ ∃ c, W.heap[p']? = some (.cells c 157 (0, 0)) ∧ c.size = 2) (x 5) W at e5
 change x 6 = (.bool false : Value) at e6
 obtain ⟨pc, e5, hpc, -⟩ := e5
 obtain ⟨pc', e5', hpc', hrc⟩ := es15
 simp only [List.map_cons, List.map_nil, e5, List.cons.injEq, Value.pointer.injEq, Option.some.injEq, Addr.mk.injEq, and_true] at e5'
 obtain rfl := e5'
 simp only [lay, Act.put, List.setIfInBounds_toArray, List.set_cons_zero, List.set_cons_succ, e8, e9, e10, e11, e12, e13, e14, e15, e16, e17, e18, e7, e19, e20, e5, e6]
 clear e8 e9 e10 e11 e12 e13 e14 e15 e16 e17 e18 e7 e19 e20 e5 e6
 have hr2 := rowStay HROW.out hR
 have hH2 := HH0.out.below hR
 have HR2 := Lib.hid hr2
 have HH2 := Lib.hid hH2
 have HRC := Lib.hid hrc
 have HB2 := Lib.hid hR
 have hps2 : p < W.heap.size := (Array.getElem?_eq_some_iff.1 hr2).1
 have hpcs : pc < W.heap.size := (Array.getElem?_eq_some_iff.1 hrc).1
 have hs12 : w.heap.size ≤ W.heap.size := hR.size
 clear hr2 hH2 hrc hR x hpc hpc'
 generalize W = W2 at *
 go_upto_region 2 with (fail)
 refine wp_region_below (n := 26) (w0 := W2) (B := W2.heap.size) [21, 22, 23, 24, 25, 26, 27, 28, 29, 30, 31, 32, 33, 34, 35, 36, 37, 38, 39, 40, 41, 42, 43, 44, 45, 4] [(vl (.pointer (some ⟨p, 0, none⟩))), (vl (.pointer (some ⟨p, 0, none⟩))), (vl (.pointer (some ⟨p, 13, none⟩))), (vl (.func (.func 98) #[] #[])), (vl (.pointer (some ⟨p, 0, none⟩))), (vl (.pointer (some ⟨p, 0, none⟩))), (vl (.pointer (some ⟨p, 12, none⟩))), (vl (.func (.func 97) #[] #[])), (vl (.pointer (some ⟨p, 0, none⟩))), (vl (.pointer (some ⟨p, 0, none⟩))), (vl (.pointer (some ⟨p, 0, none⟩))), (vl (.agg (arrV .u64 H1))), (vl (.pointer (some ⟨p, 0, none⟩))), (vl (.pointer (some ⟨p, 0, none⟩))), (vl (.pointer (some ⟨p, 10, none⟩))), (vl (.slice a1 hl.length c1)), (vl (.pointer (some ⟨p, 0, none⟩))), (vl (.pointer (some ⟨p, 0, none⟩))), (vl (.pointer (some ⟨p, 11, none⟩))), (vl (.int .i64 128)), (fun u W => W.ownsRow W2.heap.size 5 1 u 128 (PZ.map encB)), (vl (.agg #[.int .u64 (s1 : Nat), .int .u64 0])), (vl (.bool node)), (vl (.agg (arrV .u64 R))), (fun u W => W.ownsRow W2.heap.size 5 1 u 64 ((bytesW 8 R 8).map encB)), (fun u W => W.ownsRow W2.heap.size 5 1 u 64 ((bytesW 8 R 8).map encB))] (by dsimp only [List.take]) (by dsimp only [List.drop]) rfl (by rfl) (by decide) (by kernel_rfl) (by rfl) (by kernel_rfl) (by kernel_rfl) (Below.refl _ _).drew (Nat.le_refl _) ?_ ?_ ?_
 ·exact ⟨kV, kV, kV, kV, kV, kV, kV, kV, kV, kV, kV, kV, kV, kV, kV, kV, kV, kV, kV, kV, (fun _ _ _ h hb => ownsRow_same' h (fun g _ hg => hb.block g hg)), kV, kV, kV, (fun _ _ _ h hb => ownsRow_same' h (fun g _ hg => hb.block g hg)), (fun _ _ _ h hb => ownsRow_same' h (fun g _ hg => hb.block g hg)), trivial⟩
 ·refine eachO_8 ?_ ?_ ?_ ?_ ?_ ?_ ?_ ?_ (eachO_8 ?_ ?_ ?_ ?_ ?_ ?_ ?_ ?_ (eachO_8 ?_ ?_ ?_ ?_ ?_ ?_ ?_ ?_ (eachO_cons ?_ (eachO_cons ?_ (eachO_nil)))))
  ·intro A x W hA hW hBW hdep K hK
   have a0 := hA.2 0 (by decide)
   conv at a0 => rhs; whnf
   clear hdep hA
   go_simp
   exact hK _ _ BR rfl
  ·intro A x W hA hW hBW hdep K hK
   have g21 := gv hA hdep 0 21
   clear hdep hA
   go_simp
   exact hK _ _ BR rfl
  ·intro A x W hA hW hBW hdep K hK
   have g22 := gv hA hdep 1 22
   clear hdep hA
   go_simp
   exact hK _ _ BR rfl
  ·intro A x W hA hW hBW hdep K hK
   have g23 := gv hA hdep 2 23
   clear hdep hA
   have g0 := rowStay HR2.out hW
   have c0 : W.cell? ⟨p, 13, none⟩ = some (.func (.func 98) #[] #[]) := cell_of_heap g0 13
   go_simp
   exact hK _ _ BR rfl
  ·intro A x W hA hW hBW hdep K hK
   have a0 := hA.2 0 (by decide)
   conv at a0 => rhs; whnf
   clear hdep hA
   go_simp
   exact hK _ _ BR rfl
  ·intro A x W hA hW hBW hdep K hK
   have g25 := gv hA hdep 4 25
   clear hdep hA
   go_simp
   exact hK _ _ BR rfl
  ·intro A x W hA hW hBW hdep K hK
   have g26 := gv hA hdep 5 26
   clear hdep hA
   go_simp
   exact hK _ _ BR rfl
  ·intro A x W hA hW hBW hdep K hK
   have g27 := gv hA hdep 6 27
   clear hdep hA
   have g0 := rowStay HR2.out hW
   have c0 : W.cell? ⟨p, 12, none⟩ = some (.func (.func 97) #[] #[]) := cell_of_heap g0 12
   go_simp
   exact hK _ _ BR rfl
  ·intro A x W hA hW hBW hdep K hK
   have a0 := hA.2 0 (by decide)
   conv at a0 => rhs; whnf
   clear hdep hA
   go_simp
   exact hK _ _ BR rfl
  ·intro A x W hA hW hBW hdep K hK
   have g29 := gv hA hdep 8 29
   clear hdep hA
   go_simp
   exact hK _ _ BR rfl
  ·intro A x W hA hW hBW hdep K hK
   have g30 := gv hA hdep 9 30
   clear hdep hA
   go_simp
   exact hK _ _ BR rfl
  ·intro A x W hA hW hBW hdep K hK
   have g31 := gv hA hdep 10 31
   clear hdep hA
   have g0 := rowStay HR2.out hW
   refine wp_load_part 150 _ rfl p 0 g31 159 _ (arrV .u64 H1) (0, 0) _ g0 Tryz.underlying150 rfl (by rw [arrV_size, HST.out.1]; kernel_rfl) (engB_h HST.out _ _) (hK _ _ (Below.refl _ _) rfl)
  ·intro A x W hA hW hBW hdep K hK
   have a0 := hA.2 0 (by decide)
   conv at a0 => rhs; whnf
   clear hdep hA
   go_simp
   exact hK _ _ BR rfl
  ·intro A x W hA hW hBW hdep K hK
   have g33 := gv hA hdep 12 33
   clear hdep hA
   go_simp
   exact hK _ _ BR rfl
  ·intro A x W hA hW hBW hdep K hK
   have g34 := gv hA hdep 13 34
   clear hdep hA
   go_simp
   exact hK _ _ BR rfl
  ·intro A x W hA hW hBW hdep K hK
   have g35 := gv hA hdep 14 35
   clear hdep hA
   have g0 := rowStay HR2.out hW
   have c0 : W.cell? ⟨p, 10, none⟩ = some (.slice a1 hl.length c1) := cell_of_heap g0 10
   go_simp
   exact hK _ _ BR rfl
  ·intro A x W hA hW hBW hdep K hK
   have a0 := hA.2 0 (by decide)
   conv at a0 => rhs; whnf
   clear hdep hA
   go_simp
   exact hK _ _ BR rfl
  ·intro A x W hA hW hBW hdep K hK
   have g37 := gv hA hdep 16 37
   clear hdep hA
   go_simp
   exact hK _ _ BR rfl
  ·intro A x W hA hW hBW hdep K hK
   have g38 := gv hA hdep 17 38
   clear hdep hA
   go_simp
   exact hK _ _ BR rfl
  ·intro A x W hA hW hBW hdep K hK
   have g39 := gv hA hdep 18 39
   clear hdep hA
   have g0 := rowStay HR2.out hW
   have c0 : W.cell? ⟨p, 11, none⟩ = some (.int .i64 128) := cell_of_heap g0 11
   go_simp
   exact hK _ _ BR rfl
  ·intro A x W hA hW hBW hdep K hK
   have g36 := gv hA hdep 15 36
   have g40 := gv hA hdep 19 40
   clear hdep hA
   go_simp
   refine (HPD.out _ (HH2.out.below hW) hhl' (by decide)).mono ?_; rintro e w' ⟨u, rfl, ho, hb⟩; exact hK _ _ hb (ownsRow_le ho hBW)
  ·intro A x W hA hW hBW hdep K hK
   have a5 := hA.2 5 (by decide)
   conv at a5 => rhs; whnf
   clear hdep hA
   have g0 := rowStay HRC.out hW
   refine wp_load_row 157 _ rfl pc a5 _ _ _ _ g0 Tryz.underlying157 rfl (by kernel_rfl) (hK _ _ (Below.refl _ _) rfl)
  ·intro A x W hA hW hBW hdep K hK
   have a1 := hA.2 1 (by decide)
   conv at a1 => rhs; whnf
   clear hdep hA
   go_simp
   exact hK _ _ BR rfl
  ·intro A x W hA hW hBW hdep K hK
   have g28 := gv hA hdep 7 28
   have g32 := gv hA hdep 11 32
   have g41 : (fun u W => W.ownsRow W2.heap.size 5 1 u 128 (PZ.map encB)) (x 41) W := hdep ⟨20, .data⟩ (by simp) rfl _ rfl
   have a41 : A.tmps.getD 41 undef = x 41 := hA.1 41 (by decide)
   have g42 := gv hA hdep 21 42
   have g43 := gv hA hdep 22 43
   clear hdep hA
   go_simp
   refine (HMX2.out _ _ (own_holds8 g41)).mono ?_; rintro e w' ⟨rfl, hb⟩; exact hK _ _ hb rfl
  ·intro A x W hA hW hBW hdep K hK
   have g24 := gv hA hdep 3 24
   have g44 := gv hA hdep 23 44
   clear hdep hA
   go_simp
   refine (bytes64_ok R HCW.out _).mono ?_; rintro e w' ⟨u, rfl, ho, hb⟩; exact hK _ _ hb (ownsRow_le ho hBW)
  ·intro A x W hA hW hBW hdep K hK
   have g45 : (fun u W => W.ownsRow W2.heap.size 5 1 u 64 ((bytesW 8 R 8).map encB)) (x 45) W := hdep ⟨24, .data⟩ (by simp) rfl _ rfl
   have a45 : A.tmps.getD 45 undef = x 45 := hA.1 45 (by decide)
   clear hdep hA
   go_simp
   exact hK _ _ (Below.refl _ _) (a45 ▸ g45)
 intro x W hW hBW hall
 obtain ⟨e21, e22, e23, e24, e25, e26, e27, e28, e29, e30, e31, e32, e33, e34, e35, e36, e37, e38, e39, e40, e41, e42, e43, e44, e45, e4, -⟩ := hall
 change x 21 = (.pointer (some ⟨p, 0, none⟩) : Value) at e21
 change x 22 = (.pointer (some ⟨p, 0, none⟩) : Value) at e22
 change x 23 = (.pointer (some ⟨p, 13, none⟩) : Value) at e23
 change x 24 = (.func (.func 98) #[] #[] : Value) at e24
 change x 25 = (.pointer (some ⟨p, 0, none⟩) : Value) at e25
 change x 26 = (.pointer (some ⟨p, 0, none⟩) : Value) at e26
 change x 27 = (.pointer (some ⟨p, 12, none⟩) : Value) at e27
 change x 28 = (.func (.func 97) #[] #[] : Value) at e28
 change x 29 = (.pointer (some ⟨p, 0, none⟩) : Value) at e29
 change x 30 = (.pointer (some ⟨p, 0, none⟩) : Value) at e30
 change x 31 = (.pointer (some ⟨p, 0, none⟩) : Value) at e31
 change x 32 = (.agg (arrV .u64 H1) : Value) at e32
 change x 33 = (.pointer (some ⟨p, 0, none⟩) : Value) at e33
 change x 34 = (.pointer (some ⟨p, 0, none⟩) : Value) at e34
 change x 35 = (.pointer (some ⟨p, 10, none⟩) : Value) at e35
 change x 36 = (.slice a1 hl.length c1 : Value) at e36
 change x 37 = (.pointer (some ⟨p, 0, none⟩) : Value) at e37
 change x 38 = (.pointer (some ⟨p, 0, none⟩) : Value) at e38
 change x 39 = (.pointer (some ⟨p, 11, none⟩) : Value) at e39
 change x 40 = (.int .i64 128 : Value) at e40
 change (fun u W => W.ownsRow W2.heap.size 5 1 u 128 (PZ.map encB)) (x 41) W at e41
 change x 42 = (.agg #[.int .u64 (s1 : Nat), .int .u64 0] : Value) at e42
 change x 43 = (.bool node : Value) at e43
 change x 44 = (.agg (arrV .u64 R) : Value) at e44
 change (fun u W => W.ownsRow W2.heap.size 5 1 u 64 ((bytesW 8 R 8).map encB)) (x 45) W at e45
 change (fun u W => W.ownsRow W2.heap.size 5 1 u 64 ((bytesW 8 R 8).map encB)) (x 4) W at e4
 refine thenTail_nil ?_
 simp only [lay, Act.put, List.setIfInBounds_toArray, List.set_cons_zero, List.set_cons_succ, e21, e22, e23, e24, e25, e26, e27, e28, e29, e30, e31, e32, e33, e34, e35, e36, e37, e38, e39, e40, e42, e43, e44]
 clear e21 e22 e23 e24 e25 e26 e27 e28 e29 e30 e31 e32 e33 e34 e35 e36 e37 e38 e39 e40 e42 e43 e44
 have hB3 := HB2.out.trans (hW.mono hs12)
 have E4 := Lib.hid (ownsRow_le e4 hs12)
 clear e41 e45 e4 hW hBW
 go_wp2
 go_ret
 exact ⟨_, rfl, E4.out, hB3⟩
set_option maxRecDepth 100000 in
set_option maxHeartbeats 4000000 in
theorem out_false (h0 msg : List Int) (node : Bool) (hh : Words 32 8 h0) (hm : ∀ z ∈ msg, 0 ≤ z ∧ z ≤ 255) (p : Nat) (hv : Value) (w : World) (hE : EngAt false w p hv h0 msg) (hlen : (msg.length : Int) ≤ 281474976710656) :
  Calls Tryz.prog 179 #[.pointer (some ⟨p, 0, none⟩), .bool node] w fun e w' => ∃ v, e = .returned v ∧ w'.ownsRow w.heap.size 5 1 v 32 ((outZ false h0 msg node).map encB) ∧ Below w.heap.size w w' := by
 have hps : p < w.heap.size := (Array.getElem?_eq_some_iff.1 hE.1).1
 obtain ⟨hrow, hown⟩ := hE
 have hsum := held_sum (bB_pos false) msg
 have hhl := heldZ_le (bB_pos false) msg
 have hhz := heldZ_bounds (n := bB false) hm
 have hst := stZ_words false hh msg (nbk (bB false) msg.length)
 have hbk := blkZ_held (bB_pos false) msg
 have hout : outZ false h0 msg node = bytesW 4 (compZ false (stZ false h0 msg (nbk (bB false) msg.length)) (padZ 64 (heldZ (bB false) msg)) ((bB false * nbk (bB false) msg.length + (heldZ (bB false) msg).length : Nat) : Int) true node) 8 := by rw [hsum]; unfold outZ; rw [hbk]; rfl
 simp only [cond] at hrow
 rw [hout]
 clear hout hbk hh
 generalize stZ false h0 msg (nbk (bB false) msg.length) = H1 at *
 generalize bB false * nbk (bB false) msg.length = lo1 at *
 generalize heldZ (bB false) msg = hl at *
 have hhl' : hl.length ≤ 64 := hhl
 clear hm hhl
 obtain ⟨a1, n1, c1, rfl⟩ := own_slice hown
 obtain rfl : n1 = hl.length := own_len hown
 have hH0 := hold_of_own hown hhz
 obtain ⟨s1, hs1⟩ : ∃ s, lo1 + hl.length = s := ⟨_, rfl⟩
 have hAD := add_ok lo1 hl.length (by omega)
 have hsl : (s1 : Int) < 9223372036854775808 := by omega
 have HSL := Lib.hid hsl
 rw [hs1] at hAD ⊢
 have hpz := padZ_bounds (n := 64) hhz
 have hpl := padZ_length (n := 64) hhl'
 have hPD := padded_ok hl (.slice a1 hl.length c1) 64
 obtain ⟨PZ, hPZ⟩ : ∃ PZ, padZ 64 hl = PZ := ⟨_, rfl⟩
 rw [hPZ] at hpz hpl hPD ⊢
 have hCW := compZ_words false hst PZ (s1 : Nat) true node
 have hMX := mix_false H1 PZ hst
 obtain ⟨R, hR⟩ : ∃ R, compZ false H1 PZ (s1 : Nat) true node = R := ⟨_, rfl⟩
 have hMX2 := fun (v : Value) (W : World) (h8 : Holds8 W v PZ) => hMX v s1 hsl true node W h8 hpz hpl
 rw [hR] at hCW ⊢
 simp only [hR] at hMX2
 have HAD := Lib.hid hAD
 have HPD := Lib.hid hPD
 have HMX2 := Lib.hid hMX2
 have HST := Lib.hid hst
 have HCW := Lib.hid hCW
 have HROW := Lib.hid hrow
 have HH0 := Lib.hid hH0
 clear hAD hPD hMX hMX2 hst hCW hrow hH0 hown hsum hs1 hPZ hR hpz hpl hhz hsl hlen
 have hl4 : (hl.length : Int) ≤ 64 := by omega
 go_enter Tryz.func179, Tryz.ntmps179
 go_upto_region 1 with (fail)
 refine wp_region_one (fun _ W => Below w.heap.size w W) 15 [8, 9, 10, 11, 12, 13, 14, 15, 16, 17, 18, 7, 19, 20, 5, 6] [.own (vl (.pointer (some ⟨p, 0, none⟩))), .own (vl (.pointer (some ⟨p, 0, none⟩))), .own (vl (.pointer (some ⟨p, 8, none⟩))), .own (vl (.agg #[.int .u64 (lo1 : Nat), .int .u64 0])), .own (vl (.pointer (some ⟨p, 0, none⟩))), .own (vl (.pointer (some ⟨p, 0, none⟩))), .own (vl (.pointer (some ⟨p, 10, none⟩))), .own (vl (.slice a1 hl.length c1)), .own (vl (.int .i64 (hl.length : Nat))), .own (vl (.int .u64 (hl.length : Nat))), .own (vl (.tuple #[.agg #[.int .u64 (s1 : Nat), .int .u64 0], .bool false])), .own (vl (.tuple #[.agg #[.int .u64 (s1 : Nat), .int .u64 0], .bool false])), .own (vl (.agg #[.int .u64 (s1 : Nat), .int .u64 0])), .own (vl (.bool false)), .own (fun u W => ∃ p', u = .pointer (some ⟨p', 0, none⟩) ∧ w.heap.size ≤ p' ∧ ∃ c, W.heap[p']? = some (.cells c 157 (0, 0)) ∧ c.size = 2), .far [5] (fun vs W => ∃ p', vs = [.pointer (some ⟨p', 0, none⟩)] ∧ w.heap.size ≤ p' ∧ W.heap[p']? = some (.cells #[.int .u64 (s1 : Nat), .int .u64 0] 157 (0, 0))), .own (vl (.bool false))] rfl (by rfl) (by decide) (by kernel_rfl) (by rfl) (by kernel_rfl) (by decide) (by kernel_rfl) (Below.refl _ _).drew (fun _ _ _ h hb => h.trans (hb.mono h.size)) ?_ ?_ ?_
 ·exact ⟨kW, kW, kW, kW, kW, kW, kW, kW, kW, kW, kW, kW, kW, kW, (fun _ _ hb _ h => by obtain ⟨p', e, h3, c, h4, h5⟩ := h; exact ⟨p', e, h3, c, rowStay h4 hb, h5⟩), (fun _ _ hb _ h => by obtain ⟨p', e, h3, h4⟩ := h; exact ⟨p', e, h3, rowStay h4 hb⟩), kW, trivial⟩
 ·refine eachO_cons (.inl ⟨rfl, ?_⟩) (eachO_cons (.inl ⟨rfl, ?_⟩) (eachO_cons (.inl ⟨rfl, ?_⟩) (eachO_cons (.inl ⟨rfl, ?_⟩) (eachO_cons (.inl ⟨rfl, ?_⟩) (eachO_cons (.inl ⟨rfl, ?_⟩) (eachO_cons (.inl ⟨rfl, ?_⟩) (eachO_cons (.inl ⟨rfl, ?_⟩) (eachO_cons (.inl ⟨rfl, ?_⟩) (eachO_cons (.inl ⟨rfl, ?_⟩) (eachO_cons (.inl ⟨rfl, ?_⟩) (eachO_cons (.inl ⟨rfl, ?_⟩) (eachO_cons (.inl ⟨rfl, ?_⟩) (eachO_cons (.inl ⟨rfl, ?_⟩) (eachO_cons (.inl ⟨rfl, ?_⟩) (eachO_cons (.inr ⟨rfl, ?_⟩) (eachO_cons (.inl ⟨rfl, ?_⟩) (eachO_nil)))))))))))))))))
  ·intro A x W f hA hR hf hdep K hK
   have a0 := hA.2 0 (by decide)
   conv at a0 => rhs; whnf
   clear hdep hA
   go_simp
   exact hK _ _ BR rfl
  ·intro A x W f hA hR hf hdep K hK
   have g8 := gw hA hdep 0 8
   clear hdep hA
   go_simp
   exact hK _ _ BR rfl
  ·intro A x W f hA hR hf hdep K hK
   have g9 := gw hA hdep 1 9
   clear hdep hA
   go_simp
   exact hK _ _ BR rfl
  ·intro A x W f hA hR hf hdep K hK
   have g10 := gw hA hdep 2 10
   clear hdep hA
   have g0 := rowStay HROW.out hR
   refine wp_load_part 157 _ rfl p 8 g10 167 _ #[.int .u64 (lo1 : Nat), .int .u64 0] (0, 0) _ g0 Tryz.underlying157 rfl (by kernel_rfl) (engS_lo _ _ _) (hK _ _ (Below.refl _ _) rfl)
  ·intro A x W f hA hR hf hdep K hK
   have a0 := hA.2 0 (by decide)
   conv at a0 => rhs; whnf
   clear hdep hA
   go_simp
   exact hK _ _ BR rfl
  ·intro A x W f hA hR hf hdep K hK
   have g12 := gw hA hdep 4 12
   clear hdep hA
   go_simp
   exact hK _ _ BR rfl
  ·intro A x W f hA hR hf hdep K hK
   have g13 := gw hA hdep 5 13
   clear hdep hA
   go_simp
   exact hK _ _ BR rfl
  ·intro A x W f hA hR hf hdep K hK
   have g14 := gw hA hdep 6 14
   clear hdep hA
   have g0 := rowStay HROW.out hR
   have c0 : W.cell? ⟨p, 10, none⟩ = some (.slice a1 hl.length c1) := cell_of_heap g0 10
   go_simp
   exact hK _ _ BR rfl
  ·intro A x W f hA hR hf hdep K hK
   have g15 := gw hA hdep 7 15
   clear hdep hA
   go_simp
   exact hK _ _ BR rfl
  ·intro A x W f hA hR hf hdep K hK
   have g16 := gw hA hdep 8 16
   clear hdep hA
   have q0 : IntKind.u64.wrap (hl.length : Int) = (hl.length : Int) := u64_wrap_id _ (by omega) (by omega)
   go_simp
   exact hK _ _ BR rfl
  ·intro A x W f hA hR hf hdep K hK
   have g11 := gw hA hdep 3 11
   have g17 := gw hA hdep 9 17
   clear hdep hA
   go_simp
   refine (HAD.out _).mono ?_; rintro e w' ⟨rfl, hb⟩; exact hK _ _ hb rfl
  ·intro A x W f hA hR hf hdep K hK
   have g18 := gw hA hdep 10 18
   clear hdep hA
   go_simp
   exact hK _ _ BR rfl
  ·intro A x W f hA hR hf hdep K hK
   have g7 := gw hA hdep 11 7
   clear hdep hA
   go_simp
   exact hK _ _ BR rfl
  ·intro A x W f hA hR hf hdep K hK
   have g7 := gw hA hdep 11 7
   clear hdep hA
   go_simp
   exact hK _ _ BR rfl
  ·intro A x W f hA hR hf hdep K hK
   clear hdep hA
   go_simp
   exact hK _ _ ((Below.refl _ _).alloc (Nat.le_refl _) _) ⟨W.heap.size, rfl, hR.size, _, World.alloc_heap_new W _, rfl⟩
  ·intro A x W hA hR hdep K hK
   have g5 : (fun u W => ∃ p', u = .pointer (some ⟨p', 0, none⟩) ∧ w.heap.size ≤ p' ∧ ∃ c, W.heap[p']? = some (.cells c 157 (0, 0)) ∧ c.size = 2) (x 5) W := hdep ⟨14, .data⟩ (by simp) rfl
   have a5 : A.tmps.getD 5 undef = x 5 := hA.1 5 (by decide)
   have g19 := gw hA hdep 12 19
   clear hdep hA
   obtain ⟨p', e5, hp1, c, hp2, hp3⟩ := g5
   refine wp_store_row 157 _ _ rfl p' #[.int .u64 (s1 : Nat), .int .u64 0] (a5.trans e5) g19 157 c hp2 (by kernel_rfl) (by rw [hp3]; rfl) (by simp [Value.oneCell']) ?_
   have hb' : Below w.heap.size w (W.setRow p' #[.int .u64 (s1 : Nat), .int .u64 0]) := below_setRow hR hp1 _
   refine hK _ _ (fun _ => rfl) hb' ⟨.inr (fun _ h => h), .inr (fun _ h => h), .inr (fun _ h => h), .inr (fun _ h => h), .inr (fun _ h => h), .inr (fun _ h => h), .inr (fun _ h => h), .inr (fun _ h => h), .inr (fun _ h => h), .inr (fun _ h => h), .inr (fun _ h => h), .inr (fun _ h => h), .inr (fun _ h => h), .inr (fun _ h => h), .inr (fun u h => ?_), .inl rfl, .inr (fun _ h => h), trivial⟩ ⟨p', by simp [e5], hp1, setRow_heap _ _ _ _ _ _ hp2⟩
   obtain ⟨q, e, q1, c', q2, q3⟩ := h
   refine ⟨q, e, q1, ?_⟩
   by_cases hq : q = p'
   ·subst hq; exact ⟨_, setRow_heap _ _ _ _ _ _ hp2, rfl⟩
   ·exact ⟨c', (setRow_other _ _ _ _ hq).trans q2, q3⟩
  ·intro A x W f hA hR hf hdep K hK
   have g20 := gw hA hdep 13 20
   clear hdep hA
   go_simp
   exact hK _ _ BR rfl
 intro x W hR hall
 obtain ⟨e8, e9, e10, e11, e12, e13, e14, e15, e16, e17, e18, e7, e19, e20, e5, es15, e6, -⟩ := hall
 change x 8 = (.pointer (some ⟨p, 0, none⟩) : Value) at e8
 change x 9 = (.pointer (some ⟨p, 0, none⟩) : Value) at e9
 change x 10 = (.pointer (some ⟨p, 8, none⟩) : Value) at e10
 change x 11 = (.agg #[.int .u64 (lo1 : Nat), .int .u64 0] : Value) at e11
 change x 12 = (.pointer (some ⟨p, 0, none⟩) : Value) at e12
 change x 13 = (.pointer (some ⟨p, 0, none⟩) : Value) at e13
 change x 14 = (.pointer (some ⟨p, 10, none⟩) : Value) at e14
 change x 15 = (.slice a1 hl.length c1 : Value) at e15
 change x 16 = (.int .i64 (hl.length : Nat) : Value) at e16
 change x 17 = (.int .u64 (hl.length : Nat) : Value) at e17
 change x 18 = (.tuple #[.agg #[.int .u64 (s1 : Nat), .int .u64 0], .bool false] : Value) at e18
 change x 7 = (.tuple #[.agg #[.int .u64 (s1 : Nat), .int .u64 0], .bool false] : Value) at e7
 change x 19 = (.agg #[.int .u64 (s1 : Nat), .int .u64 0] : Value) at e19
 change x 20 = (.bool false : Value) at e20
 change (fun u W => ∃ p', u = .pointer (some ⟨p', 0, none⟩) ∧ w.heap.size ≤ p' ∧ ∃ c, W.heap[p']? = some (.cells c 157 (0, 0)) ∧ c.size = 2) (x 5) W at e5
 change x 6 = (.bool false : Value) at e6
 obtain ⟨pc, e5, hpc, -⟩ := e5
 obtain ⟨pc', e5', hpc', hrc⟩ := es15
 simp only [List.map_cons, List.map_nil, e5, List.cons.injEq, Value.pointer.injEq, Option.some.injEq, Addr.mk.injEq, and_true] at e5'
 obtain rfl := e5'
 simp only [lay, Act.put, List.setIfInBounds_toArray, List.set_cons_zero, List.set_cons_succ, e8, e9, e10, e11, e12, e13, e14, e15, e16, e17, e18, e7, e19, e20, e5, e6]
 clear e8 e9 e10 e11 e12 e13 e14 e15 e16 e17 e18 e7 e19 e20 e5 e6
 have hr2 := rowStay HROW.out hR
 have hH2 := HH0.out.below hR
 have HR2 := Lib.hid hr2
 have HH2 := Lib.hid hH2
 have HRC := Lib.hid hrc
 have HB2 := Lib.hid hR
 have hps2 : p < W.heap.size := (Array.getElem?_eq_some_iff.1 hr2).1
 have hpcs : pc < W.heap.size := (Array.getElem?_eq_some_iff.1 hrc).1
 have hs12 : w.heap.size ≤ W.heap.size := hR.size
 clear hr2 hH2 hrc hR x hpc hpc'
 generalize W = W2 at *
 go_upto_region 2 with (fail)
 refine wp_region_below (n := 26) (w0 := W2) (B := W2.heap.size) [21, 22, 23, 24, 25, 26, 27, 28, 29, 30, 31, 32, 33, 34, 35, 36, 37, 38, 39, 40, 41, 42, 43, 44, 45, 4] [(vl (.pointer (some ⟨p, 0, none⟩))), (vl (.pointer (some ⟨p, 0, none⟩))), (vl (.pointer (some ⟨p, 13, none⟩))), (vl (.func (.func 101) #[] #[])), (vl (.pointer (some ⟨p, 0, none⟩))), (vl (.pointer (some ⟨p, 0, none⟩))), (vl (.pointer (some ⟨p, 12, none⟩))), (vl (.func (.func 100) #[] #[])), (vl (.pointer (some ⟨p, 0, none⟩))), (vl (.pointer (some ⟨p, 0, none⟩))), (vl (.pointer (some ⟨p, 0, none⟩))), (vl (.agg (arrV .u32 H1))), (vl (.pointer (some ⟨p, 0, none⟩))), (vl (.pointer (some ⟨p, 0, none⟩))), (vl (.pointer (some ⟨p, 10, none⟩))), (vl (.slice a1 hl.length c1)), (vl (.pointer (some ⟨p, 0, none⟩))), (vl (.pointer (some ⟨p, 0, none⟩))), (vl (.pointer (some ⟨p, 11, none⟩))), (vl (.int .i64 64)), (fun u W => W.ownsRow W2.heap.size 5 1 u 64 (PZ.map encB)), (vl (.agg #[.int .u64 (s1 : Nat), .int .u64 0])), (vl (.bool node)), (vl (.agg (arrV .u32 R))), (fun u W => W.ownsRow W2.heap.size 5 1 u 32 ((bytesW 4 R 8).map encB)), (fun u W => W.ownsRow W2.heap.size 5 1 u 32 ((bytesW 4 R 8).map encB))] (by dsimp only [List.take]) (by dsimp only [List.drop]) rfl (by rfl) (by decide) (by kernel_rfl) (by rfl) (by kernel_rfl) (by kernel_rfl) (Below.refl _ _).drew (Nat.le_refl _) ?_ ?_ ?_
 ·exact ⟨kV, kV, kV, kV, kV, kV, kV, kV, kV, kV, kV, kV, kV, kV, kV, kV, kV, kV, kV, kV, (fun _ _ _ h hb => ownsRow_same' h (fun g _ hg => hb.block g hg)), kV, kV, kV, (fun _ _ _ h hb => ownsRow_same' h (fun g _ hg => hb.block g hg)), (fun _ _ _ h hb => ownsRow_same' h (fun g _ hg => hb.block g hg)), trivial⟩
 ·refine eachO_8 ?_ ?_ ?_ ?_ ?_ ?_ ?_ ?_ (eachO_8 ?_ ?_ ?_ ?_ ?_ ?_ ?_ ?_ (eachO_8 ?_ ?_ ?_ ?_ ?_ ?_ ?_ ?_ (eachO_cons ?_ (eachO_cons ?_ (eachO_nil)))))
  ·intro A x W hA hW hBW hdep K hK
   have a0 := hA.2 0 (by decide)
   conv at a0 => rhs; whnf
   clear hdep hA
   go_simp
   exact hK _ _ BR rfl
  ·intro A x W hA hW hBW hdep K hK
   have g21 := gv hA hdep 0 21
   clear hdep hA
   go_simp
   exact hK _ _ BR rfl
  ·intro A x W hA hW hBW hdep K hK
   have g22 := gv hA hdep 1 22
   clear hdep hA
   go_simp
   exact hK _ _ BR rfl
  ·intro A x W hA hW hBW hdep K hK
   have g23 := gv hA hdep 2 23
   clear hdep hA
   have g0 := rowStay HR2.out hW
   have c0 : W.cell? ⟨p, 13, none⟩ = some (.func (.func 101) #[] #[]) := cell_of_heap g0 13
   go_simp
   exact hK _ _ BR rfl
  ·intro A x W hA hW hBW hdep K hK
   have a0 := hA.2 0 (by decide)
   conv at a0 => rhs; whnf
   clear hdep hA
   go_simp
   exact hK _ _ BR rfl
  ·intro A x W hA hW hBW hdep K hK
   have g25 := gv hA hdep 4 25
   clear hdep hA
   go_simp
   exact hK _ _ BR rfl
  ·intro A x W hA hW hBW hdep K hK
   have g26 := gv hA hdep 5 26
   clear hdep hA
   go_simp
   exact hK _ _ BR rfl
  ·intro A x W hA hW hBW hdep K hK
   have g27 := gv hA hdep 6 27
   clear hdep hA
   have g0 := rowStay HR2.out hW
   have c0 : W.cell? ⟨p, 12, none⟩ = some (.func (.func 100) #[] #[]) := cell_of_heap g0 12
   go_simp
   exact hK _ _ BR rfl
  ·intro A x W hA hW hBW hdep K hK
   have a0 := hA.2 0 (by decide)
   conv at a0 => rhs; whnf
   clear hdep hA
   go_simp
   exact hK _ _ BR rfl
  ·intro A x W hA hW hBW hdep K hK
   have g29 := gv hA hdep 8 29
   clear hdep hA
   go_simp
   exact hK _ _ BR rfl
  ·intro A x W hA hW hBW hdep K hK
   have g30 := gv hA hdep 9 30
   clear hdep hA
   go_simp
   exact hK _ _ BR rfl
  ·intro A x W hA hW hBW hdep K hK
   have g31 := gv hA hdep 10 31
   clear hdep hA
   have g0 := rowStay HR2.out hW
   refine wp_load_part 160 _ rfl p 0 g31 167 _ (arrV .u32 H1) (0, 0) _ g0 Tryz.underlying160 rfl (by rw [arrV_size, HST.out.1]; kernel_rfl) (engS_h HST.out _ _) (hK _ _ (Below.refl _ _) rfl)
  ·intro A x W hA hW hBW hdep K hK
   have a0 := hA.2 0 (by decide)
   conv at a0 => rhs; whnf
   clear hdep hA
   go_simp
   exact hK _ _ BR rfl
  ·intro A x W hA hW hBW hdep K hK
   have g33 := gv hA hdep 12 33
   clear hdep hA
   go_simp
   exact hK _ _ BR rfl
  ·intro A x W hA hW hBW hdep K hK
   have g34 := gv hA hdep 13 34
   clear hdep hA
   go_simp
   exact hK _ _ BR rfl
  ·intro A x W hA hW hBW hdep K hK
   have g35 := gv hA hdep 14 35
   clear hdep hA
   have g0 := rowStay HR2.out hW
   have c0 : W.cell? ⟨p, 10, none⟩ = some (.slice a1 hl.length c1) := cell_of_heap g0 10
   go_simp
   exact hK _ _ BR rfl
  ·intro A x W hA hW hBW hdep K hK
   have a0 := hA.2 0 (by decide)
   conv at a0 => rhs; whnf
   clear hdep hA
   go_simp
   exact hK _ _ BR rfl
  ·intro A x W hA hW hBW hdep K hK
   have g37 := gv hA hdep 16 37
   clear hdep hA
   go_simp
   exact hK _ _ BR rfl
  ·intro A x W hA hW hBW hdep K hK
   have g38 := gv hA hdep 17 38
   clear hdep hA
   go_simp
   exact hK _ _ BR rfl
  ·intro A x W hA hW hBW hdep K hK
   have g39 := gv hA hdep 18 39
   clear hdep hA
   have g0 := rowStay HR2.out hW
   have c0 : W.cell? ⟨p, 11, none⟩ = some (.int .i64 64) := cell_of_heap g0 11
   go_simp
   exact hK _ _ BR rfl
  ·intro A x W hA hW hBW hdep K hK
   have g36 := gv hA hdep 15 36
   have g40 := gv hA hdep 19 40
   clear hdep hA
   go_simp
   refine (HPD.out _ (HH2.out.below hW) hhl' (by decide)).mono ?_; rintro e w' ⟨u, rfl, ho, hb⟩; exact hK _ _ hb (ownsRow_le ho hBW)
  ·intro A x W hA hW hBW hdep K hK
   have a5 := hA.2 5 (by decide)
   conv at a5 => rhs; whnf
   clear hdep hA
   have g0 := rowStay HRC.out hW
   refine wp_load_row 157 _ rfl pc a5 _ _ _ _ g0 Tryz.underlying157 rfl (by kernel_rfl) (hK _ _ (Below.refl _ _) rfl)
  ·intro A x W hA hW hBW hdep K hK
   have a1 := hA.2 1 (by decide)
   conv at a1 => rhs; whnf
   clear hdep hA
   go_simp
   exact hK _ _ BR rfl
  ·intro A x W hA hW hBW hdep K hK
   have g28 := gv hA hdep 7 28
   have g32 := gv hA hdep 11 32
   have g41 : (fun u W => W.ownsRow W2.heap.size 5 1 u 64 (PZ.map encB)) (x 41) W := hdep ⟨20, .data⟩ (by simp) rfl _ rfl
   have a41 : A.tmps.getD 41 undef = x 41 := hA.1 41 (by decide)
   have g42 := gv hA hdep 21 42
   have g43 := gv hA hdep 22 43
   clear hdep hA
   go_simp
   refine (HMX2.out _ _ (own_holds8 g41)).mono ?_; rintro e w' ⟨rfl, hb⟩; exact hK _ _ hb rfl
  ·intro A x W hA hW hBW hdep K hK
   have g24 := gv hA hdep 3 24
   have g44 := gv hA hdep 23 44
   clear hdep hA
   go_simp
   refine (bytes32_ok R HCW.out _).mono ?_; rintro e w' ⟨u, rfl, ho, hb⟩; exact hK _ _ hb (ownsRow_le ho hBW)
  ·intro A x W hA hW hBW hdep K hK
   have g45 : (fun u W => W.ownsRow W2.heap.size 5 1 u 32 ((bytesW 4 R 8).map encB)) (x 45) W := hdep ⟨24, .data⟩ (by simp) rfl _ rfl
   have a45 : A.tmps.getD 45 undef = x 45 := hA.1 45 (by decide)
   clear hdep hA
   go_simp
   exact hK _ _ (Below.refl _ _) (a45 ▸ g45)
 intro x W hW hBW hall
 obtain ⟨e21, e22, e23, e24, e25, e26, e27, e28, e29, e30, e31, e32, e33, e34, e35, e36, e37, e38, e39, e40, e41, e42, e43, e44, e45, e4, -⟩ := hall
 change x 21 = (.pointer (some ⟨p, 0, none⟩) : Value) at e21
 change x 22 = (.pointer (some ⟨p, 0, none⟩) : Value) at e22
 change x 23 = (.pointer (some ⟨p, 13, none⟩) : Value) at e23
 change x 24 = (.func (.func 101) #[] #[] : Value) at e24
 change x 25 = (.pointer (some ⟨p, 0, none⟩) : Value) at e25
 change x 26 = (.pointer (some ⟨p, 0, none⟩) : Value) at e26
 change x 27 = (.pointer (some ⟨p, 12, none⟩) : Value) at e27
 change x 28 = (.func (.func 100) #[] #[] : Value) at e28
 change x 29 = (.pointer (some ⟨p, 0, none⟩) : Value) at e29
 change x 30 = (.pointer (some ⟨p, 0, none⟩) : Value) at e30
 change x 31 = (.pointer (some ⟨p, 0, none⟩) : Value) at e31
 change x 32 = (.agg (arrV .u32 H1) : Value) at e32
 change x 33 = (.pointer (some ⟨p, 0, none⟩) : Value) at e33
 change x 34 = (.pointer (some ⟨p, 0, none⟩) : Value) at e34
 change x 35 = (.pointer (some ⟨p, 10, none⟩) : Value) at e35
 change x 36 = (.slice a1 hl.length c1 : Value) at e36
 change x 37 = (.pointer (some ⟨p, 0, none⟩) : Value) at e37
 change x 38 = (.pointer (some ⟨p, 0, none⟩) : Value) at e38
 change x 39 = (.pointer (some ⟨p, 11, none⟩) : Value) at e39
 change x 40 = (.int .i64 64 : Value) at e40
 change (fun u W => W.ownsRow W2.heap.size 5 1 u 64 (PZ.map encB)) (x 41) W at e41
 change x 42 = (.agg #[.int .u64 (s1 : Nat), .int .u64 0] : Value) at e42
 change x 43 = (.bool node : Value) at e43
 change x 44 = (.agg (arrV .u32 R) : Value) at e44
 change (fun u W => W.ownsRow W2.heap.size 5 1 u 32 ((bytesW 4 R 8).map encB)) (x 45) W at e45
 change (fun u W => W.ownsRow W2.heap.size 5 1 u 32 ((bytesW 4 R 8).map encB)) (x 4) W at e4
 refine thenTail_nil ?_
 simp only [lay, Act.put, List.setIfInBounds_toArray, List.set_cons_zero, List.set_cons_succ, e21, e22, e23, e24, e25, e26, e27, e28, e29, e30, e31, e32, e33, e34, e35, e36, e37, e38, e39, e40, e42, e43, e44]
 clear e21 e22 e23 e24 e25 e26 e27 e28 e29 e30 e31 e32 e33 e34 e35 e36 e37 e38 e39 e40 e42 e43 e44
 have hB3 := HB2.out.trans (hW.mono hs12)
 have E4 := Lib.hid (ownsRow_le e4 hs12)
 clear e41 e45 e4 hW hBW
 go_wp2
 go_ret
 exact ⟨_, rfl, E4.out, hB3⟩
end Go.Proofs.YtjogmckaakkomaaGreat
