/- The state behind all blocks that have gone in; the whole output: by the reference. No condition. -/
import Derived.Test.YtjogmckaakkomaaGreatK50
namespace Go.Proofs.YtjogmckaakkomaaGreat
open Go.ChangeShapes Go.WideShapes Go.ChangeAt Go.RowKit Go.Joins Go.Shelf Go.Maps
attribute [local go_sem] Oper.semAt_some

theorem results_row_tmp3 {P : Program} {fn : Func} {p u1 u2 u3 : Tmp} {ty : TypeId} (h : fn.results = #[.cell p ty, .tmp u1, .tmp u2, .tmp u3]) (tmps : Array Value) (w : World) (g : Nat) (t : TypeId) (cs : Array Value) (fr : Nat × Nat) (d : TypeDesc)
  (hp : tmps.getD p undef = .pointer (some ⟨g, 0, none⟩)) (hg : w.heap[g]? = some (.cells cs t fr))
  (hu : P.underlying ty = some d) (hd : (match d with | .struct _ | .array _ _ => true | _ => false) = true) (hi : (P.info? ty).map (·.size) = some cs.size) :
  (results fn tmps).run P w = .ok (.tuple #[.agg cs, tmps.getD u1 undef, tmps.getD u2 undef, tmps.getD u3 undef]) w := by
 have hp' : tmps[p]?.getD undef = .pointer (some ⟨g, 0, none⟩) := by simpa using hp
 simp [results, h, hp', asAddr, run_loadVar_row w g t ty cs fr d hg hu hd hi]
theorem nbk_lt {n L k : Nat} (hn : 0 < n) (hk : k ≤ nbk n L) : (n * k + n < L ↔ k < nbk n L) := by
 have h1 := nbk_spec hn L
 have e : n * (k + 1) = n * k + n := Nat.mul_succ _ _
 constructor
 ·intro h
  refine Nat.lt_of_le_of_ne hk fun e2 => ?_
  rw [e2] at h; omega
 ·intro h
  have h2 : n * (k + 1) ≤ n * nbk n L := Nat.mul_le_mul_left _ h
  by_cases h0 : 0 < L
  ·have := h1.2.2 h0; omega
  ·have : L = 0 := by omega
   subst this; rw [nbk_zero] at h; omega
set_option maxRecDepth 100000 in
set_option maxHeartbeats 4000000 in
theorem refPassed_true (v : Nat → Nat) (z1 z2 msg : List Int) (sa pe kv mv : Value) (la : Bool) (cnt : Int) (np : Nat) (w : World) (hN : rNode true w np v sa pe kv la mv cnt) (hP : ParOk true v) (h1 : Hold w sa z1) (h2 : Hold w pe z2) (hl1 : z1.length ≤ 16) (hl2 : z2.length ≤ 16) (hM : Hold w mv msg) (hml : (msg.length : Int) ≤ 281474976710656) :
  Calls Tryz.prog 87 #[.pointer (some ⟨np, 0, none⟩)] w fun e w' => e = .returned (.tuple #[.agg (arrV .u64 (st16 (stZ true (h0Z true (blkP true v z1 z2)) msg (nbk 128 msg.length)))), .int .u64 ((128 * nbk 128 msg.length : Nat) : Int), .int .u64 0, .int .i64 ((128 * nbk 128 msg.length : Nat) : Int)]) ∧ Below w.heap.size w w' := by
 obtain ⟨b0, hb0⟩ : ∃ b0, w.heap.size = b0 := ⟨_, rfl⟩
 obtain ⟨ma, mc, rfl, hmc1, hmc2⟩ := hM.slice
 have hnp : np < b0 := by rw [← hb0]; exact (Array.getElem?_eq_some_iff.1 hN).1
 have hFI := fun (W : World) (hb : Below b0 w W) => refFirst_true v z1 z2 sa pe kv (.slice ma msg.length mc) la cnt np W ((hb.block np hnp).trans hN) hP (h1.below (hb0 ▸ hb)) (h2.below (hb0 ▸ hb)) hl1 hl2
 have hMW := fun (W : World) (hb : Below b0 w W) => hM.below (hb0 ▸ hb)
 have hH0w := h0Z_words true (blkP true v z1 z2)
 generalize h0Z true (blkP true v z1 z2) = H0 at *
 have hSW := fun k => stZ_words true hH0w msg k
 obtain ⟨Q, hQ⟩ : ∃ Q, nbk 128 msg.length = Q := ⟨_, rfl⟩
 have hlt := fun (k : Nat) (hk : k ≤ Q) => (hQ ▸ nbk_lt (n := 128) (L := msg.length) (by decide) (hQ ▸ hk) : (128 * k + 128 < msg.length ↔ k < Q))
 have hQl : 128 * Q ≤ msg.length := by rw [← hQ]; exact (nbk_spec (by decide) _).1
 rw [hQ]
 have hN' : w.heap[np]? = some (.cells (rN 1 v sa pe kv la (.slice ma msg.length mc) cnt) 125 (0, 0)) := hN
 have HFI_ := Lib.hid hFI
 have HMW_ := Lib.hid hMW
 have HSW_ := Lib.hid hSW
 have HLT_ := Lib.hid hlt
 have HNR_ := Lib.hid hN'
 have HBM := Lib.hid hM.1
 clear hN hN' hFI hMW hSW hQ hlt hP h1 h2 hM hmc1 hmc2 hl1 hl2
 go_enter Tryz.func87, Tryz.ntmps87
 go_wp2_with fail
 have hb1 : Below b0 w (w.alloc (.cells #[.int .u64 0, .int .u64 0, .int .u64 0, .int .u64 0, .int .u64 0, .int .u64 0, .int .u64 0, .int .u64 0, .int .u64 0, .int .u64 0, .int .u64 0, .int .u64 0, .int .u64 0, .int .u64 0, .int .u64 0, .int .u64 0] 123)) := by rw [← hb0]; exact (Below.refl _ _).alloc (Nat.le_refl _) _
 have r0 : (w.alloc (.cells #[.int .u64 0, .int .u64 0, .int .u64 0, .int .u64 0, .int .u64 0, .int .u64 0, .int .u64 0, .int .u64 0, .int .u64 0, .int .u64 0, .int .u64 0, .int .u64 0, .int .u64 0, .int .u64 0, .int .u64 0, .int .u64 0] 123)).heap[b0]? = some (.cells #[.int .u64 0, .int .u64 0, .int .u64 0, .int .u64 0, .int .u64 0, .int .u64 0, .int .u64 0, .int .u64 0, .int .u64 0, .int .u64 0, .int .u64 0, .int .u64 0, .int .u64 0, .int .u64 0, .int .u64 0, .int .u64 0] 123 (0, 0)) := by rw [← hb0]; exact World.alloc_heap_new _ _
 have hs1 : (w.alloc (.cells #[.int .u64 0, .int .u64 0, .int .u64 0, .int .u64 0, .int .u64 0, .int .u64 0, .int .u64 0, .int .u64 0, .int .u64 0, .int .u64 0, .int .u64 0, .int .u64 0, .int .u64 0, .int .u64 0, .int .u64 0, .int .u64 0] 123)).heap.size = b0 + 1 := by simp [hb0]
 generalize (w.alloc (.cells #[.int .u64 0, .int .u64 0, .int .u64 0, .int .u64 0, .int .u64 0, .int .u64 0, .int .u64 0, .int .u64 0, .int .u64 0, .int .u64 0, .int .u64 0, .int .u64 0, .int .u64 0, .int .u64 0, .int .u64 0, .int .u64 0] 123)) = W1 at *
 refine (HFI_.out W1 hb1).mono ?_; rintro e w2 ⟨rfl, hb2⟩
 have hs2 := hb2.size
 have r02 := rowStay r0 hb2
 have hbw := hb1.trans (hb2.mono (by omega))
 have R0 := Lib.hid r02
 have HBW := Lib.hid hbw
 clear hb1 r0 hb2 r02 hbw HFI_
 have HH0 := Lib.hid (st16_words (by decide) hH0w)
 clear hH0w
 go_upto_region 2 with ((with_reducible show wpList _ _ _ (Oper.mk none (Op.store 123 _ _) _ _ _ _ :: _) _ _); refine wpList_store_row rfl 123 _ _ rfl w2.heap.size (arrV .u64 (st16 H0)) rfl rfl 123 _ (World.alloc_heap_new _ _) (by rw [arrV_size, HH0.out.1]; kernel_rfl) (by rw [arrV_size, HH0.out.1]; rfl) arrV_all ?_)
 refine letterW ?_
 intro W hW
 obtain ⟨b6, hb6⟩ : ∃ b6, w2.heap.size = b6 := ⟨_, rfl⟩
 have m6 : W.heap[b6]? = some (.cells (arrV .u64 (st16 (stZ true H0 msg 0))) 123 (0, 0)) := by rw [hW, ← hb6]; exact setRow_heap _ _ _ _ _ _ (World.alloc_heap_new _ _)
 have m0 : W.heap[b0]? = some (.cells #[.int .u64 0, .int .u64 0, .int .u64 0, .int .u64 0, .int .u64 0, .int .u64 0, .int .u64 0, .int .u64 0, .int .u64 0, .int .u64 0, .int .u64 0, .int .u64 0, .int .u64 0, .int .u64 0, .int .u64 0, .int .u64 0] 123 (0, 0)) := by rw [hW]; exact (setRow_other (w2.alloc _) _ _ _ (by omega)).trans ((Below.heap_alloc _ _ _ (by omega)).trans R0.out)
 have hBW2 : Below b0 w W := by rw [hW]; exact below_setRow (HBW.out.alloc (by omega) _) (by omega) _
 have mn : W.heap[np]? = some (.cells (rN 1 v sa pe kv la (.slice ma msg.length mc) cnt) 125 (0, 0)) := (hBW2.block np hnp).trans HNR_.out
 rw [hb6]
 have hb06 : b0 < b6 := by omega
 have hWs : b6 < W.heap.size := (Array.getElem?_eq_some_iff.1 m6).1
 have c31 : W.cell? ⟨np, 31, none⟩ = some (.int .u64 0) := cell_of_heap mn 31
 have c32 : W.cell? ⟨np, 32, none⟩ = some (.int .u64 0) := cell_of_heap mn 32
 have c00 : W.cell? ⟨np, 0, none⟩ = some (.int .i64 1) := cell_of_heap mn 0
 have M6 := Lib.hid m6
 have M0 := Lib.hid m0
 have MN := Lib.hid mn
 have HB2 := Lib.hid hBW2
 clear hW hb6 m6 m0 mn hBW2 R0 HBW hs1 hs2
 go_wp2_with fail
 refine (refBlock_ok true _).mono ?_; rintro e w4 ⟨rfl, hw⟩
 rw [hw]; clear hw
 rw [show ((bB true : Nat) : Int) = 128 from rfl]
 go_wp2_with fail
 go_loopw [7, 8, 10] (fun lo hi at_ wr => ∃ k : Nat, lo = .int .u64 ((128 * k : Nat) : Int) ∧ hi = .int .u64 0 ∧ at_ = .int .i64 ((128 * k : Nat) : Int) ∧ k ≤ Q ∧ wr.heap[b6]? = some (.cells (arrV .u64 (st16 (stZ true H0 msg k))) 123 (0, 0)) ∧ But b6 W wr) (fun _ _ at_ _ => msg.length - (intOf at_).toNat)
 case atStart => exact ⟨0, rfl, rfl, rfl, Nat.zero_le _, M6.out, But.refl _ _⟩
 case round =>
  obtain ⟨k, rfl, rfl, rfl, hk, hrow, hb⟩ := hrel
  have hwrs : b6 < wr.heap.size := by have := hb.size; omega
  have hn := (hb.block np (by omega) (by omega)).trans MN.out
  have c33 : wr.cell? ⟨np, 33, none⟩ = some (.slice ma msg.length mc) := cell_of_heap hn 33
  have hnw : np < wr.heap.size := by omega
  have hbB : Below b0 w wr := HB2.out.trans (hb.below (by omega) (by omega))
  have hLT := HLT_.out k hk
  have hsl : 128 * k ≤ 128 * Q := Nat.mul_le_mul_left _ hk
  obtain ⟨s, hs⟩ : ∃ s, 128 * k = s := ⟨_, rfl⟩
  have hs2 : 128 * (k + 1) = s + 128 := by rw [← hs]; exact Nat.mul_succ _ _
  have HBLK := Lib.hid (show blkZ 128 msg k = padZ 128 ((msg.drop s).take 128) by unfold blkZ; rw [hs])
  have HS2 := Lib.hid hs2
  have HS := Lib.hid hs
  rw [hs] at hLT hsl ⊢
  have hsw := HSW_.out k
  have hst1 : stZ true H0 msg (k + 1) = compZ true (stZ true H0 msg k) (padZ 128 ((msg.drop s).take 128)) ((s + 128 : Nat) : Int) false false := by
   show compZ true (stZ true H0 msg k) (blkZ (bB true) msg k) ((bB true * (k + 1) : Nat) : Int) false false = _
   rw [show bB true = 128 from rfl, HBLK.out, hs2]
  have HROWk := Lib.hid hrow
  have HBk := Lib.hid hb
  have HNk := Lib.hid hn
  have HBBk := Lib.hid hbB
  have HSWk := Lib.hid hsw
  have HST1k := Lib.hid hst1
  clear hs hs2
  have hsL : (s : Int) ≤ msg.length := by omega
  by_cases hlt : k < Q
  case neg =>
   obtain rfl : k = Q := by omega
   have hge : ¬ ((s : Int) + 128 < msg.length) := by have := hLT; omega
   have n0 := (hb.block b0 (by omega) (by omega)).trans M0.out
   have hR16 := st16_words (by decide) hsw
   have hwr0 : b0 < wr.heap.size := by omega
   clear hb hn hbB hsw hst1 hLT hlt hsl
   go_wp2_with (first | ((with_reducible show wpList _ _ _ (Oper.mk (some 62) _ _ _ _ _ :: _) _ _); refine wpList_load_row rfl 123 _ rfl b6 rfl _ _ _ _ hrow Tryz.underlying123 rfl (by rw [arrV_size, hR16.1]; kernel_rfl) ?_) | ((with_reducible show wpList _ _ _ (Oper.mk none (Op.store 123 _ _) _ _ _ _ :: _) _ _); refine wpList_store_row rfl 123 _ _ rfl b0 (arrV .u64 (st16 (stZ true H0 msg k))) rfl rfl 123 _ n0 (by rw [arrV_size, hR16.1]; kernel_rfl) (by rw [arrV_size, hR16.1]; rfl) arrV_all ?_))
   exact bodyPost_ret (results_row_tmp3 rfl _ _ b0 123 _ _ _ rfl (setRow_heap _ _ _ _ _ _ n0) Tryz.underlying123 rfl (by rw [arrV_size, hR16.1]; kernel_rfl)) rfl ⟨by rw [show ((128 : Int) * (k : Int)) = (s : Int) from by have := HS.out; omega]; rfl, by first | exact below_setRow HBBk.out (Nat.le_refl _) _ | (rw [hb0]; exact below_setRow HBBk.out (Nat.le_refl _) _)⟩
  have hlt2 : (s : Int) + 128 < msg.length := by have := hLT.2 hlt; omega
  have hs47 : (s : Int) + 128 < 9223372036854775808 := by omega
  have HS47 := Lib.hid hs47
  clear hrow hb hn hbB hsw hst1 hLT hsl hs47
  go_wp2_with fail
  refine (refAdd_ok s 128 (by omega) _).mono ?_; rintro e w4 ⟨rfl, hw⟩
  rw [hw]; clear hw
  go_upto_region 8 with (fail)
  refine wp_region_below (n := 15) (w0 := wr) (B := wr.heap.size) [44, 45, 46, 47, 48, 49, 50, 51, 52, 53, 54, 55, 56, 57, 58] [(vl (.pointer (some ⟨np, 0, none⟩))), (vl (.pointer (some ⟨np, 0, none⟩))), (vl (.pointer (some ⟨np, 0, none⟩))), (vl (.int .i64 1)), (vl (.agg (arrV .u64 (st16 (stZ true H0 msg k))))), (vl (.pointer (some ⟨np, 0, none⟩))), (vl (.pointer (some ⟨np, 0, none⟩))), (vl (.pointer (some ⟨np, 33, none⟩))), (vl (.slice ma msg.length mc)), (vl (.int .i64 (s : Nat))), (vl (.int .i64 128)), (fun u W => W.ownsRow wr.heap.size 5 1 u 128 ((padZ 128 ((msg.drop s).take 128)).map encB)), (vl (.int .u64 ((s : Int) + 128))), (vl (.int .u64 0)), (vl (.agg (arrV .u64 (st16 (stZ true H0 msg (k + 1))))))] (by dsimp only [List.take]) (by dsimp only [List.drop]) rfl (by rfl) (by decide) (by kernel_rfl) (by rfl) (by kernel_rfl) (by kernel_rfl) (Below.refl _ _).drew (Nat.le_refl _) ?_ ?_ ?_
  ·exact ⟨kV, kV, kV, kV, kV, kV, kV, kV, kV, kV, kV, (fun _ _ _ h hb => ownsRow_same' h (fun g _ hg => hb.block g hg)), kV, kV, kV, trivial⟩
  ·refine eachO_8 ?_ ?_ ?_ ?_ ?_ ?_ ?_ ?_ (eachO_cons ?_ (eachO_cons ?_ (eachO_cons ?_ (eachO_cons ?_ (eachO_cons ?_ (eachO_cons ?_ (eachO_cons ?_ (eachO_nil))))))))
   ·intro A x W hA hW hBW hdep K hK
    have a0 := hA.2 0 (by decide)
    conv at a0 => rhs; whnf
    clear hdep hA
    go_simp
    exact hK _ _ BR rfl
   ·intro A x W hA hW hBW hdep K hK
    have g44 := gv hA hdep 0 44
    clear hdep hA
    go_simp
    exact hK _ _ BR rfl
   ·intro A x W hA hW hBW hdep K hK
    have g45 := gv hA hdep 1 45
    clear hdep hA
    go_simp
    exact hK _ _ BR rfl
   ·intro A x W hA hW hBW hdep K hK
    have g46 := gv hA hdep 2 46
    clear hdep hA
    have g0 := rowStay HNk.out hW
    have c0 : W.cell? ⟨np, 0, none⟩ = some (.int .i64 1) := cell_of_heap g0 0
    go_simp
    exact hK _ _ BR rfl
   ·intro A x W hA hW hBW hdep K hK
    have a6 := hA.2 6 (by decide)
    conv at a6 => rhs; whnf
    clear hdep hA
    have g0 := rowStay HROWk.out hW
    have hR16 := st16_words (by decide) HSWk.out
    refine wp_load_row 123 _ rfl b6 a6 _ _ _ _ g0 Tryz.underlying123 rfl (by rw [arrV_size, hR16.1]; kernel_rfl) (hK _ _ (Below.refl _ _) rfl)
   ·intro A x W hA hW hBW hdep K hK
    have a0 := hA.2 0 (by decide)
    conv at a0 => rhs; whnf
    clear hdep hA
    go_simp
    exact hK _ _ BR rfl
   ·intro A x W hA hW hBW hdep K hK
    have g49 := gv hA hdep 5 49
    clear hdep hA
    go_simp
    exact hK _ _ BR rfl
   ·intro A x W hA hW hBW hdep K hK
    have g50 := gv hA hdep 6 50
    clear hdep hA
    go_simp
    exact hK _ _ BR rfl
   ·intro A x W hA hW hBW hdep K hK
    have g51 := gv hA hdep 7 51
    clear hdep hA
    have g0 := rowStay HNk.out hW
    have c0 : W.cell? ⟨np, 33, none⟩ = some (.slice ma msg.length mc) := cell_of_heap g0 33
    go_simp
    exact hK _ _ BR rfl
   ·intro A x W hA hW hBW hdep K hK
    have a10 := hA.2 10 (by decide)
    conv at a10 => rhs; whnf
    clear hdep hA
    go_simp
    exact hK _ _ BR rfl
   ·intro A x W hA hW hBW hdep K hK
    have a9 := hA.2 9 (by decide)
    conv at a9 => rhs; whnf
    clear hdep hA
    go_simp
    exact hK _ _ BR rfl
   ·intro A x W hA hW hBW hdep K hK
    have g52 := gv hA hdep 8 52
    have g53 := gv hA hdep 9 53
    have g54 := gv hA hdep 10 54
    clear hdep hA
    go_simp
    refine (refCut_ok msg _ s 128 W (HMW_.out W (HBBk.out.trans (hW.mono (by omega)))) (by decide) (by omega) hml).mono ?_; rintro e w' ⟨u, rfl, ho, hb⟩; exact hK _ _ hb (ownsRow_le ho hBW)
   ·intro A x W hA hW hBW hdep K hK
    have a7 := hA.2 7 (by decide)
    conv at a7 => rhs; whnf
    clear hdep hA
    go_simp
    exact hK _ _ BR rfl
   ·intro A x W hA hW hBW hdep K hK
    have a8 := hA.2 8 (by decide)
    conv at a8 => rhs; whnf
    clear hdep hA
    go_simp
    exact hK _ _ BR rfl
   ·intro A x W hA hW hBW hdep K hK
    have g47 := gv hA hdep 3 47
    have g48 := gv hA hdep 4 48
    have g55 : (fun u W => W.ownsRow wr.heap.size 5 1 u 128 ((padZ 128 ((msg.drop s).take 128)).map encB)) (x 55) W := hdep ⟨11, .data⟩ (by simp) rfl _ rfl
    have a55 : A.tmps.getD 55 undef = x 55 := hA.1 55 (by decide)
    have g56 := gv hA hdep 12 56
    have g57 := gv hA hdep 13 57
    clear hdep hA
    have hbz := padZ_bounds (n := 128) (zs := (msg.drop s).take 128) (fun z hz => HBM.out z (List.mem_of_mem_drop (List.mem_of_mem_take hz)))
    go_simp
    rw [show (s : Int) + 128 = ((s + 128 : Nat) : Int) from rfl]
    refine (refIn_true (stZ true H0 msg k) (padZ 128 ((msg.drop s).take 128)) HSWk.out _ (s + 128) HS47.out false false W (own_holds8 g55) hbz (padZ_length (List.length_take_le _ _))).mono ?_; rintro e w' ⟨rfl, hb⟩; rw [← HST1k.out]; exact hK _ _ hb rfl
  intro x W hW hBW hall
  obtain ⟨e44, e45, e46, e47, e48, e49, e50, e51, e52, e53, e54, e55, e56, e57, e58, -⟩ := hall
  change x 44 = (.pointer (some ⟨np, 0, none⟩) : Value) at e44
  change x 45 = (.pointer (some ⟨np, 0, none⟩) : Value) at e45
  change x 46 = (.pointer (some ⟨np, 0, none⟩) : Value) at e46
  change x 47 = (.int .i64 1 : Value) at e47
  change x 48 = (.agg (arrV .u64 (st16 (stZ true H0 msg k))) : Value) at e48
  change x 49 = (.pointer (some ⟨np, 0, none⟩) : Value) at e49
  change x 50 = (.pointer (some ⟨np, 0, none⟩) : Value) at e50
  change x 51 = (.pointer (some ⟨np, 33, none⟩) : Value) at e51
  change x 52 = (.slice ma msg.length mc : Value) at e52
  change x 53 = (.int .i64 (s : Nat) : Value) at e53
  change x 54 = (.int .i64 128 : Value) at e54
  change (fun u W => W.ownsRow wr.heap.size 5 1 u 128 ((padZ 128 ((msg.drop s).take 128)).map encB)) (x 55) W at e55
  change x 56 = (.int .u64 ((s : Int) + 128) : Value) at e56
  change x 57 = (.int .u64 0 : Value) at e57
  change x 58 = (.agg (arrV .u64 (st16 (stZ true H0 msg (k + 1)))) : Value) at e58
  refine thenTail_cons ?_
  simp only [lay, Act.put, List.setIfInBounds_toArray, List.set_cons_zero, List.set_cons_succ, e44, e45, e46, e47, e48, e49, e50, e51, e52, e53, e54, e56, e57, e58]
  clear e44 e45 e46 e47 e48 e49 e50 e51 e52 e53 e54 e56 e57 e58
  have hr9 := rowStay HROWk.out hW
  have hR16 := st16_words (by decide) (HSW_.out (k + 1))
  have hR17 := st16_words (by decide) HSWk.out
  refine wpList_store_row rfl 123 _ _ rfl b6 (arrV .u64 (st16 (stZ true H0 msg (k + 1)))) rfl rfl 123 _ hr9 (by rw [arrV_size, hR16.1]; kernel_rfl) (by rw [arrV_size, arrV_size, hR16.1, hR17.1]) arrV_all ?_
  refine thenTail_nil ?_
  have HA := Lib.hid (setRow_heap _ b6 _ (arrV .u64 (st16 (stZ true H0 msg (k + 1)))) _ _ hr9)
  have HC := Lib.hid (HBk.out.trans ((But.of_below hW).trans (But.of_setRow _ b6 (arrV .u64 (st16 (stZ true H0 msg (k + 1)))))))
  clear hr9 hR16 hR17 e55 hW hBW c33 hnw hwrs
  go_wp2
  refine ⟨⟨k + 1, by rw [HS2.out]; rfl, rfl, by rw [HS2.out]; rfl, by omega, HA.out, HC.out⟩, ?_⟩
  simp [intOf]; omega
set_option maxRecDepth 100000 in
set_option maxHeartbeats 4000000 in
theorem refPassed_false (v : Nat → Nat) (z1 z2 msg : List Int) (sa pe kv mv : Value) (la : Bool) (cnt : Int) (np : Nat) (w : World) (hN : rNode false w np v sa pe kv la mv cnt) (hP : ParOk false v) (h1 : Hold w sa z1) (h2 : Hold w pe z2) (hl1 : z1.length ≤ 8) (hl2 : z2.length ≤ 8) (hM : Hold w mv msg) (hml : (msg.length : Int) ≤ 281474976710656) :
  Calls Tryz.prog 87 #[.pointer (some ⟨np, 0, none⟩)] w fun e w' => e = .returned (.tuple #[.agg (arrV .u64 (st16 (stZ false (h0Z false (blkP false v z1 z2)) msg (nbk 64 msg.length)))), .int .u64 ((64 * nbk 64 msg.length : Nat) : Int), .int .u64 0, .int .i64 ((64 * nbk 64 msg.length : Nat) : Int)]) ∧ Below w.heap.size w w' := by
 obtain ⟨b0, hb0⟩ : ∃ b0, w.heap.size = b0 := ⟨_, rfl⟩
 obtain ⟨ma, mc, rfl, hmc1, hmc2⟩ := hM.slice
 have hnp : np < b0 := by rw [← hb0]; exact (Array.getElem?_eq_some_iff.1 hN).1
 have hFI := fun (W : World) (hb : Below b0 w W) => refFirst_false v z1 z2 sa pe kv (.slice ma msg.length mc) la cnt np W ((hb.block np hnp).trans hN) hP (h1.below (hb0 ▸ hb)) (h2.below (hb0 ▸ hb)) hl1 hl2
 have hMW := fun (W : World) (hb : Below b0 w W) => hM.below (hb0 ▸ hb)
 have hH0w := h0Z_words false (blkP false v z1 z2)
 generalize h0Z false (blkP false v z1 z2) = H0 at *
 have hSW := fun k => stZ_words false hH0w msg k
 obtain ⟨Q, hQ⟩ : ∃ Q, nbk 64 msg.length = Q := ⟨_, rfl⟩
 have hlt := fun (k : Nat) (hk : k ≤ Q) => (hQ ▸ nbk_lt (n := 64) (L := msg.length) (by decide) (hQ ▸ hk) : (64 * k + 64 < msg.length ↔ k < Q))
 have hQl : 64 * Q ≤ msg.length := by rw [← hQ]; exact (nbk_spec (by decide) _).1
 rw [hQ]
 have hN' : w.heap[np]? = some (.cells (rN 2 v sa pe kv la (.slice ma msg.length mc) cnt) 125 (0, 0)) := hN
 have HFI_ := Lib.hid hFI
 have HMW_ := Lib.hid hMW
 have HSW_ := Lib.hid hSW
 have HLT_ := Lib.hid hlt
 have HNR_ := Lib.hid hN'
 have HBM := Lib.hid hM.1
 clear hN hN' hFI hMW hSW hQ hlt hP h1 h2 hM hmc1 hmc2 hl1 hl2
 go_enter Tryz.func87, Tryz.ntmps87
 go_wp2_with fail
 have hb1 : Below b0 w (w.alloc (.cells #[.int .u64 0, .int .u64 0, .int .u64 0, .int .u64 0, .int .u64 0, .int .u64 0, .int .u64 0, .int .u64 0, .int .u64 0, .int .u64 0, .int .u64 0, .int .u64 0, .int .u64 0, .int .u64 0, .int .u64 0, .int .u64 0] 123)) := by rw [← hb0]; exact (Below.refl _ _).alloc (Nat.le_refl _) _
 have r0 : (w.alloc (.cells #[.int .u64 0, .int .u64 0, .int .u64 0, .int .u64 0, .int .u64 0, .int .u64 0, .int .u64 0, .int .u64 0, .int .u64 0, .int .u64 0, .int .u64 0, .int .u64 0, .int .u64 0, .int .u64 0, .int .u64 0, .int .u64 0] 123)).heap[b0]? = some (.cells #[.int .u64 0, .int .u64 0, .int .u64 0, .int .u64 0, .int .u64 0, .int .u64 0, .int .u64 0, .int .u64 0, .int .u64 0, .int .u64 0, .int .u64 0, .int .u64 0, .int .u64 0, .int .u64 0, .int .u64 0, .int .u64 0] 123 (0, 0)) := by rw [← hb0]; exact World.alloc_heap_new _ _
 have hs1 : (w.alloc (.cells #[.int .u64 0, .int .u64 0, .int .u64 0, .int .u64 0, .int .u64 0, .int .u64 0, .int .u64 0, .int .u64 0, .int .u64 0, .int .u64 0, .int .u64 0, .int .u64 0, .int .u64 0, .int .u64 0, .int .u64 0, .int .u64 0] 123)).heap.size = b0 + 1 := by simp [hb0]
 generalize (w.alloc (.cells #[.int .u64 0, .int .u64 0, .int .u64 0, .int .u64 0, .int .u64 0, .int .u64 0, .int .u64 0, .int .u64 0, .int .u64 0, .int .u64 0, .int .u64 0, .int .u64 0, .int .u64 0, .int .u64 0, .int .u64 0, .int .u64 0] 123)) = W1 at *
 refine (HFI_.out W1 hb1).mono ?_; rintro e w2 ⟨rfl, hb2⟩
 have hs2 := hb2.size
 have r02 := rowStay r0 hb2
 have hbw := hb1.trans (hb2.mono (by omega))
 have R0 := Lib.hid r02
 have HBW := Lib.hid hbw
 clear hb1 r0 hb2 r02 hbw HFI_
 have HH0 := Lib.hid (st16_words (by decide) hH0w)
 clear hH0w
 go_upto_region 2 with ((with_reducible show wpList _ _ _ (Oper.mk none (Op.store 123 _ _) _ _ _ _ :: _) _ _); refine wpList_store_row rfl 123 _ _ rfl w2.heap.size (arrV .u64 (st16 H0)) rfl rfl 123 _ (World.alloc_heap_new _ _) (by rw [arrV_size, HH0.out.1]; kernel_rfl) (by rw [arrV_size, HH0.out.1]; rfl) arrV_all ?_)
 refine letterW ?_
 intro W hW
 obtain ⟨b6, hb6⟩ : ∃ b6, w2.heap.size = b6 := ⟨_, rfl⟩
 have m6 : W.heap[b6]? = some (.cells (arrV .u64 (st16 (stZ false H0 msg 0))) 123 (0, 0)) := by rw [hW, ← hb6]; exact setRow_heap _ _ _ _ _ _ (World.alloc_heap_new _ _)
 have m0 : W.heap[b0]? = some (.cells #[.int .u64 0, .int .u64 0, .int .u64 0, .int .u64 0, .int .u64 0, .int .u64 0, .int .u64 0, .int .u64 0, .int .u64 0, .int .u64 0, .int .u64 0, .int .u64 0, .int .u64 0, .int .u64 0, .int .u64 0, .int .u64 0] 123 (0, 0)) := by rw [hW]; exact (setRow_other (w2.alloc _) _ _ _ (by omega)).trans ((Below.heap_alloc _ _ _ (by omega)).trans R0.out)
 have hBW2 : Below b0 w W := by rw [hW]; exact below_setRow (HBW.out.alloc (by omega) _) (by omega) _
 have mn : W.heap[np]? = some (.cells (rN 2 v sa pe kv la (.slice ma msg.length mc) cnt) 125 (0, 0)) := (hBW2.block np hnp).trans HNR_.out
 rw [hb6]
 have hb06 : b0 < b6 := by omega
 have hWs : b6 < W.heap.size := (Array.getElem?_eq_some_iff.1 m6).1
 have c31 : W.cell? ⟨np, 31, none⟩ = some (.int .u64 0) := cell_of_heap mn 31
 have c32 : W.cell? ⟨np, 32, none⟩ = some (.int .u64 0) := cell_of_heap mn 32
 have c00 : W.cell? ⟨np, 0, none⟩ = some (.int .i64 2) := cell_of_heap mn 0
 have M6 := Lib.hid m6
 have M0 := Lib.hid m0
 have MN := Lib.hid mn
 have HB2 := Lib.hid hBW2
 clear hW hb6 m6 m0 mn hBW2 R0 HBW hs1 hs2
 go_wp2_with fail
 refine (refBlock_ok false _).mono ?_; rintro e w4 ⟨rfl, hw⟩
 rw [hw]; clear hw
 rw [show ((bB false : Nat) : Int) = 64 from rfl]
 go_wp2_with fail
 go_loopw [7, 8, 10] (fun lo hi at_ wr => ∃ k : Nat, lo = .int .u64 ((64 * k : Nat) : Int) ∧ hi = .int .u64 0 ∧ at_ = .int .i64 ((64 * k : Nat) : Int) ∧ k ≤ Q ∧ wr.heap[b6]? = some (.cells (arrV .u64 (st16 (stZ false H0 msg k))) 123 (0, 0)) ∧ But b6 W wr) (fun _ _ at_ _ => msg.length - (intOf at_).toNat)
 case atStart => exact ⟨0, rfl, rfl, rfl, Nat.zero_le _, M6.out, But.refl _ _⟩
 case round =>
  obtain ⟨k, rfl, rfl, rfl, hk, hrow, hb⟩ := hrel
  have hwrs : b6 < wr.heap.size := by have := hb.size; omega
  have hn := (hb.block np (by omega) (by omega)).trans MN.out
  have c33 : wr.cell? ⟨np, 33, none⟩ = some (.slice ma msg.length mc) := cell_of_heap hn 33
  have hnw : np < wr.heap.size := by omega
  have hbB : Below b0 w wr := HB2.out.trans (hb.below (by omega) (by omega))
  have hLT := HLT_.out k hk
  have hsl : 64 * k ≤ 64 * Q := Nat.mul_le_mul_left _ hk
  obtain ⟨s, hs⟩ : ∃ s, 64 * k = s := ⟨_, rfl⟩
  have hs2 : 64 * (k + 1) = s + 64 := by rw [← hs]; exact Nat.mul_succ _ _
  have HBLK := Lib.hid (show blkZ 64 msg k = padZ 64 ((msg.drop s).take 64) by unfold blkZ; rw [hs])
  have HS2 := Lib.hid hs2
  have HS := Lib.hid hs
  rw [hs] at hLT hsl ⊢
  have hsw := HSW_.out k
  have hst1 : stZ false H0 msg (k + 1) = compZ false (stZ false H0 msg k) (padZ 64 ((msg.drop s).take 64)) ((s + 64 : Nat) : Int) false false := by
   show compZ false (stZ false H0 msg k) (blkZ (bB false) msg k) ((bB false * (k + 1) : Nat) : Int) false false = _
   rw [show bB false = 64 from rfl, HBLK.out, hs2]
  have HROWk := Lib.hid hrow
  have HBk := Lib.hid hb
  have HNk := Lib.hid hn
  have HBBk := Lib.hid hbB
  have HSWk := Lib.hid hsw
  have HST1k := Lib.hid hst1
  clear hs hs2
  have hsL : (s : Int) ≤ msg.length := by omega
  by_cases hlt : k < Q
  case neg =>
   obtain rfl : k = Q := by omega
   have hge : ¬ ((s : Int) + 64 < msg.length) := by have := hLT; omega
   have n0 := (hb.block b0 (by omega) (by omega)).trans M0.out
   have hR16 := st16_words (by decide) hsw
   have hwr0 : b0 < wr.heap.size := by omega
   clear hb hn hbB hsw hst1 hLT hlt hsl
   go_wp2_with (first | ((with_reducible show wpList _ _ _ (Oper.mk (some 62) _ _ _ _ _ :: _) _ _); refine wpList_load_row rfl 123 _ rfl b6 rfl _ _ _ _ hrow Tryz.underlying123 rfl (by rw [arrV_size, hR16.1]; kernel_rfl) ?_) | ((with_reducible show wpList _ _ _ (Oper.mk none (Op.store 123 _ _) _ _ _ _ :: _) _ _); refine wpList_store_row rfl 123 _ _ rfl b0 (arrV .u64 (st16 (stZ false H0 msg k))) rfl rfl 123 _ n0 (by rw [arrV_size, hR16.1]; kernel_rfl) (by rw [arrV_size, hR16.1]; rfl) arrV_all ?_))
   exact bodyPost_ret (results_row_tmp3 rfl _ _ b0 123 _ _ _ rfl (setRow_heap _ _ _ _ _ _ n0) Tryz.underlying123 rfl (by rw [arrV_size, hR16.1]; kernel_rfl)) rfl ⟨by rw [show ((64 : Int) * (k : Int)) = (s : Int) from by have := HS.out; omega]; rfl, by first | exact below_setRow HBBk.out (Nat.le_refl _) _ | (rw [hb0]; exact below_setRow HBBk.out (Nat.le_refl _) _)⟩
  have hlt2 : (s : Int) + 64 < msg.length := by have := hLT.2 hlt; omega
  have hs47 : (s : Int) + 64 < 9223372036854775808 := by omega
  have HS47 := Lib.hid hs47
  clear hrow hb hn hbB hsw hst1 hLT hsl hs47
  go_wp2_with fail
  refine (refAdd_ok s 64 (by omega) _).mono ?_; rintro e w4 ⟨rfl, hw⟩
  rw [hw]; clear hw
  go_upto_region 8 with (fail)
  refine wp_region_below (n := 15) (w0 := wr) (B := wr.heap.size) [44, 45, 46, 47, 48, 49, 50, 51, 52, 53, 54, 55, 56, 57, 58] [(vl (.pointer (some ⟨np, 0, none⟩))), (vl (.pointer (some ⟨np, 0, none⟩))), (vl (.pointer (some ⟨np, 0, none⟩))), (vl (.int .i64 2)), (vl (.agg (arrV .u64 (st16 (stZ false H0 msg k))))), (vl (.pointer (some ⟨np, 0, none⟩))), (vl (.pointer (some ⟨np, 0, none⟩))), (vl (.pointer (some ⟨np, 33, none⟩))), (vl (.slice ma msg.length mc)), (vl (.int .i64 (s : Nat))), (vl (.int .i64 64)), (fun u W => W.ownsRow wr.heap.size 5 1 u 64 ((padZ 64 ((msg.drop s).take 64)).map encB)), (vl (.int .u64 ((s : Int) + 64))), (vl (.int .u64 0)), (vl (.agg (arrV .u64 (st16 (stZ false H0 msg (k + 1))))))] (by dsimp only [List.take]) (by dsimp only [List.drop]) rfl (by rfl) (by decide) (by kernel_rfl) (by rfl) (by kernel_rfl) (by kernel_rfl) (Below.refl _ _).drew (Nat.le_refl _) ?_ ?_ ?_
  ·exact ⟨kV, kV, kV, kV, kV, kV, kV, kV, kV, kV, kV, (fun _ _ _ h hb => ownsRow_same' h (fun g _ hg => hb.block g hg)), kV, kV, kV, trivial⟩
  ·refine eachO_8 ?_ ?_ ?_ ?_ ?_ ?_ ?_ ?_ (eachO_cons ?_ (eachO_cons ?_ (eachO_cons ?_ (eachO_cons ?_ (eachO_cons ?_ (eachO_cons ?_ (eachO_cons ?_ (eachO_nil))))))))
   ·intro A x W hA hW hBW hdep K hK
    have a0 := hA.2 0 (by decide)
    conv at a0 => rhs; whnf
    clear hdep hA
    go_simp
    exact hK _ _ BR rfl
   ·intro A x W hA hW hBW hdep K hK
    have g44 := gv hA hdep 0 44
    clear hdep hA
    go_simp
    exact hK _ _ BR rfl
   ·intro A x W hA hW hBW hdep K hK
    have g45 := gv hA hdep 1 45
    clear hdep hA
    go_simp
    exact hK _ _ BR rfl
   ·intro A x W hA hW hBW hdep K hK
    have g46 := gv hA hdep 2 46
    clear hdep hA
    have g0 := rowStay HNk.out hW
    have c0 : W.cell? ⟨np, 0, none⟩ = some (.int .i64 2) := cell_of_heap g0 0
    go_simp
    exact hK _ _ BR rfl
   ·intro A x W hA hW hBW hdep K hK
    have a6 := hA.2 6 (by decide)
    conv at a6 => rhs; whnf
    clear hdep hA
    have g0 := rowStay HROWk.out hW
    have hR16 := st16_words (by decide) HSWk.out
    refine wp_load_row 123 _ rfl b6 a6 _ _ _ _ g0 Tryz.underlying123 rfl (by rw [arrV_size, hR16.1]; kernel_rfl) (hK _ _ (Below.refl _ _) rfl)
   ·intro A x W hA hW hBW hdep K hK
    have a0 := hA.2 0 (by decide)
    conv at a0 => rhs; whnf
    clear hdep hA
    go_simp
    exact hK _ _ BR rfl
   ·intro A x W hA hW hBW hdep K hK
    have g49 := gv hA hdep 5 49
    clear hdep hA
    go_simp
    exact hK _ _ BR rfl
   ·intro A x W hA hW hBW hdep K hK
    have g50 := gv hA hdep 6 50
    clear hdep hA
    go_simp
    exact hK _ _ BR rfl
   ·intro A x W hA hW hBW hdep K hK
    have g51 := gv hA hdep 7 51
    clear hdep hA
    have g0 := rowStay HNk.out hW
    have c0 : W.cell? ⟨np, 33, none⟩ = some (.slice ma msg.length mc) := cell_of_heap g0 33
    go_simp
    exact hK _ _ BR rfl
   ·intro A x W hA hW hBW hdep K hK
    have a10 := hA.2 10 (by decide)
    conv at a10 => rhs; whnf
    clear hdep hA
    go_simp
    exact hK _ _ BR rfl
   ·intro A x W hA hW hBW hdep K hK
    have a9 := hA.2 9 (by decide)
    conv at a9 => rhs; whnf
    clear hdep hA
    go_simp
    exact hK _ _ BR rfl
   ·intro A x W hA hW hBW hdep K hK
    have g52 := gv hA hdep 8 52
    have g53 := gv hA hdep 9 53
    have g54 := gv hA hdep 10 54
    clear hdep hA
    go_simp
    refine (refCut_ok msg _ s 64 W (HMW_.out W (HBBk.out.trans (hW.mono (by omega)))) (by decide) (by omega) hml).mono ?_; rintro e w' ⟨u, rfl, ho, hb⟩; exact hK _ _ hb (ownsRow_le ho hBW)
   ·intro A x W hA hW hBW hdep K hK
    have a7 := hA.2 7 (by decide)
    conv at a7 => rhs; whnf
    clear hdep hA
    go_simp
    exact hK _ _ BR rfl
   ·intro A x W hA hW hBW hdep K hK
    have a8 := hA.2 8 (by decide)
    conv at a8 => rhs; whnf
    clear hdep hA
    go_simp
    exact hK _ _ BR rfl
   ·intro A x W hA hW hBW hdep K hK
    have g47 := gv hA hdep 3 47
    have g48 := gv hA hdep 4 48
    have g55 : (fun u W => W.ownsRow wr.heap.size 5 1 u 64 ((padZ 64 ((msg.drop s).take 64)).map encB)) (x 55) W := hdep ⟨11, .data⟩ (by simp) rfl _ rfl
    have a55 : A.tmps.getD 55 undef = x 55 := hA.1 55 (by decide)
    have g56 := gv hA hdep 12 56
    have g57 := gv hA hdep 13 57
    clear hdep hA
    have hbz := padZ_bounds (n := 64) (zs := (msg.drop s).take 64) (fun z hz => HBM.out z (List.mem_of_mem_drop (List.mem_of_mem_take hz)))
    go_simp
    rw [show (s : Int) + 64 = ((s + 64 : Nat) : Int) from rfl]
    refine (refIn_false (stZ false H0 msg k) (padZ 64 ((msg.drop s).take 64)) HSWk.out _ (s + 64) HS47.out false false W (own_holds8 g55) hbz (padZ_length (List.length_take_le _ _))).mono ?_; rintro e w' ⟨rfl, hb⟩; rw [← HST1k.out]; exact hK _ _ hb rfl
  intro x W hW hBW hall
  obtain ⟨e44, e45, e46, e47, e48, e49, e50, e51, e52, e53, e54, e55, e56, e57, e58, -⟩ := hall
  change x 44 = (.pointer (some ⟨np, 0, none⟩) : Value) at e44
  change x 45 = (.pointer (some ⟨np, 0, none⟩) : Value) at e45
  change x 46 = (.pointer (some ⟨np, 0, none⟩) : Value) at e46
  change x 47 = (.int .i64 2 : Value) at e47
  change x 48 = (.agg (arrV .u64 (st16 (stZ false H0 msg k))) : Value) at e48
  change x 49 = (.pointer (some ⟨np, 0, none⟩) : Value) at e49
  change x 50 = (.pointer (some ⟨np, 0, none⟩) : Value) at e50
  change x 51 = (.pointer (some ⟨np, 33, none⟩) : Value) at e51
  change x 52 = (.slice ma msg.length mc : Value) at e52
  change x 53 = (.int .i64 (s : Nat) : Value) at e53
  change x 54 = (.int .i64 64 : Value) at e54
  change (fun u W => W.ownsRow wr.heap.size 5 1 u 64 ((padZ 64 ((msg.drop s).take 64)).map encB)) (x 55) W at e55
  change x 56 = (.int .u64 ((s : Int) + 64) : Value) at e56
  change x 57 = (.int .u64 0 : Value) at e57
  change x 58 = (.agg (arrV .u64 (st16 (stZ false H0 msg (k + 1)))) : Value) at e58
  refine thenTail_cons ?_
  simp only [lay, Act.put, List.setIfInBounds_toArray, List.set_cons_zero, List.set_cons_succ, e44, e45, e46, e47, e48, e49, e50, e51, e52, e53, e54, e56, e57, e58]
  clear e44 e45 e46 e47 e48 e49 e50 e51 e52 e53 e54 e56 e57 e58
  have hr9 := rowStay HROWk.out hW
  have hR16 := st16_words (by decide) (HSW_.out (k + 1))
  have hR17 := st16_words (by decide) HSWk.out
  refine wpList_store_row rfl 123 _ _ rfl b6 (arrV .u64 (st16 (stZ false H0 msg (k + 1)))) rfl rfl 123 _ hr9 (by rw [arrV_size, hR16.1]; kernel_rfl) (by rw [arrV_size, arrV_size, hR16.1, hR17.1]) arrV_all ?_
  refine thenTail_nil ?_
  have HA := Lib.hid (setRow_heap _ b6 _ (arrV .u64 (st16 (stZ false H0 msg (k + 1)))) _ _ hr9)
  have HC := Lib.hid (HBk.out.trans ((But.of_below hW).trans (But.of_setRow _ b6 (arrV .u64 (st16 (stZ false H0 msg (k + 1)))))))
  clear hr9 hR16 hR17 e55 hW hBW c33 hnw hwrs
  go_wp2
  refine ⟨⟨k + 1, by rw [HS2.out]; rfl, rfl, by rw [HS2.out]; rfl, by omega, HA.out, HC.out⟩, ?_⟩
  simp [intOf]; omega
end Go.Proofs.YtjogmckaakkomaaGreat
/- The whole output, by the reference. No condition. -/
namespace Go.Proofs.YtjogmckaakkomaaGreat
open Go.ChangeShapes Go.WideShapes Go.ChangeAt Go.RowKit Go.Joins Go.Shelf Go.Maps
attribute [local go_sem] Oper.semAt_some

theorem bytesW_congr (n : Nat) {h g : List Int} : ∀ i, (∀ j, j < i → wd h j = wd g j) → bytesW n h i = bytesW n g i
 | 0, _ => rfl
 | i + 1, H => by rw [bytesW, bytesW, bytesW_congr n i (fun j hj => H j (by omega)), H i (by omega)]
set_option maxRecDepth 100000 in
set_option maxHeartbeats 4000000 in
theorem refOut_true (v : Nat → Nat) (z1 z2 msg : List Int) (sa pe kv mv : Value) (la : Bool) (cnt : Int) (np : Nat) (w : World) (hN : rNode true w np v sa pe kv la mv cnt) (hP : ParOk true v) (h1 : Hold w sa z1) (h2 : Hold w pe z2) (hl1 : z1.length ≤ 16) (hl2 : z2.length ≤ 16) (hM : Hold w mv msg) (hml : (msg.length : Int) ≤ 281474976710656) :
  Calls Tryz.prog 68 #[.pointer (some ⟨np, 0, none⟩)] w fun e w' => ∃ u, e = .returned u ∧ w'.ownsRow w.heap.size 5 1 u 64 ((outZ true (h0Z true (blkP true v z1 z2)) msg la).map encB) ∧ Below w.heap.size w w' := by
 obtain ⟨b0, hb0⟩ : ∃ b0, w.heap.size = b0 := ⟨_, rfl⟩
 have hPA := refPassed_true v z1 z2 msg sa pe kv mv la cnt np w hN hP h1 h2 hl1 hl2 hM hml
 obtain ⟨ma, mc, rfl, hmc1, hmc2⟩ := hM.slice
 have hnp : np < b0 := by rw [← hb0]; exact (Array.getElem?_eq_some_iff.1 hN).1
 have hMW := fun (W : World) (hb : Below b0 w W) => hM.below (hb0 ▸ hb)
 have hH0w := h0Z_words true (blkP true v z1 z2)
 generalize h0Z true (blkP true v z1 z2) = H0 at *
 have hsw := stZ_words true hH0w msg (nbk 128 msg.length)
 have hsp := nbk_spec (n := 128) (by decide) msg.length
 have hout : outZ true H0 msg la = bytesW 8 (compZ true (stZ true H0 msg (nbk 128 msg.length)) (padZ 128 ((msg.drop (128 * nbk 128 msg.length)).take 128)) (msg.length : Int) true la) 8 := rfl
 rw [hout]
 obtain ⟨ST, hST⟩ : ∃ ST, stZ true H0 msg (nbk 128 msg.length) = ST := ⟨_, rfl⟩
 obtain ⟨s, hs⟩ : ∃ s, 128 * nbk 128 msg.length = s := ⟨_, rfl⟩
 rw [hST, hs] at hPA ⊢
 rw [hST] at hsw
 rw [hs] at hsp
 obtain ⟨R, hR⟩ : ∃ R, compZ true ST (padZ 128 ((msg.drop s).take 128)) (msg.length : Int) true la = R := ⟨_, rfl⟩
 have hRw : Words 64 8 R := by rw [← hR]; exact compZ_words true hsw _ _ _ _
 rw [hR]
 have hbw : bytesW 8 R 8 = bytesW 8 (st16 R) 8 := bytesW_congr 8 8 (fun j hj => (st16_wd hRw.1 hj).symm)
 rw [hbw]
 have hsL : s ≤ msg.length := hsp.1
 have hN' : w.heap[np]? = some (.cells (rN 1 v sa pe kv la (.slice ma msg.length mc) cnt) 125 (0, 0)) := hN
 have hBM := hM.1
 have HPA_ := Lib.hid hPA
 have HMW_ := Lib.hid hMW
 have HSW_ := Lib.hid hsw
 have HR_ := Lib.hid hR
 have HRW_ := Lib.hid hRw
 have HNR_ := Lib.hid hN'
 have HBM_ := Lib.hid hBM
 clear hout hbw hST hs hsp hR hRw hPA hMW hsw hN hN' hBM hH0w hP h1 h2 hM hmc1 hmc2 hl1 hl2
 go_enter Tryz.func68, Tryz.ntmps68
 go_wp2_with fail
 refine HPA_.out.mono ?_; rintro e w2 ⟨rfl, hb2⟩
 have HS16 := Lib.hid (st16_words (by decide) HSW_.out)
 have hs2 := hb2.size
 have HB2 := Lib.hid hb2
 clear hb2
 go_upto_region 2 with ((with_reducible show wpList _ _ _ (Oper.mk none (Op.store 123 _ _) _ _ _ _ :: _) _ _); refine wpList_store_row rfl 123 _ _ rfl w2.heap.size (arrV .u64 (st16 ST)) rfl rfl 123 _ (World.alloc_heap_new _ _) (by rw [arrV_size, HS16.out.1]; kernel_rfl) (by rw [arrV_size, HS16.out.1]; rfl) arrV_all ?_)
 refine letterW ?_
 intro W0 hW
 obtain ⟨b3, hb3⟩ : ∃ b3, w2.heap.size = b3 := ⟨_, rfl⟩
 have m3 : W0.heap[b3]? = some (.cells (arrV .u64 (st16 ST)) 123 (0, 0)) := by rw [hW, ← hb3]; exact setRow_heap _ _ _ _ _ _ (World.alloc_heap_new _ _)
 have hBW2 : Below b0 w W0 := by rw [hW, ← hb0]; exact below_setRow (HB2.out.alloc hs2 _) hs2 _
 have mn : W0.heap[np]? = some (.cells (rN 1 v sa pe kv la (.slice ma msg.length mc) cnt) 125 (0, 0)) := (hBW2.block np hnp).trans HNR_.out
 rw [hb3]
 have hb03 : b0 ≤ b3 := by omega
 have hWs : b3 < W0.heap.size := (Array.getElem?_eq_some_iff.1 m3).1
 have hnW : np < W0.heap.size := by omega
 have c33 : W0.cell? ⟨np, 33, none⟩ = some (.slice ma msg.length mc) := cell_of_heap mn 33
 have M3 := Lib.hid m3
 have MN := Lib.hid mn
 have HBW2 := Lib.hid hBW2
 clear hW hb3 m3 mn hBW2 HB2 hs2 HPA_
 have hsi : (s : Int) ≤ msg.length := by omega
 have hcv : ((msg.length : Int) - s) = ((msg.length - s : Nat) : Int) := by omega
 have hcw : IntKind.u64.wrap ((msg.length : Int) - s) = ((msg.length - s : Nat) : Int) := by rw [hcv]; exact u64_wrap_id _ (by omega) (by omega)
 have HCV := Lib.hid hcv
 clear hcv
 go_wp2_with fail
 refine (refAdd_ok s (msg.length - s) (by omega) _).mono ?_; rintro e w4 ⟨rfl, hw⟩
 rw [hw]; clear hw
 rw [show s + (msg.length - s) = msg.length by omega]
 clear hcw
 go_upto_region 3 with (fail)
 refine wp_region_below (n := 29) (w0 := W0) (B := W0.heap.size) [29, 30, 31, 32, 33, 34, 35, 36, 37, 38, 39, 40, 41, 42, 43, 44, 45, 46, 47, 48, 49, 50, 51, 52, 53, 54, 55, 56, 2] [(vl (.pointer (some ⟨np, 0, none⟩))), (vl (.pointer (some ⟨np, 0, none⟩))), (vl (.pointer (some ⟨np, 0, none⟩))), (vl (.int .i64 1)), (vl (.pointer (some ⟨np, 0, none⟩))), (vl (.pointer (some ⟨np, 0, none⟩))), (vl (.pointer (some ⟨np, 0, none⟩))), (vl (.int .i64 1)), (vl (.agg (arrV .u64 (st16 ST)))), (vl (.pointer (some ⟨np, 0, none⟩))), (vl (.pointer (some ⟨np, 0, none⟩))), (vl (.pointer (some ⟨np, 33, none⟩))), (vl (.slice ma msg.length mc)), (vl (.int .i64 (s : Nat))), (vl (.pointer (some ⟨np, 0, none⟩))), (vl (.pointer (some ⟨np, 0, none⟩))), (vl (.pointer (some ⟨np, 0, none⟩))), (vl (.int .i64 1)), (vl (.int .i64 128)), (fun u W => W.ownsRow W0.heap.size 5 1 u 128 ((padZ 128 ((msg.drop s).take 128)).map encB)), (vl (.int .u64 (msg.length : Nat))), (vl (.int .u64 0)), (vl (.pointer (some ⟨np, 0, none⟩))), (vl (.pointer (some ⟨np, 0, none⟩))), (vl (.pointer (some ⟨np, 13, none⟩))), (vl (.bool la)), (vl (.agg (arrV .u64 (st16 R)))), (fun u W => W.ownsRow W0.heap.size 5 1 u 64 ((bytesW 8 (st16 R) 8).map encB)), (fun u W => W.ownsRow W0.heap.size 5 1 u 64 ((bytesW 8 (st16 R) 8).map encB))] (by dsimp only [List.take]) (by dsimp only [List.drop]) rfl (by rfl) (by decide) (by kernel_rfl) (by rfl) (by kernel_rfl) (by kernel_rfl) (Below.refl _ _).drew (Nat.le_refl _) ?_ ?_ ?_
 ·exact ⟨kV, kV, kV, kV, kV, kV, kV, kV, kV, kV, kV, kV, kV, kV, kV, kV, kV, kV, kV, (fun _ _ _ h hb => ownsRow_same' h (fun g _ hg => hb.block g hg)), kV, kV, kV, kV, kV, kV, kV, (fun _ _ _ h hb => ownsRow_same' h (fun g _ hg => hb.block g hg)), (fun _ _ _ h hb => ownsRow_same' h (fun g _ hg => hb.block g hg)), trivial⟩
 ·refine eachO_8 ?_ ?_ ?_ ?_ ?_ ?_ ?_ ?_ (eachO_8 ?_ ?_ ?_ ?_ ?_ ?_ ?_ ?_ (eachO_8 ?_ ?_ ?_ ?_ ?_ ?_ ?_ ?_ (eachO_cons ?_ (eachO_cons ?_ (eachO_cons ?_ (eachO_cons ?_ (eachO_cons ?_ (eachO_nil))))))))
  ·intro A x W hA hW hBW hdep K hK
   have a0 := hA.2 0 (by decide)
   conv at a0 => rhs; whnf
   clear hdep hA
   go_simp
   exact hK _ _ BR rfl
  ·intro A x W hA hW hBW hdep K hK
   have g29 := gv hA hdep 0 29
   clear hdep hA
   go_simp
   exact hK _ _ BR rfl
  ·intro A x W hA hW hBW hdep K hK
   have g30 := gv hA hdep 1 30
   clear hdep hA
   go_simp
   exact hK _ _ BR rfl
  ·intro A x W hA hW hBW hdep K hK
   have g31 := gv hA hdep 2 31
   clear hdep hA
   have g0 := rowStay MN.out hW
   have c0 : W.cell? ⟨np, 0, none⟩ = some (.int .i64 1) := cell_of_heap g0 0
   go_simp
   exact hK _ _ BR rfl
  ·intro A x W hA hW hBW hdep K hK
   have a0 := hA.2 0 (by decide)
   conv at a0 => rhs; whnf
   clear hdep hA
   go_simp
   exact hK _ _ BR rfl
  ·intro A x W hA hW hBW hdep K hK
   have g33 := gv hA hdep 4 33
   clear hdep hA
   go_simp
   exact hK _ _ BR rfl
  ·intro A x W hA hW hBW hdep K hK
   have g34 := gv hA hdep 5 34
   clear hdep hA
   go_simp
   exact hK _ _ BR rfl
  ·intro A x W hA hW hBW hdep K hK
   have g35 := gv hA hdep 6 35
   clear hdep hA
   have g0 := rowStay MN.out hW
   have c0 : W.cell? ⟨np, 0, none⟩ = some (.int .i64 1) := cell_of_heap g0 0
   go_simp
   exact hK _ _ BR rfl
  ·intro A x W hA hW hBW hdep K hK
   have a3 := hA.2 3 (by decide)
   conv at a3 => rhs; whnf
   clear hdep hA
   have g0 := rowStay M3.out hW
   refine wp_load_row 123 _ rfl b3 a3 _ _ _ _ g0 Tryz.underlying123 rfl (by rw [arrV_size, HS16.out.1]; kernel_rfl) (hK _ _ (Below.refl _ _) rfl)
  ·intro A x W hA hW hBW hdep K hK
   have a0 := hA.2 0 (by decide)
   conv at a0 => rhs; whnf
   clear hdep hA
   go_simp
   exact hK _ _ BR rfl
  ·intro A x W hA hW hBW hdep K hK
   have g38 := gv hA hdep 9 38
   clear hdep hA
   go_simp
   exact hK _ _ BR rfl
  ·intro A x W hA hW hBW hdep K hK
   have g39 := gv hA hdep 10 39
   clear hdep hA
   go_simp
   exact hK _ _ BR rfl
  ·intro A x W hA hW hBW hdep K hK
   have g40 := gv hA hdep 11 40
   clear hdep hA
   have g0 := rowStay MN.out hW
   have c0 : W.cell? ⟨np, 33, none⟩ = some (.slice ma msg.length mc) := cell_of_heap g0 33
   go_simp
   exact hK _ _ BR rfl
  ·intro A x W hA hW hBW hdep K hK
   have a6 := hA.2 6 (by decide)
   conv at a6 => rhs; whnf
   clear hdep hA
   go_simp
   exact hK _ _ BR rfl
  ·intro A x W hA hW hBW hdep K hK
   have a0 := hA.2 0 (by decide)
   conv at a0 => rhs; whnf
   clear hdep hA
   go_simp
   exact hK _ _ BR rfl
  ·intro A x W hA hW hBW hdep K hK
   have g43 := gv hA hdep 14 43
   clear hdep hA
   go_simp
   exact hK _ _ BR rfl
  ·intro A x W hA hW hBW hdep K hK
   have g44 := gv hA hdep 15 44
   clear hdep hA
   go_simp
   exact hK _ _ BR rfl
  ·intro A x W hA hW hBW hdep K hK
   have g45 := gv hA hdep 16 45
   clear hdep hA
   have g0 := rowStay MN.out hW
   have c0 : W.cell? ⟨np, 0, none⟩ = some (.int .i64 1) := cell_of_heap g0 0
   go_simp
   exact hK _ _ BR rfl
  ·intro A x W hA hW hBW hdep K hK
   have g46 := gv hA hdep 17 46
   clear hdep hA
   go_simp
   refine (refBlock_ok true _).mono ?_; rintro e w' ⟨rfl, hw⟩; exact hK _ _ (by rw [hw]; exact Below.refl _ _) rfl
  ·intro A x W hA hW hBW hdep K hK
   have g41 := gv hA hdep 12 41
   have g42 := gv hA hdep 13 42
   have g47 := gv hA hdep 18 47
   clear hdep hA
   go_simp
   refine (refCut_ok msg _ s 128 W (HMW_.out W (HBW2.out.trans (hW.mono (by omega)))) (by decide) (by omega) hml).mono ?_; rintro e w' ⟨u, rfl, ho, hb⟩; exact hK _ _ hb (ownsRow_le ho hBW)
  ·intro A x W hA hW hBW hdep K hK
   have a4 := hA.2 4 (by decide)
   conv at a4 => rhs; whnf
   clear hdep hA
   go_simp
   exact hK _ _ BR rfl
  ·intro A x W hA hW hBW hdep K hK
   have a5 := hA.2 5 (by decide)
   conv at a5 => rhs; whnf
   clear hdep hA
   go_simp
   exact hK _ _ BR rfl
  ·intro A x W hA hW hBW hdep K hK
   have a0 := hA.2 0 (by decide)
   conv at a0 => rhs; whnf
   clear hdep hA
   go_simp
   exact hK _ _ BR rfl
  ·intro A x W hA hW hBW hdep K hK
   have g51 := gv hA hdep 22 51
   clear hdep hA
   go_simp
   exact hK _ _ BR rfl
  ·intro A x W hA hW hBW hdep K hK
   have g52 := gv hA hdep 23 52
   clear hdep hA
   go_simp
   exact hK _ _ BR rfl
  ·intro A x W hA hW hBW hdep K hK
   have g53 := gv hA hdep 24 53
   clear hdep hA
   have g0 := rowStay MN.out hW
   have c0 : W.cell? ⟨np, 13, none⟩ = some (.bool la) := cell_of_heap g0 13
   go_simp
   exact hK _ _ BR rfl
  ·intro A x W hA hW hBW hdep K hK
   have g36 := gv hA hdep 7 36
   have g37 := gv hA hdep 8 37
   have g48 : (fun u W => W.ownsRow W0.heap.size 5 1 u 128 ((padZ 128 ((msg.drop s).take 128)).map encB)) (x 48) W := hdep ⟨19, .data⟩ (by simp) rfl _ rfl
   have a48 : A.tmps.getD 48 undef = x 48 := hA.1 48 (by decide)
   have g49 := gv hA hdep 20 49
   have g50 := gv hA hdep 21 50
   have g54 := gv hA hdep 25 54
   clear hdep hA
   have hbz := padZ_bounds (n := 128) (zs := (msg.drop s).take 128) (fun z hz => HBM_.out z (List.mem_of_mem_drop (List.mem_of_mem_take hz)))
   go_simp
   refine (refIn_true ST (padZ 128 ((msg.drop s).take 128)) HSW_.out _ msg.length (by omega) true la W (own_holds8 g48) hbz (padZ_length (List.length_take_le _ _))).mono ?_; rintro e w' ⟨rfl, hb⟩; rw [HR_.out]; exact hK _ _ hb rfl
  ·intro A x W hA hW hBW hdep K hK
   have g32 := gv hA hdep 3 32
   have g55 := gv hA hdep 26 55
   clear hdep hA
   go_simp
   refine (refBytes_ok true (st16 R) (st16_words (by decide) HRW_.out) _).mono ?_; rintro e w' ⟨u, rfl, ho, hb⟩; exact hK _ _ hb (ownsRow_le ho hBW)
  ·intro A x W hA hW hBW hdep K hK
   have g56 : (fun u W => W.ownsRow W0.heap.size 5 1 u 64 ((bytesW 8 (st16 R) 8).map encB)) (x 56) W := hdep ⟨27, .data⟩ (by simp) rfl _ rfl
   have a56 : A.tmps.getD 56 undef = x 56 := hA.1 56 (by decide)
   clear hdep hA
   go_simp
   exact hK _ _ (Below.refl _ _) (a56 ▸ g56)
 intro x W hW hBW hall
 obtain ⟨e29, e30, e31, e32, e33, e34, e35, e36, e37, e38, e39, e40, e41, e42, e43, e44, e45, e46, e47, e48, e49, e50, e51, e52, e53, e54, e55, e56, e2, -⟩ := hall
 change x 29 = (.pointer (some ⟨np, 0, none⟩) : Value) at e29
 change x 30 = (.pointer (some ⟨np, 0, none⟩) : Value) at e30
 change x 31 = (.pointer (some ⟨np, 0, none⟩) : Value) at e31
 change x 32 = (.int .i64 1 : Value) at e32
 change x 33 = (.pointer (some ⟨np, 0, none⟩) : Value) at e33
 change x 34 = (.pointer (some ⟨np, 0, none⟩) : Value) at e34
 change x 35 = (.pointer (some ⟨np, 0, none⟩) : Value) at e35
 change x 36 = (.int .i64 1 : Value) at e36
 change x 37 = (.agg (arrV .u64 (st16 ST)) : Value) at e37
 change x 38 = (.pointer (some ⟨np, 0, none⟩) : Value) at e38
 change x 39 = (.pointer (some ⟨np, 0, none⟩) : Value) at e39
 change x 40 = (.pointer (some ⟨np, 33, none⟩) : Value) at e40
 change x 41 = (.slice ma msg.length mc : Value) at e41
 change x 42 = (.int .i64 (s : Nat) : Value) at e42
 change x 43 = (.pointer (some ⟨np, 0, none⟩) : Value) at e43
 change x 44 = (.pointer (some ⟨np, 0, none⟩) : Value) at e44
 change x 45 = (.pointer (some ⟨np, 0, none⟩) : Value) at e45
 change x 46 = (.int .i64 1 : Value) at e46
 change x 47 = (.int .i64 128 : Value) at e47
 change (fun u W => W.ownsRow W0.heap.size 5 1 u 128 ((padZ 128 ((msg.drop s).take 128)).map encB)) (x 48) W at e48
 change x 49 = (.int .u64 (msg.length : Nat) : Value) at e49
 change x 50 = (.int .u64 0 : Value) at e50
 change x 51 = (.pointer (some ⟨np, 0, none⟩) : Value) at e51
 change x 52 = (.pointer (some ⟨np, 0, none⟩) : Value) at e52
 change x 53 = (.pointer (some ⟨np, 13, none⟩) : Value) at e53
 change x 54 = (.bool la : Value) at e54
 change x 55 = (.agg (arrV .u64 (st16 R)) : Value) at e55
 change (fun u W => W.ownsRow W0.heap.size 5 1 u 64 ((bytesW 8 (st16 R) 8).map encB)) (x 56) W at e56
 change (fun u W => W.ownsRow W0.heap.size 5 1 u 64 ((bytesW 8 (st16 R) 8).map encB)) (x 2) W at e2
 refine thenTail_nil ?_
 simp only [lay, Act.put, List.setIfInBounds_toArray, List.set_cons_zero, List.set_cons_succ, e29, e30, e31, e32, e33, e34, e35, e36, e37, e38, e39, e40, e41, e42, e43, e44, e45, e46, e47, e49, e50, e51, e52, e53, e54, e55]
 clear e29 e30 e31 e32 e33 e34 e35 e36 e37 e38 e39 e40 e41 e42 e43 e44 e45 e46 e47 e49 e50 e51 e52 e53 e54 e55
 have E2 := Lib.hid (ownsRow_le e2 (show w.heap.size ≤ W0.heap.size by omega))
 have HBF := Lib.hid (HBW2.out.trans (hW.mono (by omega)))
 clear e48 e56 e2 hW hBW
 go_wp2
 go_ret
 exact ⟨_, rfl, E2.out, by rw [hb0]; exact HBF.out⟩
set_option maxRecDepth 100000 in
set_option maxHeartbeats 4000000 in
theorem refOut_false (v : Nat → Nat) (z1 z2 msg : List Int) (sa pe kv mv : Value) (la : Bool) (cnt : Int) (np : Nat) (w : World) (hN : rNode false w np v sa pe kv la mv cnt) (hP : ParOk false v) (h1 : Hold w sa z1) (h2 : Hold w pe z2) (hl1 : z1.length ≤ 8) (hl2 : z2.length ≤ 8) (hM : Hold w mv msg) (hml : (msg.length : Int) ≤ 281474976710656) :
  Calls Tryz.prog 68 #[.pointer (some ⟨np, 0, none⟩)] w fun e w' => ∃ u, e = .returned u ∧ w'.ownsRow w.heap.size 5 1 u 32 ((outZ false (h0Z false (blkP false v z1 z2)) msg la).map encB) ∧ Below w.heap.size w w' := by
 obtain ⟨b0, hb0⟩ : ∃ b0, w.heap.size = b0 := ⟨_, rfl⟩
 have hPA := refPassed_false v z1 z2 msg sa pe kv mv la cnt np w hN hP h1 h2 hl1 hl2 hM hml
 obtain ⟨ma, mc, rfl, hmc1, hmc2⟩ := hM.slice
 have hnp : np < b0 := by rw [← hb0]; exact (Array.getElem?_eq_some_iff.1 hN).1
 have hMW := fun (W : World) (hb : Below b0 w W) => hM.below (hb0 ▸ hb)
 have hH0w := h0Z_words false (blkP false v z1 z2)
 generalize h0Z false (blkP false v z1 z2) = H0 at *
 have hsw := stZ_words false hH0w msg (nbk 64 msg.length)
 have hsp := nbk_spec (n := 64) (by decide) msg.length
 have hout : outZ false H0 msg la = bytesW 4 (compZ false (stZ false H0 msg (nbk 64 msg.length)) (padZ 64 ((msg.drop (64 * nbk 64 msg.length)).take 64)) (msg.length : Int) true la) 8 := rfl
 rw [hout]
 obtain ⟨ST, hST⟩ : ∃ ST, stZ false H0 msg (nbk 64 msg.length) = ST := ⟨_, rfl⟩
 obtain ⟨s, hs⟩ : ∃ s, 64 * nbk 64 msg.length = s := ⟨_, rfl⟩
 rw [hST, hs] at hPA ⊢
 rw [hST] at hsw
 rw [hs] at hsp
 obtain ⟨R, hR⟩ : ∃ R, compZ false ST (padZ 64 ((msg.drop s).take 64)) (msg.length : Int) true la = R := ⟨_, rfl⟩
 have hRw : Words 32 8 R := by rw [← hR]; exact compZ_words false hsw _ _ _ _
 rw [hR]
 have hbw : bytesW 4 R 8 = bytesW 4 (st16 R) 8 := bytesW_congr 4 8 (fun j hj => (st16_wd hRw.1 hj).symm)
 rw [hbw]
 have hsL : s ≤ msg.length := hsp.1
 have hN' : w.heap[np]? = some (.cells (rN 2 v sa pe kv la (.slice ma msg.length mc) cnt) 125 (0, 0)) := hN
 have hBM := hM.1
 have HPA_ := Lib.hid hPA
 have HMW_ := Lib.hid hMW
 have HSW_ := Lib.hid hsw
 have HR_ := Lib.hid hR
 have HRW_ := Lib.hid hRw
 have HNR_ := Lib.hid hN'
 have HBM_ := Lib.hid hBM
 clear hout hbw hST hs hsp hR hRw hPA hMW hsw hN hN' hBM hH0w hP h1 h2 hM hmc1 hmc2 hl1 hl2
 go_enter Tryz.func68, Tryz.ntmps68
 go_wp2_with fail
 refine HPA_.out.mono ?_; rintro e w2 ⟨rfl, hb2⟩
 have HS16 := Lib.hid (st16_words (by decide) HSW_.out)
 have hs2 := hb2.size
 have HB2 := Lib.hid hb2
 clear hb2
 go_upto_region 2 with ((with_reducible show wpList _ _ _ (Oper.mk none (Op.store 123 _ _) _ _ _ _ :: _) _ _); refine wpList_store_row rfl 123 _ _ rfl w2.heap.size (arrV .u64 (st16 ST)) rfl rfl 123 _ (World.alloc_heap_new _ _) (by rw [arrV_size, HS16.out.1]; kernel_rfl) (by rw [arrV_size, HS16.out.1]; rfl) arrV_all ?_)
 refine letterW ?_
 intro W0 hW
 obtain ⟨b3, hb3⟩ : ∃ b3, w2.heap.size = b3 := ⟨_, rfl⟩
 have m3 : W0.heap[b3]? = some (.cells (arrV .u64 (st16 ST)) 123 (0, 0)) := by rw [hW, ← hb3]; exact setRow_heap _ _ _ _ _ _ (World.alloc_heap_new _ _)
 have hBW2 : Below b0 w W0 := by rw [hW, ← hb0]; exact below_setRow (HB2.out.alloc hs2 _) hs2 _
 have mn : W0.heap[np]? = some (.cells (rN 2 v sa pe kv la (.slice ma msg.length mc) cnt) 125 (0, 0)) := (hBW2.block np hnp).trans HNR_.out
 rw [hb3]
 have hb03 : b0 ≤ b3 := by omega
 have hWs : b3 < W0.heap.size := (Array.getElem?_eq_some_iff.1 m3).1
 have hnW : np < W0.heap.size := by omega
 have c33 : W0.cell? ⟨np, 33, none⟩ = some (.slice ma msg.length mc) := cell_of_heap mn 33
 have M3 := Lib.hid m3
 have MN := Lib.hid mn
 have HBW2 := Lib.hid hBW2
 clear hW hb3 m3 mn hBW2 HB2 hs2 HPA_
 have hsi : (s : Int) ≤ msg.length := by omega
 have hcv : ((msg.length : Int) - s) = ((msg.length - s : Nat) : Int) := by omega
 have hcw : IntKind.u64.wrap ((msg.length : Int) - s) = ((msg.length - s : Nat) : Int) := by rw [hcv]; exact u64_wrap_id _ (by omega) (by omega)
 have HCV := Lib.hid hcv
 clear hcv
 go_wp2_with fail
 refine (refAdd_ok s (msg.length - s) (by omega) _).mono ?_; rintro e w4 ⟨rfl, hw⟩
 rw [hw]; clear hw
 rw [show s + (msg.length - s) = msg.length by omega]
 clear hcw
 go_upto_region 3 with (fail)
 refine wp_region_below (n := 29) (w0 := W0) (B := W0.heap.size) [29, 30, 31, 32, 33, 34, 35, 36, 37, 38, 39, 40, 41, 42, 43, 44, 45, 46, 47, 48, 49, 50, 51, 52, 53, 54, 55, 56, 2] [(vl (.pointer (some ⟨np, 0, none⟩))), (vl (.pointer (some ⟨np, 0, none⟩))), (vl (.pointer (some ⟨np, 0, none⟩))), (vl (.int .i64 2)), (vl (.pointer (some ⟨np, 0, none⟩))), (vl (.pointer (some ⟨np, 0, none⟩))), (vl (.pointer (some ⟨np, 0, none⟩))), (vl (.int .i64 2)), (vl (.agg (arrV .u64 (st16 ST)))), (vl (.pointer (some ⟨np, 0, none⟩))), (vl (.pointer (some ⟨np, 0, none⟩))), (vl (.pointer (some ⟨np, 33, none⟩))), (vl (.slice ma msg.length mc)), (vl (.int .i64 (s : Nat))), (vl (.pointer (some ⟨np, 0, none⟩))), (vl (.pointer (some ⟨np, 0, none⟩))), (vl (.pointer (some ⟨np, 0, none⟩))), (vl (.int .i64 2)), (vl (.int .i64 64)), (fun u W => W.ownsRow W0.heap.size 5 1 u 64 ((padZ 64 ((msg.drop s).take 64)).map encB)), (vl (.int .u64 (msg.length : Nat))), (vl (.int .u64 0)), (vl (.pointer (some ⟨np, 0, none⟩))), (vl (.pointer (some ⟨np, 0, none⟩))), (vl (.pointer (some ⟨np, 13, none⟩))), (vl (.bool la)), (vl (.agg (arrV .u64 (st16 R)))), (fun u W => W.ownsRow W0.heap.size 5 1 u 32 ((bytesW 4 (st16 R) 8).map encB)), (fun u W => W.ownsRow W0.heap.size 5 1 u 32 ((bytesW 4 (st16 R) 8).map encB))] (by dsimp only [List.take]) (by dsimp only [List.drop]) rfl (by rfl) (by decide) (by kernel_rfl) (by rfl) (by kernel_rfl) (by kernel_rfl) (Below.refl _ _).drew (Nat.le_refl _) ?_ ?_ ?_
 ·exact ⟨kV, kV, kV, kV, kV, kV, kV, kV, kV, kV, kV, kV, kV, kV, kV, kV, kV, kV, kV, (fun _ _ _ h hb => ownsRow_same' h (fun g _ hg => hb.block g hg)), kV, kV, kV, kV, kV, kV, kV, (fun _ _ _ h hb => ownsRow_same' h (fun g _ hg => hb.block g hg)), (fun _ _ _ h hb => ownsRow_same' h (fun g _ hg => hb.block g hg)), trivial⟩
 ·refine eachO_8 ?_ ?_ ?_ ?_ ?_ ?_ ?_ ?_ (eachO_8 ?_ ?_ ?_ ?_ ?_ ?_ ?_ ?_ (eachO_8 ?_ ?_ ?_ ?_ ?_ ?_ ?_ ?_ (eachO_cons ?_ (eachO_cons ?_ (eachO_cons ?_ (eachO_cons ?_ (eachO_cons ?_ (eachO_nil))))))))
  ·intro A x W hA hW hBW hdep K hK
   have a0 := hA.2 0 (by decide)
   conv at a0 => rhs; whnf
   clear hdep hA
   go_simp
   exact hK _ _ BR rfl
  ·intro A x W hA hW hBW hdep K hK
   have g29 := gv hA hdep 0 29
   clear hdep hA
   go_simp
   exact hK _ _ BR rfl
  ·intro A x W hA hW hBW hdep K hK
   have g30 := gv hA hdep 1 30
   clear hdep hA
   go_simp
   exact hK _ _ BR rfl
  ·intro A x W hA hW hBW hdep K hK
   have g31 := gv hA hdep 2 31
   clear hdep hA
   have g0 := rowStay MN.out hW
   have c0 : W.cell? ⟨np, 0, none⟩ = some (.int .i64 2) := cell_of_heap g0 0
   go_simp
   exact hK _ _ BR rfl
  ·intro A x W hA hW hBW hdep K hK
   have a0 := hA.2 0 (by decide)
   conv at a0 => rhs; whnf
   clear hdep hA
   go_simp
   exact hK _ _ BR rfl
  ·intro A x W hA hW hBW hdep K hK
   have g33 := gv hA hdep 4 33
   clear hdep hA
   go_simp
   exact hK _ _ BR rfl
  ·intro A x W hA hW hBW hdep K hK
   have g34 := gv hA hdep 5 34
   clear hdep hA
   go_simp
   exact hK _ _ BR rfl
  ·intro A x W hA hW hBW hdep K hK
   have g35 := gv hA hdep 6 35
   clear hdep hA
   have g0 := rowStay MN.out hW
   have c0 : W.cell? ⟨np, 0, none⟩ = some (.int .i64 2) := cell_of_heap g0 0
   go_simp
   exact hK _ _ BR rfl
  ·intro A x W hA hW hBW hdep K hK
   have a3 := hA.2 3 (by decide)
   conv at a3 => rhs; whnf
   clear hdep hA
   have g0 := rowStay M3.out hW
   refine wp_load_row 123 _ rfl b3 a3 _ _ _ _ g0 Tryz.underlying123 rfl (by rw [arrV_size, HS16.out.1]; kernel_rfl) (hK _ _ (Below.refl _ _) rfl)
  ·intro A x W hA hW hBW hdep K hK
   have a0 := hA.2 0 (by decide)
   conv at a0 => rhs; whnf
   clear hdep hA
   go_simp
   exact hK _ _ BR rfl
  ·intro A x W hA hW hBW hdep K hK
   have g38 := gv hA hdep 9 38
   clear hdep hA
   go_simp
   exact hK _ _ BR rfl
  ·intro A x W hA hW hBW hdep K hK
   have g39 := gv hA hdep 10 39
   clear hdep hA
   go_simp
   exact hK _ _ BR rfl
  ·intro A x W hA hW hBW hdep K hK
   have g40 := gv hA hdep 11 40
   clear hdep hA
   have g0 := rowStay MN.out hW
   have c0 : W.cell? ⟨np, 33, none⟩ = some (.slice ma msg.length mc) := cell_of_heap g0 33
   go_simp
   exact hK _ _ BR rfl
  ·intro A x W hA hW hBW hdep K hK
   have a6 := hA.2 6 (by decide)
   conv at a6 => rhs; whnf
   clear hdep hA
   go_simp
   exact hK _ _ BR rfl
  ·intro A x W hA hW hBW hdep K hK
   have a0 := hA.2 0 (by decide)
   conv at a0 => rhs; whnf
   clear hdep hA
   go_simp
   exact hK _ _ BR rfl
  ·intro A x W hA hW hBW hdep K hK
   have g43 := gv hA hdep 14 43
   clear hdep hA
   go_simp
   exact hK _ _ BR rfl
  ·intro A x W hA hW hBW hdep K hK
   have g44 := gv hA hdep 15 44
   clear hdep hA
   go_simp
   exact hK _ _ BR rfl
  ·intro A x W hA hW hBW hdep K hK
   have g45 := gv hA hdep 16 45
   clear hdep hA
   have g0 := rowStay MN.out hW
   have c0 : W.cell? ⟨np, 0, none⟩ = some (.int .i64 2) := cell_of_heap g0 0
   go_simp
   exact hK _ _ BR rfl
  ·intro A x W hA hW hBW hdep K hK
   have g46 := gv hA hdep 17 46
   clear hdep hA
   go_simp
   refine (refBlock_ok false _).mono ?_; rintro e w' ⟨rfl, hw⟩; exact hK _ _ (by rw [hw]; exact Below.refl _ _) rfl
  ·intro A x W hA hW hBW hdep K hK
   have g41 := gv hA hdep 12 41
   have g42 := gv hA hdep 13 42
   have g47 := gv hA hdep 18 47
   clear hdep hA
   go_simp
   refine (refCut_ok msg _ s 64 W (HMW_.out W (HBW2.out.trans (hW.mono (by omega)))) (by decide) (by omega) hml).mono ?_; rintro e w' ⟨u, rfl, ho, hb⟩; exact hK _ _ hb (ownsRow_le ho hBW)
  ·intro A x W hA hW hBW hdep K hK
   have a4 := hA.2 4 (by decide)
   conv at a4 => rhs; whnf
   clear hdep hA
   go_simp
   exact hK _ _ BR rfl
  ·intro A x W hA hW hBW hdep K hK
   have a5 := hA.2 5 (by decide)
   conv at a5 => rhs; whnf
   clear hdep hA
   go_simp
   exact hK _ _ BR rfl
  ·intro A x W hA hW hBW hdep K hK
   have a0 := hA.2 0 (by decide)
   conv at a0 => rhs; whnf
   clear hdep hA
   go_simp
   exact hK _ _ BR rfl
  ·intro A x W hA hW hBW hdep K hK
   have g51 := gv hA hdep 22 51
   clear hdep hA
   go_simp
   exact hK _ _ BR rfl
  ·intro A x W hA hW hBW hdep K hK
   have g52 := gv hA hdep 23 52
   clear hdep hA
   go_simp
   exact hK _ _ BR rfl
  ·intro A x W hA hW hBW hdep K hK
   have g53 := gv hA hdep 24 53
   clear hdep hA
   have g0 := rowStay MN.out hW
   have c0 : W.cell? ⟨np, 13, none⟩ = some (.bool la) := cell_of_heap g0 13
   go_simp
   exact hK _ _ BR rfl
  ·intro A x W hA hW hBW hdep K hK
   have g36 := gv hA hdep 7 36
   have g37 := gv hA hdep 8 37
   have g48 : (fun u W => W.ownsRow W0.heap.size 5 1 u 64 ((padZ 64 ((msg.drop s).take 64)).map encB)) (x 48) W := hdep ⟨19, .data⟩ (by simp) rfl _ rfl
   have a48 : A.tmps.getD 48 undef = x 48 := hA.1 48 (by decide)
   have g49 := gv hA hdep 20 49
   have g50 := gv hA hdep 21 50
   have g54 := gv hA hdep 25 54
   clear hdep hA
   have hbz := padZ_bounds (n := 64) (zs := (msg.drop s).take 64) (fun z hz => HBM_.out z (List.mem_of_mem_drop (List.mem_of_mem_take hz)))
   go_simp
   refine (refIn_false ST (padZ 64 ((msg.drop s).take 64)) HSW_.out _ msg.length (by omega) true la W (own_holds8 g48) hbz (padZ_length (List.length_take_le _ _))).mono ?_; rintro e w' ⟨rfl, hb⟩; rw [HR_.out]; exact hK _ _ hb rfl
  ·intro A x W hA hW hBW hdep K hK
   have g32 := gv hA hdep 3 32
   have g55 := gv hA hdep 26 55
   clear hdep hA
   go_simp
   refine (refBytes_ok false (st16 R) (st16_words (by decide) HRW_.out) _).mono ?_; rintro e w' ⟨u, rfl, ho, hb⟩; exact hK _ _ hb (ownsRow_le ho hBW)
  ·intro A x W hA hW hBW hdep K hK
   have g56 : (fun u W => W.ownsRow W0.heap.size 5 1 u 32 ((bytesW 4 (st16 R) 8).map encB)) (x 56) W := hdep ⟨27, .data⟩ (by simp) rfl _ rfl
   have a56 : A.tmps.getD 56 undef = x 56 := hA.1 56 (by decide)
   clear hdep hA
   go_simp
   exact hK _ _ (Below.refl _ _) (a56 ▸ g56)
 intro x W hW hBW hall
 obtain ⟨e29, e30, e31, e32, e33, e34, e35, e36, e37, e38, e39, e40, e41, e42, e43, e44, e45, e46, e47, e48, e49, e50, e51, e52, e53, e54, e55, e56, e2, -⟩ := hall
 change x 29 = (.pointer (some ⟨np, 0, none⟩) : Value) at e29
 change x 30 = (.pointer (some ⟨np, 0, none⟩) : Value) at e30
 change x 31 = (.pointer (some ⟨np, 0, none⟩) : Value) at e31
 change x 32 = (.int .i64 2 : Value) at e32
 change x 33 = (.pointer (some ⟨np, 0, none⟩) : Value) at e33
 change x 34 = (.pointer (some ⟨np, 0, none⟩) : Value) at e34
 change x 35 = (.pointer (some ⟨np, 0, none⟩) : Value) at e35
 change x 36 = (.int .i64 2 : Value) at e36
 change x 37 = (.agg (arrV .u64 (st16 ST)) : Value) at e37
 change x 38 = (.pointer (some ⟨np, 0, none⟩) : Value) at e38
 change x 39 = (.pointer (some ⟨np, 0, none⟩) : Value) at e39
 change x 40 = (.pointer (some ⟨np, 33, none⟩) : Value) at e40
 change x 41 = (.slice ma msg.length mc : Value) at e41
 change x 42 = (.int .i64 (s : Nat) : Value) at e42
 change x 43 = (.pointer (some ⟨np, 0, none⟩) : Value) at e43
 change x 44 = (.pointer (some ⟨np, 0, none⟩) : Value) at e44
 change x 45 = (.pointer (some ⟨np, 0, none⟩) : Value) at e45
 change x 46 = (.int .i64 2 : Value) at e46
 change x 47 = (.int .i64 64 : Value) at e47
 change (fun u W => W.ownsRow W0.heap.size 5 1 u 64 ((padZ 64 ((msg.drop s).take 64)).map encB)) (x 48) W at e48
 change x 49 = (.int .u64 (msg.length : Nat) : Value) at e49
 change x 50 = (.int .u64 0 : Value) at e50
 change x 51 = (.pointer (some ⟨np, 0, none⟩) : Value) at e51
 change x 52 = (.pointer (some ⟨np, 0, none⟩) : Value) at e52
 change x 53 = (.pointer (some ⟨np, 13, none⟩) : Value) at e53
 change x 54 = (.bool la : Value) at e54
 change x 55 = (.agg (arrV .u64 (st16 R)) : Value) at e55
 change (fun u W => W.ownsRow W0.heap.size 5 1 u 32 ((bytesW 4 (st16 R) 8).map encB)) (x 56) W at e56
 change (fun u W => W.ownsRow W0.heap.size 5 1 u 32 ((bytesW 4 (st16 R) 8).map encB)) (x 2) W at e2
 refine thenTail_nil ?_
 simp only [lay, Act.put, List.setIfInBounds_toArray, List.set_cons_zero, List.set_cons_succ, e29, e30, e31, e32, e33, e34, e35, e36, e37, e38, e39, e40, e41, e42, e43, e44, e45, e46, e47, e49, e50, e51, e52, e53, e54, e55]
 clear e29 e30 e31 e32 e33 e34 e35 e36 e37 e38 e39 e40 e41 e42 e43 e44 e45 e46 e47 e49 e50 e51 e52 e53 e54 e55
 have E2 := Lib.hid (ownsRow_le e2 (show w.heap.size ≤ W0.heap.size by omega))
 have HBF := Lib.hid (HBW2.out.trans (hW.mono (by omega)))
 clear e48 e56 e2 hW hBW
 go_wp2
 go_ret
 exact ⟨_, rfl, E2.out, by rw [hb0]; exact HBF.out⟩
end Go.Proofs.YtjogmckaakkomaaGreat
