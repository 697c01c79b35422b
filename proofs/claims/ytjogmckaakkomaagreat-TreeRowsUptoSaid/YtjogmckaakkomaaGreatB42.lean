/- The state behind all blocks that have gone in; the whole output: by the reference. No condition. -/
import Derived.Test.YtjogmckaakkomaaGreatB41
import Derived.Test.YtjogmckaakkomaaGreatB22
import Derived.Test.YtjogmckaakkomaaGreatB33
import Derived.Test.YtjogmckaakkomaaGreatB37
set_option linter.all false
set_option maxRecDepth 100000
set_option maxHeartbeats 8000000
namespace Go.Proofs.YtjogmckaakkomaaGreat
open Go.ChangeShapes Go.WideShapes Go.ChangeAt Go.RowKit Go.Joins Go.Shelf Go.Maps
open Go.Lib (hid)
attribute [local go_sem] Oper.semAt_some
theorem results_row_tmp3 {P : Program} {fn : Func} {p u1 u2 u3 : Tmp} {ty : TypeId} (h : fn.results = #[.cell p ty, .tmp u1, .tmp u2, .tmp u3]) (tmps : Array Value) (w : World) (g : Nat) (t : TypeId) (cs : Array Value) (fr : Nat × Nat) (d : TypeDesc)
  (hp : tmps.getD p undef = .pointer (some ⟨g, 0, none⟩)) (hg : w.heap[g]? = some (.cells cs t fr))
  (hu : P.underlying ty = some d) (hd : (match d with | .struct _ | .array _ _ => true | _ => false) = true) (hi : (P.info? ty).map (·.size) = some cs.size) :
  (results fn tmps).run P w = .ok (.tuple #[.agg cs, tmps.getD u1 undef, tmps.getD u2 undef, tmps.getD u3 undef]) w := by
 have hp' : tmps[p]?.getD undef = .pointer (some ⟨g, 0, none⟩) := by simpa using hp
 simp [results, h, hp', asAddr, run_loadVar_row w g t ty cs fr d hg hu hd hi]
theorem nbk_lt {n L k : Nat} (hn : 0 < n) (hk : k ≤ nbk n L) : (n * k + n < L ↔ k < nbk n L) := by
 have h1 := nbk_spec hn L
 have e : n * (k + 1) = n * k + n := Nat.mul_succ _ _
 constructor
 ·intro h
  refine Nat.lt_of_le_of_ne hk fun e2 => ?_
  rw [e2] at h; omega
 ·intro h
  have h2 : n * (k + 1) ≤ n * nbk n L := Nat.mul_le_mul_left _ h
  by_cases h0 : 0 < L
  ·have := h1.2.2 h0; omega
  ·have : L = 0 := by omega
   subst this; rw [nbk_zero] at h; omega
theorem refPassed_true (v : Nat → Nat) (z1 z2 msg : List Int) (sa pe kv mv : Value) (la : Bool) (cnt : Int) (np : Nat) (w : World) (hN : rNode true w np v sa pe kv la mv cnt) (hP : ParOk true v) (h1 : Hold w sa z1) (h2 : Hold w pe z2) (hl1 : z1.length ≤ 16) (hl2 : z2.length ≤ 16) (hM : Hold w mv msg) (hml : (msg.length : Int) ≤ 281474976710656) :
  Calls Tryz.prog 87 #[.pointer (some ⟨np, 0, none⟩)] w fun e w' => e = .returned (.tuple #[.agg (arrV .u64 (st16 (stZ true (h0Z true (blkP true v z1 z2)) msg (nbk 128 msg.length)))), .int .u64 ((128 * nbk 128 msg.length : Nat) : Int), .int .u64 0, .int .i64 ((128 * nbk 128 msg.length : Nat) : Int)]) ∧ Below w.heap.size w w' := by
 obtain ⟨b0, hb0⟩ : ∃ b0, w.heap.size = b0 := ⟨_, rfl⟩
 obtain ⟨ma, mc, rfl, hmc1, hmc2⟩ := hM.slice
 have hnp : np < b0 := by rw [← hb0]; exact (Array.getElem?_eq_some_iff.1 hN).1
 have hFI := fun (W : World) (hb : Below b0 w W) => refFirst_true v z1 z2 sa pe kv (.slice ma msg.length mc) la cnt np W ((hb.block np hnp).trans hN) hP (h1.below (hb0 ▸ hb)) (h2.below (hb0 ▸ hb)) hl1 hl2
 have hMW := fun (W : World) (hb : Below b0 w W) => hM.below (hb0 ▸ hb)
 have hH0w := h0Z_words true (blkP true v z1 z2)
 generalize h0Z true (blkP true v z1 z2) = H0 at *
 have hSW := fun k => stZ_words true hH0w msg k
 obtain ⟨Q, hQ⟩ : ∃ Q, nbk 128 msg.length = Q := ⟨_, rfl⟩
 have hlt := fun (k : Nat) (hk : k ≤ Q) => (hQ ▸ nbk_lt (n := 128) (L := msg.length) (by decide) (hQ ▸ hk) : (128 * k + 128 < msg.length ↔ k < Q))
 have hQl : 128 * Q ≤ msg.length := by rw [← hQ]; exact (nbk_spec (by decide) _).1
 rw [hQ]
 have hN' : w.heap[np]? = some (.cells (rN 1 v sa pe kv la (.slice ma msg.length mc) cnt) 125 (0, 0)) := hN
 have HFI_ := hid hFI
 have HMW_ := hid hMW
 have HSW_ := hid hSW
 have HLT_ := hid hlt
 have HNR_ := hid hN'
 have HBM := hid hM.1
 clear hN hN' hFI hMW hSW hQ hlt hP h1 h2 hM hmc1 hmc2 hl1 hl2
 go_enter Tryz.func87, Tryz.ntmps87
 go_wp2_with fail
 have hb1 : Below b0 w (w.alloc (.cells #[.int .u64 0, .int .u64 0, .int .u64 0, .int .u64 0, .int .u64 0, .int .u64 0, .int .u64 0, .int .u64 0, .int .u64 0, .int .u64 0, .int .u64 0, .int .u64 0, .int .u64 0, .int .u64 0, .int .u64 0, .int .u64 0] 123)) := by rw [← hb0]; exact (Below.refl _ _).alloc (Nat.le_refl _) _
 have r0 : (w.alloc (.cells #[.int .u64 0, .int .u64 0, .int .u64 0, .int .u64 0, .int .u64 0, .int .u64 0, .int .u64 0, .int .u64 0, .int .u64 0, .int .u64 0, .int .u64 0, .int .u64 0, .int .u64 0, .int .u64 0, .int .u64 0, .int .u64 0] 123)).heap[b0]? = some (.cells #[.int .u64 0, .int .u64 0, .int .u64 0, .int .u64 0, .int .u64 0, .int .u64 0, .int .u64 0, .int .u64 0, .int .u64 0, .int .u64 0, .int .u64 0, .int .u64 0, .int .u64 0, .int .u64 0, .int .u64 0, .int .u64 0] 123 (0, 0)) := by rw [← hb0]; exact World.alloc_heap_new _ _
 have hs1 : (w.alloc (.cells #[.int .u64 0, .int .u64 0, .int .u64 0, .int .u64 0, .int .u64 0, .int .u64 0, .int .u64 0, .int .u64 0, .int .u64 0, .int .u64 0, .int .u64 0, .int .u64 0, .int .u64 0, .int .u64 0, .int .u64 0, .int .u64 0] 123)).heap.size = b0 + 1 := by simp [hb0]
 generalize (w.alloc (.cells #[.int .u64 0, .int .u64 0, .int .u64 0, .int .u64 0, .int .u64 0, .int .u64 0, .int .u64 0, .int .u64 0, .int .u64 0, .int .u64 0, .int .u64 0, .int .u64 0, .int .u64 0, .int .u64 0, .int .u64 0, .int .u64 0] 123)) = W1 at *
 refine (HFI_.out W1 hb1).mono ?_; rintro e w2 ⟨rfl, hb2⟩
 have hs2 := hb2.size
 have r02 := rowStay r0 hb2
 have hbw := hb1.trans (hb2.mono (by omega))
 have R0 := hid r02
 have HBW := hid hbw
 clear hb1 r0 hb2 r02 hbw HFI_
 have HH0 := hid (st16_words (by decide) hH0w)
 clear hH0w
 go_upto_region 2 with ((with_reducible show wpList _ _ _ (Oper.mk none (Op.store 123 _ _) _ _ _ _ :: _) _ _); refine wpList_store_row rfl 123 _ _ rfl w2.heap.size (arrV .u64 (st16 H0)) rfl rfl 123 _ (World.alloc_heap_new _ _) (by rw [arrV_size, HH0.out.1]; kernel_rfl) (by rw [arrV_size, HH0.out.1]; rfl) arrV_all ?_)
 refine letterW ?_
 intro W hW
 obtain ⟨b6, hb6⟩ : ∃ b6, w2.heap.size = b6 := ⟨_, rfl⟩
 have m6 : W.heap[b6]? = some (.cells (arrV .u64 (st16 (stZ true H0 msg 0))) 123 (0, 0)) := by rw [hW, ← hb6]; exact setRow_heap _ _ _ _ _ _ (World.alloc_heap_new _ _)
 have m0 : W.heap[b0]? = some (.cells #[.int .u64 0, .int .u64 0, .int .u64 0, .int .u64 0, .int .u64 0, .int .u64 0, .int .u64 0, .int .u64 0, .int .u64 0, .int .u64 0, .int .u64 0, .int .u64 0, .int .u64 0, .int .u64 0, .int .u64 0, .int .u64 0] 123 (0, 0)) := by rw [hW]; exact (setRow_other (w2.alloc _) _ _ _ (by omega)).trans ((Below.heap_alloc _ _ _ (by omega)).trans R0.out)
 have hBW2 : Below b0 w W := by rw [hW]; exact below_setRow (HBW.out.alloc (by omega) _) (by omega) _
 have mn : W.heap[np]? = some (.cells (rN 1 v sa pe kv la (.slice ma msg.length mc) cnt) 125 (0, 0)) := (hBW2.block np hnp).trans HNR_.out
 rw [hb6]
 have hb06 : b0 < b6 := by omega
 have hWs : b6 < W.heap.size := (Array.getElem?_eq_some_iff.1 m6).1
 have c31 : W.cell? ⟨np, 31, none⟩ = some (.int .u64 0) := cell_of_heap mn 31
 have c32 : W.cell? ⟨np, 32, none⟩ = some (.int .u64 0) := cell_of_heap mn 32
 have c00 : W.cell? ⟨np, 0, none⟩ = some (.int .i64 1) := cell_of_heap mn 0
 have M6 := hid m6
 have M0 := hid m0
 have MN := hid mn
 have HB2 := hid hBW2
 clear hW hb6 m6 m0 mn hBW2 R0 HBW hs1 hs2
 go_wp2_with fail
 refine (refBlock_ok true _).mono ?_; rintro e w4 ⟨rfl, hw⟩
 rw [hw]; clear hw
 rw [show ((bB true : Nat) : Int) = 128 from rfl]
 go_wp2_with fail
 go_loopw [7, 8, 10] (fun lo hi at_ wr => ∃ k : Nat, lo = .int .u64 ((128 * k : Nat) : Int) ∧ hi = .int .u64 0 ∧ at_ = .int .i64 ((128 * k : Nat) : Int) ∧ k ≤ Q ∧ wr.heap[b6]? = some (.cells (arrV .u64 (st16 (stZ true H0 msg k))) 123 (0, 0)) ∧ But b6 W wr) (fun _ _ at_ _ => msg.length - (intOf at_).toNat)
 case atStart => exact ⟨0, rfl, rfl, rfl, Nat.zero_le _, M6.out, But.refl _ _⟩
 case round =>
  obtain ⟨k, rfl, rfl, rfl, hk, hrow, hb⟩ := hrel
  have hwrs : b6 < wr.heap.size := by have := hb.size; omega
  have hn := (hb.block np (by omega) (by omega)).trans MN.out
  have c33 : wr.cell? ⟨np, 33, none⟩ = some (.slice ma msg.length mc) := cell_of_heap hn 33
  have hnw : np < wr.heap.size := by omega
  have hbB : Below b0 w wr := HB2.out.trans (hb.below (by omega) (by omega))
  have hLT := HLT_.out k hk
  have hsl : 128 * k ≤ 128 * Q := Nat.mul_le_mul_left _ hk
  obtain ⟨s, hs⟩ : ∃ s, 128 * k = s := ⟨_, rfl⟩
  have hs2 : 128 * (k + 1) = s + 128 := by rw [← hs]; exact Nat.mul_succ _ _
  have HBLK := hid (show blkZ 128 msg k = padZ 128 ((msg.drop s).take 128) by unfold blkZ; rw [hs])
  have HS2 := hid hs2
  have HS := hid hs
  rw [hs] at hLT hsl ⊢
  have hsw := HSW_.out k
  have hst1 : stZ true H0 msg (k + 1) = compZ true (stZ true H0 msg k) (padZ 128 ((msg.drop s).take 128)) ((s + 128 : Nat) : Int) false false := by
   show compZ true (stZ true H0 msg k) (blkZ (bB true) msg k) ((bB true * (k + 1) : Nat) : Int) false false = _
   rw [show bB true = 128 from rfl, HBLK.out, hs2]
  have HROWk := hid hrow
  have HBk := hid hb
  have HNk := hid hn
  have HBBk := hid hbB
  have HSWk := hid hsw
  have HST1k := hid hst1
  clear hs hs2
  have hsL : (s : Int) ≤ msg.length := by omega
  by_cases hlt : k < Q
  case neg =>
   obtain rfl : k = Q := by omega
   have hge : ¬ ((s : Int) + 128 < msg.length) := by have := hLT; omega
   have n0 := (hb.block b0 (by omega) (by omega)).trans M0.out
   have hR16 := st16_words (by decide) hsw
   have hwr0 : b0 < wr.heap.size := by omega
   clear hb hn hbB hsw hst1 hLT hlt hsl
   go_wp2_with (first | ((with_reducible show wpList _ _ _ (Oper.mk (some 62) _ _ _ _ _ :: _) _ _); refine wpList_load_row rfl 123 _ rfl b6 rfl _ _ _ _ hrow Tryz.underlying123 rfl (by rw [arrV_size, hR16.1]; kernel_rfl) ?_) | ((with_reducible show wpList _ _ _ (Oper.mk none (Op.store 123 _ _) _ _ _ _ :: _) _ _); refine wpList_store_row rfl 123 _ _ rfl b0 (arrV .u64 (st16 (stZ true H0 msg k))) rfl rfl 123 _ n0 (by rw [arrV_size, hR16.1]; kernel_rfl) (by rw [arrV_size, hR16.1]; rfl) arrV_all ?_))
   exact bodyPost_ret (results_row_tmp3 rfl _ _ b0 123 _ _ _ rfl (setRow_heap _ _ _ _ _ _ n0) Tryz.underlying123 rfl (by rw [arrV_size, hR16.1]; kernel_rfl)) rfl ⟨by rw [show ((128 : Int) * (k : Int)) = (s : Int) from by have := HS.out; omega]; rfl, by first | exact below_setRow HBBk.out (Nat.le_refl _) _ | (rw [hb0]; exact below_setRow HBBk.out (Nat.le_refl _) _)⟩
  have hlt2 : (s : Int) + 128 < msg.length := by have := hLT.2 hlt; omega
  have hs47 : (s : Int) + 128 < 9223372036854775808 := by omega
  have HS47 := hid hs47
  clear hrow hb hn hbB hsw hst1 hLT hsl hs47
  go_wp2_with fail
  refine (refAdd_ok s 128 (by omega) _).mono ?_; rintro e w4 ⟨rfl, hw⟩
  rw [hw]; clear hw
  go_upto_region 8 with (fail)
  refine wp_region_c (n := 15) (w0 := wr) (B := wr.heap.size) [.v 44 (.pointer (some ⟨np, 0, none⟩)), .v 45 (.pointer (some ⟨np, 0, none⟩)), .v 46 (.pointer (some ⟨np, 0, none⟩)), .v 47 (.int .i64 1), .v 48 (.agg (arrV .u64 (st16 (stZ true H0 msg k)))), .v 49 (.pointer (some ⟨np, 0, none⟩)), .v 50 (.pointer (some ⟨np, 0, none⟩)), .v 51 (.pointer (some ⟨np, 33, none⟩)), .v 52 (.slice ma msg.length mc), .v 53 (.int .i64 (s : Nat)), .v 54 (.int .i64 128), .p 55 (fun u W => W.ownsRow wr.heap.size 5 1 u 128 ((padZ 128 ((msg.drop s).take 128)).map encB)), .v 56 (.int .u64 ((s : Int) + 128)), .v 57 (.int .u64 0), .v 58 (.agg (arrV .u64 (st16 (stZ true H0 msg (k + 1)))))] (by exact ⟨(fun _ _ _ h hb => ownsRow_same' h (fun g _ hg => hb.block g hg)), trivial⟩) (Below.refl _ _).drew (Nat.le_refl _) ?_ ?_
  ·repeat' (with_reducible first | exact eachO_nil | refine eachO_cons ?_ ?_)
   all_goals try
    intro A x W hA hW hBW hdep D K hK
    have a0 := hA.2 0 (by decide)
    conv at a0 => rhs; whnf
    have a10 := hA.2 10 (by decide)
    conv at a10 => rhs; whnf
    have a9 := hA.2 9 (by decide)
    conv at a9 => rhs; whnf
    have a7 := hA.2 7 (by decide)
    conv at a7 => rhs; whnf
    have a8 := hA.2 8 (by decide)
    conv at a8 => rhs; whnf
    simp only [DepF, nthF] at D
    clear hdep hA
    go_simp
    exact hK _ _ BR rfl
   ·intro A x W hA hW hBW hdep _ K hK
    have g46 := gv hA hdep 2 46
    clear hdep hA
    have g0 := rowStay HNk.out hW
    have c0 : W.cell? ⟨np, 0, none⟩ = some (.int .i64 1) := cell_of_heap g0 0
    go_simp
    exact hK _ _ BR rfl
   ·intro A x W hA hW hBW hdep _ K hK
    have a6 := hA.2 6 (by decide)
    conv at a6 => rhs; whnf
    clear hdep hA
    have g0 := rowStay HROWk.out hW
    have hR16 := st16_words (by decide) HSWk.out
    refine wp_load_row 123 _ rfl b6 a6 _ _ _ _ g0 Tryz.underlying123 rfl (by rw [arrV_size, hR16.1]; kernel_rfl) (hK _ _ (Below.refl _ _) rfl)
   ·intro A x W hA hW hBW hdep _ K hK
    have g51 := gv hA hdep 7 51
    clear hdep hA
    have g0 := rowStay HNk.out hW
    have c0 : W.cell? ⟨np, 33, none⟩ = some (.slice ma msg.length mc) := cell_of_heap g0 33
    go_simp
    exact hK _ _ BR rfl
   ·intro A x W hA hW hBW hdep _ K hK
    have g52 := gv hA hdep 8 52
    have g53 := gv hA hdep 9 53
    have g54 := gv hA hdep 10 54
    clear hdep hA
    go_simp
    refine (refCut_ok msg _ s 128 W (HMW_.out W (HBBk.out.trans (hW.mono (by omega)))) (by decide) (by omega) hml).mono ?_; rintro e w' ⟨u, rfl, ho, hb⟩; exact hK _ _ hb (ownsRow_le ho hBW)
   ·intro A x W hA hW hBW hdep _ K hK
    have g47 := gv hA hdep 3 47
    have g48 := gv hA hdep 4 48
    have g55 : (fun u W => W.ownsRow wr.heap.size 5 1 u 128 ((padZ 128 ((msg.drop s).take 128)).map encB)) (x 55) W := hdep ⟨11, .data⟩ (by simp) rfl _ rfl
    have a55 : A.tmps.getD 55 undef = x 55 := hA.1 55 (by decide)
    have g56 := gv hA hdep 12 56
    have g57 := gv hA hdep 13 57
    clear hdep hA
    have hbz := padZ_bounds (n := 128) (zs := (msg.drop s).take 128) (fun z hz => HBM.out z (List.mem_of_mem_drop (List.mem_of_mem_take hz)))
    go_simp
    rw [show (s : Int) + 128 = ((s + 128 : Nat) : Int) from rfl]
    refine (refIn_true (stZ true H0 msg k) (padZ 128 ((msg.drop s).take 128)) HSWk.out _ (s + 128) HS47.out false false W (own_holds8 g55) hbz (padZ_length (List.length_take_le _ _))).mono ?_; rintro e w' ⟨rfl, hb⟩; rw [← HST1k.out]; exact hK _ _ hb rfl
  intro x W hW hBW hall
  obtain ⟨e55, -⟩ := hall
  change (fun u W => W.ownsRow wr.heap.size 5 1 u 128 ((padZ 128 ((msg.drop s).take 128)).map encB)) (x 55) W at e55
  refine thenTail_cons ?_
  simp only [layS, Act.put, List.setIfInBounds_toArray, List.set_cons_zero, List.set_cons_succ]
  have hr9 := rowStay HROWk.out hW
  have hR16 := st16_words (by decide) (HSW_.out (k + 1))
  have hR17 := st16_words (by decide) HSWk.out
  refine wpList_store_row rfl 123 _ _ rfl b6 (arrV .u64 (st16 (stZ true H0 msg (k + 1)))) rfl rfl 123 _ hr9 (by rw [arrV_size, hR16.1]; kernel_rfl) (by rw [arrV_size, arrV_size, hR16.1, hR17.1]) arrV_all ?_
  refine thenTail_nil ?_
  have HA := hid (setRow_heap _ b6 _ (arrV .u64 (st16 (stZ true H0 msg (k + 1)))) _ _ hr9)
  have HC := hid (HBk.out.trans ((But.of_below hW).trans (But.of_setRow _ b6 (arrV .u64 (st16 (stZ true H0 msg (k + 1)))))))
  clear hr9 hR16 hR17 e55 hW hBW c33 hnw hwrs
  go_wp2
  refine ⟨⟨k + 1, by rw [HS2.out]; rfl, rfl, by rw [HS2.out]; rfl, by omega, HA.out, HC.out⟩, ?_⟩
  simp [intOf]; omega
theorem refPassed_false (v : Nat → Nat) (z1 z2 msg : List Int) (sa pe kv mv : Value) (la : Bool) (cnt : Int) (np : Nat) (w : World) (hN : rNode false w np v sa pe kv la mv cnt) (hP : ParOk false v) (h1 : Hold w sa z1) (h2 : Hold w pe z2) (hl1 : z1.length ≤ 8) (hl2 : z2.length ≤ 8) (hM : Hold w mv msg) (hml : (msg.length : Int) ≤ 281474976710656) :
  Calls Tryz.prog 87 #[.pointer (some ⟨np, 0, none⟩)] w fun e w' => e = .returned (.tuple #[.agg (arrV .u64 (st16 (stZ false (h0Z false (blkP false v z1 z2)) msg (nbk 64 msg.length)))), .int .u64 ((64 * nbk 64 msg.length : Nat) : Int), .int .u64 0, .int .i64 ((64 * nbk 64 msg.length : Nat) : Int)]) ∧ Below w.heap.size w w' := by
 obtain ⟨b0, hb0⟩ : ∃ b0, w.heap.size = b0 := ⟨_, rfl⟩
 obtain ⟨ma, mc, rfl, hmc1, hmc2⟩ := hM.slice
 have hnp : np < b0 := by rw [← hb0]; exact (Array.getElem?_eq_some_iff.1 hN).1
 have hFI := fun (W : World) (hb : Below b0 w W) => refFirst_false v z1 z2 sa pe kv (.slice ma msg.length mc) la cnt np W ((hb.block np hnp).trans hN) hP (h1.below (hb0 ▸ hb)) (h2.below (hb0 ▸ hb)) hl1 hl2
 have hMW := fun (W : World) (hb : Below b0 w W) => hM.below (hb0 ▸ hb)
 have hH0w := h0Z_words false (blkP false v z1 z2)
 generalize h0Z false (blkP false v z1 z2) = H0 at *
 have hSW := fun k => stZ_words false hH0w msg k
 obtain ⟨Q, hQ⟩ : ∃ Q, nbk 64 msg.length = Q := ⟨_, rfl⟩
 have hlt := fun (k : Nat) (hk : k ≤ Q) => (hQ ▸ nbk_lt (n := 64) (L := msg.length) (by decide) (hQ ▸ hk) : (64 * k + 64 < msg.length ↔ k < Q))
 have hQl : 64 * Q ≤ msg.length := by rw [← hQ]; exact (nbk_spec (by decide) _).1
 rw [hQ]
 have hN' : w.heap[np]? = some (.cells (rN 2 v sa pe kv la (.slice ma msg.length mc) cnt) 125 (0, 0)) := hN
 have HFI_ := hid hFI
 have HMW_ := hid hMW
 have HSW_ := hid hSW
 have HLT_ := hid hlt
 have HNR_ := hid hN'
 have HBM := hid hM.1
 clear hN hN' hFI hMW hSW hQ hlt hP h1 h2 hM hmc1 hmc2 hl1 hl2
 go_enter Tryz.func87, Tryz.ntmps87
 go_wp2_with fail
 have hb1 : Below b0 w (w.alloc (.cells #[.int .u64 0, .int .u64 0, .int .u64 0, .int .u64 0, .int .u64 0, .int .u64 0, .int .u64 0, .int .u64 0, .int .u64 0, .int .u64 0, .int .u64 0, .int .u64 0, .int .u64 0, .int .u64 0, .int .u64 0, .int .u64 0] 123)) := by rw [← hb0]; exact (Below.refl _ _).alloc (Nat.le_refl _) _
 have r0 : (w.alloc (.cells #[.int .u64 0, .int .u64 0, .int .u64 0, .int .u64 0, .int .u64 0, .int .u64 0, .int .u64 0, .int .u64 0, .int .u64 0, .int .u64 0, .int .u64 0, .int .u64 0, .int .u64 0, .int .u64 0, .int .u64 0, .int .u64 0] 123)).heap[b0]? = some (.cells #[.int .u64 0, .int .u64 0, .int .u64 0, .int .u64 0, .int .u64 0, .int .u64 0, .int .u64 0, .int .u64 0, .int .u64 0, .int .u64 0, .int .u64 0, .int .u64 0, .int .u64 0, .int .u64 0, .int .u64 0, .int .u64 0] 123 (0, 0)) := by rw [← hb0]; exact World.alloc_heap_new _ _
 have hs1 : (w.alloc (.cells #[.int .u64 0, .int .u64 0, .int .u64 0, .int .u64 0, .int .u64 0, .int .u64 0, .int .u64 0, .int .u64 0, .int .u64 0, .int .u64 0, .int .u64 0, .int .u64 0, .int .u64 0, .int .u64 0, .int .u64 0, .int .u64 0] 123)).heap.size = b0 + 1 := by simp [hb0]
 generalize (w.alloc (.cells #[.int .u64 0, .int .u64 0, .int .u64 0, .int .u64 0, .int .u64 0, .int .u64 0, .int .u64 0, .int .u64 0, .int .u64 0, .int .u64 0, .int .u64 0, .int .u64 0, .int .u64 0, .int .u64 0, .int .u64 0, .int .u64 0] 123)) = W1 at *
 refine (HFI_.out W1 hb1).mono ?_; rintro e w2 ⟨rfl, hb2⟩
 have hs2 := hb2.size
 have r02 := rowStay r0 hb2
 have hbw := hb1.trans (hb2.mono (by omega))
 have R0 := hid r02
 have HBW := hid hbw
 clear hb1 r0 hb2 r02 hbw HFI_
 have HH0 := hid (st16_words (by decide) hH0w)
 clear hH0w
 go_upto_region 2 with ((with_reducible show wpList _ _ _ (Oper.mk none (Op.store 123 _ _) _ _ _ _ :: _) _ _); refine wpList_store_row rfl 123 _ _ rfl w2.heap.size (arrV .u64 (st16 H0)) rfl rfl 123 _ (World.alloc_heap_new _ _) (by rw [arrV_size, HH0.out.1]; kernel_rfl) (by rw [arrV_size, HH0.out.1]; rfl) arrV_all ?_)
 refine letterW ?_
 intro W hW
 obtain ⟨b6, hb6⟩ : ∃ b6, w2.heap.size = b6 := ⟨_, rfl⟩
 have m6 : W.heap[b6]? = some (.cells (arrV .u64 (st16 (stZ false H0 msg 0))) 123 (0, 0)) := by rw [hW, ← hb6]; exact setRow_heap _ _ _ _ _ _ (World.alloc_heap_new _ _)
 have m0 : W.heap[b0]? = some (.cells #[.int .u64 0, .int .u64 0, .int .u64 0, .int .u64 0, .int .u64 0, .int .u64 0, .int .u64 0, .int .u64 0, .int .u64 0, .int .u64 0, .int .u64 0, .int .u64 0, .int .u64 0, .int .u64 0, .int .u64 0, .int .u64 0] 123 (0, 0)) := by rw [hW]; exact (setRow_other (w2.alloc _) _ _ _ (by omega)).trans ((Below.heap_alloc _ _ _ (by omega)).trans R0.out)
 have hBW2 : Below b0 w W := by rw [hW]; exact below_setRow (HBW.out.alloc (by omega) _) (by omega) _
 have mn : W.heap[np]? = some (.cells (rN 2 v sa pe kv la (.slice ma msg.length mc) cnt) 125 (0, 0)) := (hBW2.block np hnp).trans HNR_.out
 rw [hb6]
 have hb06 : b0 < b6 := by omega
 have hWs : b6 < W.heap.size := (Array.getElem?_eq_some_iff.1 m6).1
 have c31 : W.cell? ⟨np, 31, none⟩ = some (.int .u64 0) := cell_of_heap mn 31
 have c32 : W.cell? ⟨np, 32, none⟩ = some (.int .u64 0) := cell_of_heap mn 32
 have c00 : W.cell? ⟨np, 0, none⟩ = some (.int .i64 2) := cell_of_heap mn 0
 have M6 := hid m6
 have M0 := hid m0
 have MN := hid mn
 have HB2 := hid hBW2
 clear hW hb6 m6 m0 mn hBW2 R0 HBW hs1 hs2
 go_wp2_with fail
 refine (refBlock_ok false _).mono ?_; rintro e w4 ⟨rfl, hw⟩
 rw [hw]; clear hw
 rw [show ((bB false : Nat) : Int) = 64 from rfl]
 go_wp2_with fail
 go_loopw [7, 8, 10] (fun lo hi at_ wr => ∃ k : Nat, lo = .int .u64 ((64 * k : Nat) : Int) ∧ hi = .int .u64 0 ∧ at_ = .int .i64 ((64 * k : Nat) : Int) ∧ k ≤ Q ∧ wr.heap[b6]? = some (.cells (arrV .u64 (st16 (stZ false H0 msg k))) 123 (0, 0)) ∧ But b6 W wr) (fun _ _ at_ _ => msg.length - (intOf at_).toNat)
 case atStart => exact ⟨0, rfl, rfl, rfl, Nat.zero_le _, M6.out, But.refl _ _⟩
 case round =>
  obtain ⟨k, rfl, rfl, rfl, hk, hrow, hb⟩ := hrel
  have hwrs : b6 < wr.heap.size := by have := hb.size; omega
  have hn := (hb.block np (by omega) (by omega)).trans MN.out
  have c33 : wr.cell? ⟨np, 33, none⟩ = some (.slice ma msg.length mc) := cell_of_heap hn 33
  have hnw : np < wr.heap.size := by omega
  have hbB : Below b0 w wr := HB2.out.trans (hb.below (by omega) (by omega))
  have hLT := HLT_.out k hk
  have hsl : 64 * k ≤ 64 * Q := Nat.mul_le_mul_left _ hk
  obtain ⟨s, hs⟩ : ∃ s, 64 * k = s := ⟨_, rfl⟩
  have hs2 : 64 * (k + 1) = s + 64 := by rw [← hs]; exact Nat.mul_succ _ _
  have HBLK := hid (show blkZ 64 msg k = padZ 64 ((msg.drop s).take 64) by unfold blkZ; rw [hs])
  have HS2 := hid hs2
  have HS := hid hs
  rw [hs] at hLT hsl ⊢
  have hsw := HSW_.out k
  have hst1 : stZ false H0 msg (k + 1) = compZ false (stZ false H0 msg k) (padZ 64 ((msg.drop s).take 64)) ((s + 64 : Nat) : Int) false false := by
   show compZ false (stZ false H0 msg k) (blkZ (bB false) msg k) ((bB false * (k + 1) : Nat) : Int) false false = _
   rw [show bB false = 64 from rfl, HBLK.out, hs2]
  have HROWk := hid hrow
  have HBk := hid hb
  have HNk := hid hn
  have HBBk := hid hbB
  have HSWk := hid hsw
  have HST1k := hid hst1
  clear hs hs2
  have hsL : (s : Int) ≤ msg.length := by omega
  by_cases hlt : k < Q
  case neg =>
   obtain rfl : k = Q := by omega
   have hge : ¬ ((s : Int) + 64 < msg.length) := by have := hLT; omega
   have n0 := (hb.block b0 (by omega) (by omega)).trans M0.out
   have hR16 := st16_words (by decide) hsw
   have hwr0 : b0 < wr.heap.size := by omega
   clear hb hn hbB hsw hst1 hLT hlt hsl
   go_wp2_with (first | ((with_reducible show wpList _ _ _ (Oper.mk (some 62) _ _ _ _ _ :: _) _ _); refine wpList_load_row rfl 123 _ rfl b6 rfl _ _ _ _ hrow Tryz.underlying123 rfl (by rw [arrV_size, hR16.1]; kernel_rfl) ?_) | ((with_reducible show wpList _ _ _ (Oper.mk none (Op.store 123 _ _) _ _ _ _ :: _) _ _); refine wpList_store_row rfl 123 _ _ rfl b0 (arrV .u64 (st16 (stZ false H0 msg k))) rfl rfl 123 _ n0 (by rw [arrV_size, hR16.1]; kernel_rfl) (by rw [arrV_size, hR16.1]; rfl) arrV_all ?_))
   exact bodyPost_ret (results_row_tmp3 rfl _ _ b0 123 _ _ _ rfl (setRow_heap _ _ _ _ _ _ n0) Tryz.underlying123 rfl (by rw [arrV_size, hR16.1]; kernel_rfl)) rfl ⟨by rw [show ((64 : Int) * (k : Int)) = (s : Int) from by have := HS.out; omega]; rfl, by first | exact below_setRow HBBk.out (Nat.le_refl _) _ | (rw [hb0]; exact below_setRow HBBk.out (Nat.le_refl _) _)⟩
  have hlt2 : (s : Int) + 64 < msg.length := by have := hLT.2 hlt; omega
  have hs47 : (s : Int) + 64 < 9223372036854775808 := by omega
  have HS47 := hid hs47
  clear hrow hb hn hbB hsw hst1 hLT hsl hs47
  go_wp2_with fail
  refine (refAdd_ok s 64 (by omega) _).mono ?_; rintro e w4 ⟨rfl, hw⟩
  rw [hw]; clear hw
  go_upto_region 8 with (fail)
  refine wp_region_c (n := 15) (w0 := wr) (B := wr.heap.size) [.v 44 (.pointer (some ⟨np, 0, none⟩)), .v 45 (.pointer (some ⟨np, 0, none⟩)), .v 46 (.pointer (some ⟨np, 0, none⟩)), .v 47 (.int .i64 2), .v 48 (.agg (arrV .u64 (st16 (stZ false H0 msg k)))), .v 49 (.pointer (some ⟨np, 0, none⟩)), .v 50 (.pointer (some ⟨np, 0, none⟩)), .v 51 (.pointer (some ⟨np, 33, none⟩)), .v 52 (.slice ma msg.length mc), .v 53 (.int .i64 (s : Nat)), .v 54 (.int .i64 64), .p 55 (fun u W => W.ownsRow wr.heap.size 5 1 u 64 ((padZ 64 ((msg.drop s).take 64)).map encB)), .v 56 (.int .u64 ((s : Int) + 64)), .v 57 (.int .u64 0), .v 58 (.agg (arrV .u64 (st16 (stZ false H0 msg (k + 1)))))] (by exact ⟨(fun _ _ _ h hb => ownsRow_same' h (fun g _ hg => hb.block g hg)), trivial⟩) (Below.refl _ _).drew (Nat.le_refl _) ?_ ?_
  ·repeat' (with_reducible first | exact eachO_nil | refine eachO_cons ?_ ?_)
   all_goals try
    intro A x W hA hW hBW hdep D K hK
    have a0 := hA.2 0 (by decide)
    conv at a0 => rhs; whnf
    have a10 := hA.2 10 (by decide)
    conv at a10 => rhs; whnf
    have a9 := hA.2 9 (by decide)
    conv at a9 => rhs; whnf
    have a7 := hA.2 7 (by decide)
    conv at a7 => rhs; whnf
    have a8 := hA.2 8 (by decide)
    conv at a8 => rhs; whnf
    simp only [DepF, nthF] at D
    clear hdep hA
    go_simp
    exact hK _ _ BR rfl
   ·intro A x W hA hW hBW hdep _ K hK
    have g46 := gv hA hdep 2 46
    clear hdep hA
    have g0 := rowStay HNk.out hW
    have c0 : W.cell? ⟨np, 0, none⟩ = some (.int .i64 2) := cell_of_heap g0 0
    go_simp
    exact hK _ _ BR rfl
   ·intro A x W hA hW hBW hdep _ K hK
    have a6 := hA.2 6 (by decide)
    conv at a6 => rhs; whnf
    clear hdep hA
    have g0 := rowStay HROWk.out hW
    have hR16 := st16_words (by decide) HSWk.out
    refine wp_load_row 123 _ rfl b6 a6 _ _ _ _ g0 Tryz.underlying123 rfl (by rw [arrV_size, hR16.1]; kernel_rfl) (hK _ _ (Below.refl _ _) rfl)
   ·intro A x W hA hW hBW hdep _ K hK
    have g51 := gv hA hdep 7 51
    clear hdep hA
    have g0 := rowStay HNk.out hW
    have c0 : W.cell? ⟨np, 33, none⟩ = some (.slice ma msg.length mc) := cell_of_heap g0 33
    go_simp
    exact hK _ _ BR rfl
   ·intro A x W hA hW hBW hdep _ K hK
    have g52 := gv hA hdep 8 52
    have g53 := gv hA hdep 9 53
    have g54 := gv hA hdep 10 54
    clear hdep hA
    go_simp
    refine (refCut_ok msg _ s 64 W (HMW_.out W (HBBk.out.trans (hW.mono (by omega)))) (by decide) (by omega) hml).mono ?_; rintro e w' ⟨u, rfl, ho, hb⟩; exact hK _ _ hb (ownsRow_le ho hBW)
   ·intro A x W hA hW hBW hdep _ K hK
    have g47 := gv hA hdep 3 47
    have g48 := gv hA hdep 4 48
    have g55 : (fun u W => W.ownsRow wr.heap.size 5 1 u 64 ((padZ 64 ((msg.drop s).take 64)).map encB)) (x 55) W := hdep ⟨11, .data⟩ (by simp) rfl _ rfl
    have a55 : A.tmps.getD 55 undef = x 55 := hA.1 55 (by decide)
    have g56 := gv hA hdep 12 56
    have g57 := gv hA hdep 13 57
    clear hdep hA
    have hbz := padZ_bounds (n := 64) (zs := (msg.drop s).take 64) (fun z hz => HBM.out z (List.mem_of_mem_drop (List.mem_of_mem_take hz)))
    go_simp
    rw [show (s : Int) + 64 = ((s + 64 : Nat) : Int) from rfl]
    refine (refIn_false (stZ false H0 msg k) (padZ 64 ((msg.drop s).take 64)) HSWk.out _ (s + 64) HS47.out false false W (own_holds8 g55) hbz (padZ_length (List.length_take_le _ _))).mono ?_; rintro e w' ⟨rfl, hb⟩; rw [← HST1k.out]; exact hK _ _ hb rfl
  intro x W hW hBW hall
  obtain ⟨e55, -⟩ := hall
  change (fun u W => W.ownsRow wr.heap.size 5 1 u 64 ((padZ 64 ((msg.drop s).take 64)).map encB)) (x 55) W at e55
  refine thenTail_cons ?_
  simp only [layS, Act.put, List.setIfInBounds_toArray, List.set_cons_zero, List.set_cons_succ]
  have hr9 := rowStay HROWk.out hW
  have hR16 := st16_words (by decide) (HSW_.out (k + 1))
  have hR17 := st16_words (by decide) HSWk.out
  refine wpList_store_row rfl 123 _ _ rfl b6 (arrV .u64 (st16 (stZ false H0 msg (k + 1)))) rfl rfl 123 _ hr9 (by rw [arrV_size, hR16.1]; kernel_rfl) (by rw [arrV_size, arrV_size, hR16.1, hR17.1]) arrV_all ?_
  refine thenTail_nil ?_
  have HA := hid (setRow_heap _ b6 _ (arrV .u64 (st16 (stZ false H0 msg (k + 1)))) _ _ hr9)
  have HC := hid (HBk.out.trans ((But.of_below hW).trans (But.of_setRow _ b6 (arrV .u64 (st16 (stZ false H0 msg (k + 1)))))))
  clear hr9 hR16 hR17 e55 hW hBW c33 hnw hwrs
  go_wp2
  refine ⟨⟨k + 1, by rw [HS2.out]; rfl, rfl, by rw [HS2.out]; rfl, by omega, HA.out, HC.out⟩, ?_⟩
  simp [intOf]; omega
theorem bytesW_congr (n : Nat) {h g : List Int} : ∀ i, (∀ j, j < i → wd h j = wd g j) → bytesW n h i = bytesW n g i
 | 0, _ => rfl
 | i + 1, H => by rw [bytesW, bytesW, bytesW_congr n i (fun j hj => H j (by omega)), H i (by omega)]
theorem refOut_true (v : Nat → Nat) (z1 z2 msg : List Int) (sa pe kv mv : Value) (la : Bool) (cnt : Int) (np : Nat) (w : World) (hN : rNode true w np v sa pe kv la mv cnt) (hP : ParOk true v) (h1 : Hold w sa z1) (h2 : Hold w pe z2) (hl1 : z1.length ≤ 16) (hl2 : z2.length ≤ 16) (hM : Hold w mv msg) (hml : (msg.length : Int) ≤ 281474976710656) :
  Calls Tryz.prog 68 #[.pointer (some ⟨np, 0, none⟩)] w fun e w' => ∃ u, e = .returned u ∧ w'.ownsRow w.heap.size 5 1 u 64 ((outZ true (h0Z true (blkP true v z1 z2)) msg la).map encB) ∧ Below w.heap.size w w' := by
 obtain ⟨b0, hb0⟩ : ∃ b0, w.heap.size = b0 := ⟨_, rfl⟩
 have hPA := refPassed_true v z1 z2 msg sa pe kv mv la cnt np w hN hP h1 h2 hl1 hl2 hM hml
 obtain ⟨ma, mc, rfl, hmc1, hmc2⟩ := hM.slice
 have hnp : np < b0 := by rw [← hb0]; exact (Array.getElem?_eq_some_iff.1 hN).1
 have hMW := fun (W : World) (hb : Below b0 w W) => hM.below (hb0 ▸ hb)
 have hH0w := h0Z_words true (blkP true v z1 z2)
 generalize h0Z true (blkP true v z1 z2) = H0 at *
 have hsw := stZ_words true hH0w msg (nbk 128 msg.length)
 have hsp := nbk_spec (n := 128) (by decide) msg.length
 have hout : outZ true H0 msg la = bytesW 8 (compZ true (stZ true H0 msg (nbk 128 msg.length)) (padZ 128 ((msg.drop (128 * nbk 128 msg.length)).take 128)) (msg.length : Int) true la) 8 := rfl
 rw [hout]
 obtain ⟨ST, hST⟩ : ∃ ST, stZ true H0 msg (nbk 128 msg.length) = ST := ⟨_, rfl⟩
 obtain ⟨s, hs⟩ : ∃ s, 128 * nbk 128 msg.length = s := ⟨_, rfl⟩
 rw [hST, hs] at hPA ⊢
 rw [hST] at hsw
 rw [hs] at hsp
 obtain ⟨R, hR⟩ : ∃ R, compZ true ST (padZ 128 ((msg.drop s).take 128)) (msg.length : Int) true la = R := ⟨_, rfl⟩
 have hRw : Words 64 8 R := by rw [← hR]; exact compZ_words true hsw _ _ _ _
 rw [hR]
 have hbw : bytesW 8 R 8 = bytesW 8 (st16 R) 8 := bytesW_congr 8 8 (fun j hj => (st16_wd hRw.1 hj).symm)
 rw [hbw]
 have hsL : s ≤ msg.length := hsp.1
 have hN' : w.heap[np]? = some (.cells (rN 1 v sa pe kv la (.slice ma msg.length mc) cnt) 125 (0, 0)) := hN
 have hBM := hM.1
 have HPA_ := hid hPA
 have HMW_ := hid hMW
 have HSW_ := hid hsw
 have HR_ := hid hR
 have HRW_ := hid hRw
 have HNR_ := hid hN'
 have HBM_ := hid hBM
 clear hout hbw hST hs hsp hR hRw hPA hMW hsw hN hN' hBM hH0w hP h1 h2 hM hmc1 hmc2 hl1 hl2
 go_enter Tryz.func68, Tryz.ntmps68
 go_wp2_with fail
 refine HPA_.out.mono ?_; rintro e w2 ⟨rfl, hb2⟩
 have HS16 := hid (st16_words (by decide) HSW_.out)
 have hs2 := hb2.size
 have HB2 := hid hb2
 clear hb2
 go_upto_region 2 with ((with_reducible show wpList _ _ _ (Oper.mk none (Op.store 123 _ _) _ _ _ _ :: _) _ _); refine wpList_store_row rfl 123 _ _ rfl w2.heap.size (arrV .u64 (st16 ST)) rfl rfl 123 _ (World.alloc_heap_new _ _) (by rw [arrV_size, HS16.out.1]; kernel_rfl) (by rw [arrV_size, HS16.out.1]; rfl) arrV_all ?_)
 refine letterW ?_
 intro W0 hW
 obtain ⟨b3, hb3⟩ : ∃ b3, w2.heap.size = b3 := ⟨_, rfl⟩
 have m3 : W0.heap[b3]? = some (.cells (arrV .u64 (st16 ST)) 123 (0, 0)) := by rw [hW, ← hb3]; exact setRow_heap _ _ _ _ _ _ (World.alloc_heap_new _ _)
 have hBW2 : Below b0 w W0 := by rw [hW, ← hb0]; exact below_setRow (HB2.out.alloc hs2 _) hs2 _
 have mn : W0.heap[np]? = some (.cells (rN 1 v sa pe kv la (.slice ma msg.length mc) cnt) 125 (0, 0)) := (hBW2.block np hnp).trans HNR_.out
 rw [hb3]
 have hb03 : b0 ≤ b3 := by omega
 have hWs : b3 < W0.heap.size := (Array.getElem?_eq_some_iff.1 m3).1
 have hnW : np < W0.heap.size := by omega
 have c33 : W0.cell? ⟨np, 33, none⟩ = some (.slice ma msg.length mc) := cell_of_heap mn 33
 have M3 := hid m3
 have MN := hid mn
 have HBW2 := hid hBW2
 clear hW hb3 m3 mn hBW2 HB2 hs2 HPA_
 have hsi : (s : Int) ≤ msg.length := by omega
 have hcv : ((msg.length : Int) - s) = ((msg.length - s : Nat) : Int) := by omega
 have hcw : IntKind.u64.wrap ((msg.length : Int) - s) = ((msg.length - s : Nat) : Int) := by rw [hcv]; exact u64_wrap_id _ (by omega) (by omega)
 have HCV := hid hcv
 clear hcv
 go_wp2_with fail
 refine (refAdd_ok s (msg.length - s) (by omega) _).mono ?_; rintro e w4 ⟨rfl, hw⟩
 rw [hw]; clear hw
 rw [show s + (msg.length - s) = msg.length by omega]
 clear hcw
 go_upto_region 3 with (fail)
 refine wp_region_c (n := 29) (w0 := W0) (B := W0.heap.size) [.v 29 (.pointer (some ⟨np, 0, none⟩)), .v 30 (.pointer (some ⟨np, 0, none⟩)), .v 31 (.pointer (some ⟨np, 0, none⟩)), .v 32 (.int .i64 1), .v 33 (.pointer (some ⟨np, 0, none⟩)), .v 34 (.pointer (some ⟨np, 0, none⟩)), .v 35 (.pointer (some ⟨np, 0, none⟩)), .v 36 (.int .i64 1), .v 37 (.agg (arrV .u64 (st16 ST))), .v 38 (.pointer (some ⟨np, 0, none⟩)), .v 39 (.pointer (some ⟨np, 0, none⟩)), .v 40 (.pointer (some ⟨np, 33, none⟩)), .v 41 (.slice ma msg.length mc), .v 42 (.int .i64 (s : Nat)), .v 43 (.pointer (some ⟨np, 0, none⟩)), .v 44 (.pointer (some ⟨np, 0, none⟩)), .v 45 (.pointer (some ⟨np, 0, none⟩)), .v 46 (.int .i64 1), .v 47 (.int .i64 128), .p 48 (fun u W => W.ownsRow W0.heap.size 5 1 u 128 ((padZ 128 ((msg.drop s).take 128)).map encB)), .v 49 (.int .u64 (msg.length : Nat)), .v 50 (.int .u64 0), .v 51 (.pointer (some ⟨np, 0, none⟩)), .v 52 (.pointer (some ⟨np, 0, none⟩)), .v 53 (.pointer (some ⟨np, 13, none⟩)), .v 54 (.bool la), .v 55 (.agg (arrV .u64 (st16 R))), .p 56 (fun u W => W.ownsRow W0.heap.size 5 1 u 64 ((bytesW 8 (st16 R) 8).map encB)), .p 2 (fun u W => W.ownsRow W0.heap.size 5 1 u 64 ((bytesW 8 (st16 R) 8).map encB))] (by exact ⟨(fun _ _ _ h hb => ownsRow_same' h (fun g _ hg => hb.block g hg)), (fun _ _ _ h hb => ownsRow_same' h (fun g _ hg => hb.block g hg)), (fun _ _ _ h hb => ownsRow_same' h (fun g _ hg => hb.block g hg)), trivial⟩) (Below.refl _ _).drew (Nat.le_refl _) ?_ ?_
 ·repeat' (with_reducible first | exact eachO_nil | refine eachO_cons ?_ ?_)
  all_goals try
   intro A x W hA hW hBW hdep D K hK
   have a0 := hA.2 0 (by decide)
   conv at a0 => rhs; whnf
   have a6 := hA.2 6 (by decide)
   conv at a6 => rhs; whnf
   have a4 := hA.2 4 (by decide)
   conv at a4 => rhs; whnf
   have a5 := hA.2 5 (by decide)
   conv at a5 => rhs; whnf
   simp only [DepF, nthF] at D
   clear hdep hA
   go_simp
   exact hK _ _ BR rfl
  ·intro A x W hA hW hBW hdep _ K hK
   have g31 := gv hA hdep 2 31
   clear hdep hA
   have g0 := rowStay MN.out hW
   have c0 : W.cell? ⟨np, 0, none⟩ = some (.int .i64 1) := cell_of_heap g0 0
   go_simp
   exact hK _ _ BR rfl
  ·intro A x W hA hW hBW hdep _ K hK
   have g35 := gv hA hdep 6 35
   clear hdep hA
   have g0 := rowStay MN.out hW
   have c0 : W.cell? ⟨np, 0, none⟩ = some (.int .i64 1) := cell_of_heap g0 0
   go_simp
   exact hK _ _ BR rfl
  ·intro A x W hA hW hBW hdep _ K hK
   have a3 := hA.2 3 (by decide)
   conv at a3 => rhs; whnf
   clear hdep hA
   have g0 := rowStay M3.out hW
   refine wp_load_row 123 _ rfl b3 a3 _ _ _ _ g0 Tryz.underlying123 rfl (by rw [arrV_size, HS16.out.1]; kernel_rfl) (hK _ _ (Below.refl _ _) rfl)
  ·intro A x W hA hW hBW hdep _ K hK
   have g40 := gv hA hdep 11 40
   clear hdep hA
   have g0 := rowStay MN.out hW
   have c0 : W.cell? ⟨np, 33, none⟩ = some (.slice ma msg.length mc) := cell_of_heap g0 33
   go_simp
   exact hK _ _ BR rfl
  ·intro A x W hA hW hBW hdep _ K hK
   have g45 := gv hA hdep 16 45
   clear hdep hA
   have g0 := rowStay MN.out hW
   have c0 : W.cell? ⟨np, 0, none⟩ = some (.int .i64 1) := cell_of_heap g0 0
   go_simp
   exact hK _ _ BR rfl
  ·intro A x W hA hW hBW hdep _ K hK
   have g46 := gv hA hdep 17 46
   clear hdep hA
   go_simp
   refine (refBlock_ok true _).mono ?_; rintro e w' ⟨rfl, hw⟩; exact hK _ _ (by rw [hw]; exact Below.refl _ _) rfl
  ·intro A x W hA hW hBW hdep _ K hK
   have g41 := gv hA hdep 12 41
   have g42 := gv hA hdep 13 42
   have g47 := gv hA hdep 18 47
   clear hdep hA
   go_simp
   refine (refCut_ok msg _ s 128 W (HMW_.out W (HBW2.out.trans (hW.mono (by omega)))) (by decide) (by omega) hml).mono ?_; rintro e w' ⟨u, rfl, ho, hb⟩; exact hK _ _ hb (ownsRow_le ho hBW)
  ·intro A x W hA hW hBW hdep _ K hK
   have g53 := gv hA hdep 24 53
   clear hdep hA
   have g0 := rowStay MN.out hW
   have c0 : W.cell? ⟨np, 13, none⟩ = some (.bool la) := cell_of_heap g0 13
   go_simp
   exact hK _ _ BR rfl
  ·intro A x W hA hW hBW hdep _ K hK
   have g36 := gv hA hdep 7 36
   have g37 := gv hA hdep 8 37
   have g48 : (fun u W => W.ownsRow W0.heap.size 5 1 u 128 ((padZ 128 ((msg.drop s).take 128)).map encB)) (x 48) W := hdep ⟨19, .data⟩ (by simp) rfl _ rfl
   have a48 : A.tmps.getD 48 undef = x 48 := hA.1 48 (by decide)
   have g49 := gv hA hdep 20 49
   have g50 := gv hA hdep 21 50
   have g54 := gv hA hdep 25 54
   clear hdep hA
   have hbz := padZ_bounds (n := 128) (zs := (msg.drop s).take 128) (fun z hz => HBM_.out z (List.mem_of_mem_drop (List.mem_of_mem_take hz)))
   go_simp
   refine (refIn_true ST (padZ 128 ((msg.drop s).take 128)) HSW_.out _ msg.length (by omega) true la W (own_holds8 g48) hbz (padZ_length (List.length_take_le _ _))).mono ?_; rintro e w' ⟨rfl, hb⟩; rw [HR_.out]; exact hK _ _ hb rfl
  ·intro A x W hA hW hBW hdep _ K hK
   have g32 := gv hA hdep 3 32
   have g55 := gv hA hdep 26 55
   clear hdep hA
   go_simp
   refine (refBytes_ok true (st16 R) (st16_words (by decide) HRW_.out) _).mono ?_; rintro e w' ⟨u, rfl, ho, hb⟩; exact hK _ _ hb (ownsRow_le ho hBW)
  ·intro A x W hA hW hBW hdep _ K hK
   have g56 : (fun u W => W.ownsRow W0.heap.size 5 1 u 64 ((bytesW 8 (st16 R) 8).map encB)) (x 56) W := hdep ⟨27, .data⟩ (by simp) rfl _ rfl
   have a56 : A.tmps.getD 56 undef = x 56 := hA.1 56 (by decide)
   clear hdep hA
   go_simp
   exact hK _ _ (Below.refl _ _) (a56 ▸ g56)
 intro x W hW hBW hall
 obtain ⟨e48, e56, e2, -⟩ := hall
 change (fun u W => W.ownsRow W0.heap.size 5 1 u 128 ((padZ 128 ((msg.drop s).take 128)).map encB)) (x 48) W at e48
 change (fun u W => W.ownsRow W0.heap.size 5 1 u 64 ((bytesW 8 (st16 R) 8).map encB)) (x 56) W at e56
 change (fun u W => W.ownsRow W0.heap.size 5 1 u 64 ((bytesW 8 (st16 R) 8).map encB)) (x 2) W at e2
 refine thenTail_nil ?_
 simp only [layS, Act.put, List.setIfInBounds_toArray, List.set_cons_zero, List.set_cons_succ]
 have E2 := hid (ownsRow_le e2 (show w.heap.size ≤ W0.heap.size by omega))
 have HBF := hid (HBW2.out.trans (hW.mono (by omega)))
 clear e48 e56 e2 hW hBW
 go_wp2
 go_ret
 exact ⟨_, rfl, E2.out, by rw [hb0]; exact HBF.out⟩
theorem refOut_false (v : Nat → Nat) (z1 z2 msg : List Int) (sa pe kv mv : Value) (la : Bool) (cnt : Int) (np : Nat) (w : World) (hN : rNode false w np v sa pe kv la mv cnt) (hP : ParOk false v) (h1 : Hold w sa z1) (h2 : Hold w pe z2) (hl1 : z1.length ≤ 8) (hl2 : z2.length ≤ 8) (hM : Hold w mv msg) (hml : (msg.length : Int) ≤ 281474976710656) :
  Calls Tryz.prog 68 #[.pointer (some ⟨np, 0, none⟩)] w fun e w' => ∃ u, e = .returned u ∧ w'.ownsRow w.heap.size 5 1 u 32 ((outZ false (h0Z false (blkP false v z1 z2)) msg la).map encB) ∧ Below w.heap.size w w' := by
 obtain ⟨b0, hb0⟩ : ∃ b0, w.heap.size = b0 := ⟨_, rfl⟩
 have hPA := refPassed_false v z1 z2 msg sa pe kv mv la cnt np w hN hP h1 h2 hl1 hl2 hM hml
 obtain ⟨ma, mc, rfl, hmc1, hmc2⟩ := hM.slice
 have hnp : np < b0 := by rw [← hb0]; exact (Array.getElem?_eq_some_iff.1 hN).1
 have hMW := fun (W : World) (hb : Below b0 w W) => hM.below (hb0 ▸ hb)
 have hH0w := h0Z_words false (blkP false v z1 z2)
 generalize h0Z false (blkP false v z1 z2) = H0 at *
 have hsw := stZ_words false hH0w msg (nbk 64 msg.length)
 have hsp := nbk_spec (n := 64) (by decide) msg.length
 have hout : outZ false H0 msg la = bytesW 4 (compZ false (stZ false H0 msg (nbk 64 msg.length)) (padZ 64 ((msg.drop (64 * nbk 64 msg.length)).take 64)) (msg.length : Int) true la) 8 := rfl
 rw [hout]
 obtain ⟨ST, hST⟩ : ∃ ST, stZ false H0 msg (nbk 64 msg.length) = ST := ⟨_, rfl⟩
 obtain ⟨s, hs⟩ : ∃ s, 64 * nbk 64 msg.length = s := ⟨_, rfl⟩
 rw [hST, hs] at hPA ⊢
 rw [hST] at hsw
 rw [hs] at hsp
 obtain ⟨R, hR⟩ : ∃ R, compZ false ST (padZ 64 ((msg.drop s).take 64)) (msg.length : Int) true la = R := ⟨_, rfl⟩
 have hRw : Words 32 8 R := by rw [← hR]; exact compZ_words false hsw _ _ _ _
 rw [hR]
 have hbw : bytesW 4 R 8 = bytesW 4 (st16 R) 8 := bytesW_congr 4 8 (fun j hj => (st16_wd hRw.1 hj).symm)
 rw [hbw]
 have hsL : s ≤ msg.length := hsp.1
 have hN' : w.heap[np]? = some (.cells (rN 2 v sa pe kv la (.slice ma msg.length mc) cnt) 125 (0, 0)) := hN
 have hBM := hM.1
 have HPA_ := hid hPA
 have HMW_ := hid hMW
 have HSW_ := hid hsw
 have HR_ := hid hR
 have HRW_ := hid hRw
 have HNR_ := hid hN'
 have HBM_ := hid hBM
 clear hout hbw hST hs hsp hR hRw hPA hMW hsw hN hN' hBM hH0w hP h1 h2 hM hmc1 hmc2 hl1 hl2
 go_enter Tryz.func68, Tryz.ntmps68
 go_wp2_with fail
 refine HPA_.out.mono ?_; rintro e w2 ⟨rfl, hb2⟩
 have HS16 := hid (st16_words (by decide) HSW_.out)
 have hs2 := hb2.size
 have HB2 := hid hb2
 clear hb2
 go_upto_region 2 with ((with_reducible show wpList _ _ _ (Oper.mk none (Op.store 123 _ _) _ _ _ _ :: _) _ _); refine wpList_store_row rfl 123 _ _ rfl w2.heap.size (arrV .u64 (st16 ST)) rfl rfl 123 _ (World.alloc_heap_new _ _) (by rw [arrV_size, HS16.out.1]; kernel_rfl) (by rw [arrV_size, HS16.out.1]; rfl) arrV_all ?_)
 refine letterW ?_
 intro W0 hW
 obtain ⟨b3, hb3⟩ : ∃ b3, w2.heap.size = b3 := ⟨_, rfl⟩
 have m3 : W0.heap[b3]? = some (.cells (arrV .u64 (st16 ST)) 123 (0, 0)) := by rw [hW, ← hb3]; exact setRow_heap _ _ _ _ _ _ (World.alloc_heap_new _ _)
 have hBW2 : Below b0 w W0 := by rw [hW, ← hb0]; exact below_setRow (HB2.out.alloc hs2 _) hs2 _
 have mn : W0.heap[np]? = some (.cells (rN 2 v sa pe kv la (.slice ma msg.length mc) cnt) 125 (0, 0)) := (hBW2.block np hnp).trans HNR_.out
 rw [hb3]
 have hb03 : b0 ≤ b3 := by omega
 have hWs : b3 < W0.heap.size := (Array.getElem?_eq_some_iff.1 m3).1
 have hnW : np < W0.heap.size := by omega
 have c33 : W0.cell? ⟨np, 33, none⟩ = some (.slice ma msg.length mc) := cell_of_heap mn 33
 have M3 := hid m3
 have MN := hid mn
 have HBW2 := hid hBW2
 clear hW hb3 m3 mn hBW2 HB2 hs2 HPA_
 have hsi : (s : Int) ≤ msg.length := by omega
 have hcv : ((msg.length : Int) - s) = ((msg.length - s : Nat) : Int) := by omega
 have hcw : IntKind.u64.wrap ((msg.length : Int) - s) = ((msg.length - s : Nat) : Int) := by rw [hcv]; exact u64_wrap_id _ (by omega) (by omega)
 have HCV := hid hcv
 clear hcv
 go_wp2_with fail
 refine (refAdd_ok s (msg.length - s) (by omega) _).mono ?_; rintro e w4 ⟨rfl, hw⟩
 rw [hw]; clear hw
 rw [show s + (msg.length - s) = msg.length by omega]
 clear hcw
 go_upto_region 3 with (fail)
 refine wp_region_c (n := 29) (w0 := W0) (B := W0.heap.size) [.v 29 (.pointer (some ⟨np, 0, none⟩)), .v 30 (.pointer (some ⟨np, 0, none⟩)), .v 31 (.pointer (some ⟨np, 0, none⟩)), .v 32 (.int .i64 2), .v 33 (.pointer (some ⟨np, 0, none⟩)), .v 34 (.pointer (some ⟨np, 0, none⟩)), .v 35 (.pointer (some ⟨np, 0, none⟩)), .v 36 (.int .i64 2), .v 37 (.agg (arrV .u64 (st16 ST))), .v 38 (.pointer (some ⟨np, 0, none⟩)), .v 39 (.pointer (some ⟨np, 0, none⟩)), .v 40 (.pointer (some ⟨np, 33, none⟩)), .v 41 (.slice ma msg.length mc), .v 42 (.int .i64 (s : Nat)), .v 43 (.pointer (some ⟨np, 0, none⟩)), .v 44 (.pointer (some ⟨np, 0, none⟩)), .v 45 (.pointer (some ⟨np, 0, none⟩)), .v 46 (.int .i64 2), .v 47 (.int .i64 64), .p 48 (fun u W => W.ownsRow W0.heap.size 5 1 u 64 ((padZ 64 ((msg.drop s).take 64)).map encB)), .v 49 (.int .u64 (msg.length : Nat)), .v 50 (.int .u64 0), .v 51 (.pointer (some ⟨np, 0, none⟩)), .v 52 (.pointer (some ⟨np, 0, none⟩)), .v 53 (.pointer (some ⟨np, 13, none⟩)), .v 54 (.bool la), .v 55 (.agg (arrV .u64 (st16 R))), .p 56 (fun u W => W.ownsRow W0.heap.size 5 1 u 32 ((bytesW 4 (st16 R) 8).map encB)), .p 2 (fun u W => W.ownsRow W0.heap.size 5 1 u 32 ((bytesW 4 (st16 R) 8).map encB))] (by exact ⟨(fun _ _ _ h hb => ownsRow_same' h (fun g _ hg => hb.block g hg)), (fun _ _ _ h hb => ownsRow_same' h (fun g _ hg => hb.block g hg)), (fun _ _ _ h hb => ownsRow_same' h (fun g _ hg => hb.block g hg)), trivial⟩) (Below.refl _ _).drew (Nat.le_refl _) ?_ ?_
 ·repeat' (with_reducible first | exact eachO_nil | refine eachO_cons ?_ ?_)
  all_goals try
   intro A x W hA hW hBW hdep D K hK
   have a0 := hA.2 0 (by decide)
   conv at a0 => rhs; whnf
   have a6 := hA.2 6 (by decide)
   conv at a6 => rhs; whnf
   have a4 := hA.2 4 (by decide)
   conv at a4 => rhs; whnf
   have a5 := hA.2 5 (by decide)
   conv at a5 => rhs; whnf
   simp only [DepF, nthF] at D
   clear hdep hA
   go_simp
   exact hK _ _ BR rfl
  ·intro A x W hA hW hBW hdep _ K hK
   have g31 := gv hA hdep 2 31
   clear hdep hA
   have g0 := rowStay MN.out hW
   have c0 : W.cell? ⟨np, 0, none⟩ = some (.int .i64 2) := cell_of_heap g0 0
   go_simp
   exact hK _ _ BR rfl
  ·intro A x W hA hW hBW hdep _ K hK
   have g35 := gv hA hdep 6 35
   clear hdep hA
   have g0 := rowStay MN.out hW
   have c0 : W.cell? ⟨np, 0, none⟩ = some (.int .i64 2) := cell_of_heap g0 0
   go_simp
   exact hK _ _ BR rfl
  ·intro A x W hA hW hBW hdep _ K hK
   have a3 := hA.2 3 (by decide)
   conv at a3 => rhs; whnf
   clear hdep hA
   have g0 := rowStay M3.out hW
   refine wp_load_row 123 _ rfl b3 a3 _ _ _ _ g0 Tryz.underlying123 rfl (by rw [arrV_size, HS16.out.1]; kernel_rfl) (hK _ _ (Below.refl _ _) rfl)
  ·intro A x W hA hW hBW hdep _ K hK
   have g40 := gv hA hdep 11 40
   clear hdep hA
   have g0 := rowStay MN.out hW
   have c0 : W.cell? ⟨np, 33, none⟩ = some (.slice ma msg.length mc) := cell_of_heap g0 33
   go_simp
   exact hK _ _ BR rfl
  ·intro A x W hA hW hBW hdep _ K hK
   have g45 := gv hA hdep 16 45
   clear hdep hA
   have g0 := rowStay MN.out hW
   have c0 : W.cell? ⟨np, 0, none⟩ = some (.int .i64 2) := cell_of_heap g0 0
   go_simp
   exact hK _ _ BR rfl
  ·intro A x W hA hW hBW hdep _ K hK
   have g46 := gv hA hdep 17 46
   clear hdep hA
   go_simp
   refine (refBlock_ok false _).mono ?_; rintro e w' ⟨rfl, hw⟩; exact hK _ _ (by rw [hw]; exact Below.refl _ _) rfl
  ·intro A x W hA hW hBW hdep _ K hK
   have g41 := gv hA hdep 12 41
   have g42 := gv hA hdep 13 42
   have g47 := gv hA hdep 18 47
   clear hdep hA
   go_simp
   refine (refCut_ok msg _ s 64 W (HMW_.out W (HBW2.out.trans (hW.mono (by omega)))) (by decide) (by omega) hml).mono ?_; rintro e w' ⟨u, rfl, ho, hb⟩; exact hK _ _ hb (ownsRow_le ho hBW)
  ·intro A x W hA hW hBW hdep _ K hK
   have g53 := gv hA hdep 24 53
   clear hdep hA
   have g0 := rowStay MN.out hW
   have c0 : W.cell? ⟨np, 13, none⟩ = some (.bool la) := cell_of_heap g0 13
   go_simp
   exact hK _ _ BR rfl
  ·intro A x W hA hW hBW hdep _ K hK
   have g36 := gv hA hdep 7 36
   have g37 := gv hA hdep 8 37
   have g48 : (fun u W => W.ownsRow W0.heap.size 5 1 u 64 ((padZ 64 ((msg.drop s).take 64)).map encB)) (x 48) W := hdep ⟨19, .data⟩ (by simp) rfl _ rfl
   have a48 : A.tmps.getD 48 undef = x 48 := hA.1 48 (by decide)
   have g49 := gv hA hdep 20 49
   have g50 := gv hA hdep 21 50
   have g54 := gv hA hdep 25 54
   clear hdep hA
   have hbz := padZ_bounds (n := 64) (zs := (msg.drop s).take 64) (fun z hz => HBM_.out z (List.mem_of_mem_drop (List.mem_of_mem_take hz)))
   go_simp
   refine (refIn_false ST (padZ 64 ((msg.drop s).take 64)) HSW_.out _ msg.length (by omega) true la W (own_holds8 g48) hbz (padZ_length (List.length_take_le _ _))).mono ?_; rintro e w' ⟨rfl, hb⟩; rw [HR_.out]; exact hK _ _ hb rfl
  ·intro A x W hA hW hBW hdep _ K hK
   have g32 := gv hA hdep 3 32
   have g55 := gv hA hdep 26 55
   clear hdep hA
   go_simp
   refine (refBytes_ok false (st16 R) (st16_words (by decide) HRW_.out) _).mono ?_; rintro e w' ⟨u, rfl, ho, hb⟩; exact hK _ _ hb (ownsRow_le ho hBW)
  ·intro A x W hA hW hBW hdep _ K hK
   have g56 : (fun u W => W.ownsRow W0.heap.size 5 1 u 32 ((bytesW 4 (st16 R) 8).map encB)) (x 56) W := hdep ⟨27, .data⟩ (by simp) rfl _ rfl
   have a56 : A.tmps.getD 56 undef = x 56 := hA.1 56 (by decide)
   clear hdep hA
   go_simp
   exact hK _ _ (Below.refl _ _) (a56 ▸ g56)
 intro x W hW hBW hall
 obtain ⟨e48, e56, e2, -⟩ := hall
 change (fun u W => W.ownsRow W0.heap.size 5 1 u 64 ((padZ 64 ((msg.drop s).take 64)).map encB)) (x 48) W at e48
 change (fun u W => W.ownsRow W0.heap.size 5 1 u 32 ((bytesW 4 (st16 R) 8).map encB)) (x 56) W at e56
 change (fun u W => W.ownsRow W0.heap.size 5 1 u 32 ((bytesW 4 (st16 R) 8).map encB)) (x 2) W at e2
 refine thenTail_nil ?_
 simp only [layS, Act.put, List.setIfInBounds_toArray, List.set_cons_zero, List.set_cons_succ]
 have E2 := hid (ownsRow_le e2 (show w.heap.size ≤ W0.heap.size by omega))
 have HBF := hid (HBW2.out.trans (hW.mono (by omega)))
 clear e48 e56 e2 hW hBW
 go_wp2
 go_ret
 exact ⟨_, rfl, E2.out, by rw [hb0]; exact HBF.out⟩
theorem saltZ_le (big : Bool) (zs : List Int) : (saltZ big zs).length ≤ sB big := by
 unfold saltZ trimZ
 simp only [List.length_take]
 omega
theorem persZ_le (big : Bool) (zs : List Int) : (persZ big zs).length ≤ sB big := by
 unfold persZ trimZ
 simp only [List.length_take]
 omega
theorem saltZ_bounds {big : Bool} {zs : List Int} (hz : ∀ z ∈ zs, 0 ≤ z ∧ z ≤ 255) : ∀ z ∈ saltZ big zs, 0 ≤ z ∧ z ≤ 255 := fun z h => hz z (List.mem_of_mem_drop (List.mem_of_mem_take (List.mem_of_mem_take h)))
theorem persZ_bounds {big : Bool} {zs : List Int} (hz : ∀ z ∈ zs, 0 ≤ z ∧ z ≤ 255) : ∀ z ∈ persZ big zs, 0 ≤ z ∧ z ≤ 255 := fun z h => hz z (List.mem_of_mem_drop (List.mem_of_mem_take (List.mem_of_mem_take h)))
/-- What a block says is in bounds. -/
theorem parOk_dec {big : Bool} {zs : List Int} (hz : ∀ z ∈ zs, 0 ≤ z ∧ z ≤ 255) (h : okD big false zs) : ParOk big (decV big false zs) := by
 obtain ⟨hl, hm, hx, k1, k2, k4, k9⟩ := h
 have H := fun f h1 h2 => fldV_bounds (big := big) (ext := false) hz hl (f := f) h1 h2
 have hle : ∀ f, 1 ≤ f → f ≤ 9 → ((decV big false zs f : Nat) : Int) ≤ fldV big false zs f := fun f h1 h2 => by
  have := H f h1 h2
  unfold decV
  split <;> omega
 have e := fun f h1 h2 h3 => decV_eq (big := big) (ext := false) hz hl (f := f) h1 h2 h3
 have e1 := e 1 (by omega) (by omega) (by omega)
 have e2 := e 2 (by omega) (by omega) (by omega)
 have e4 := e 4 (by omega) (by omega) (by omega)
 have e9 := e 9 (by omega) (by omega) (by omega)
 have s1 : valZ zs (atB big 1) (szE big false 1) = nthz zs 0 := by cases big <;> simp [szE, szB, atB, val1]
 have s2 : valZ zs (atB big 2) (szE big false 2) = nthz zs 1 := by cases big <;> simp [szE, szB, atB, val1]
 have s4 : valZ zs (atB big 4) (szE big false 4) = nthz zs 3 := by cases big <;> simp [szE, szB, atB, val1]
 have s9 : valZ zs (atB big 9) (szE big false 9) = nthz zs (atB big 9) := by cases big <;> simp [szE, szB, atB, val1]
 have B : ∀ f n, 1 ≤ f → f ≤ 9 → szE big false f ≤ n → ((decV big false zs f : Nat) : Int) < 2 ^ (8 * n) := fun f n f1 f2 hs => by
  have h1 := (H f f1 f2).2; have h2 := hle f f1 f2
  have h3 : (2 : Int) ^ (8 * szE big false f) ≤ 2 ^ (8 * n) := by exact_mod_cast Nat.pow_le_pow_right (by decide : 0 < 2) (Nat.mul_le_mul_left 8 hs)
  omega
 refine ⟨⟨?_, ?_, ⟨by omega, ?_⟩, ⟨?_, ?_⟩, ⟨by omega, fun hb => ?_⟩, ⟨by omega, ?_⟩, ?_⟩, ?_, ?_, rfl⟩
 ·rw [e1, s1]; exact k1
 ·rw [e2, s2]; exact k2
 ·have := B 3 1 (by omega) (by omega) (by cases big <;> decide); omega
 ·rw [e4, s4]; exact k4 rfl
 ·have := B 4 1 (by omega) (by omega) (by cases big <;> decide); omega
 ·have := B 6 6 (by omega) (by omega) (by subst hb; decide); omega
 ·have := B 8 1 (by omega) (by omega) (by cases big <;> decide); omega
 ·rw [e9, s9]; exact k9
 ·have := B 5 4 (by omega) (by omega) (by cases big <;> decide); omega
 ·have := B 6 8 (by omega) (by omega) (by cases big <;> decide); omega
/-- What a node says, of either kind. -/
theorem refOut_any (big : Bool) (v : Nat → Nat) (z1 z2 msg : List Int) (sa pe kv mv : Value) (la : Bool) (cnt : Int) (np : Nat) (w : World) (hN : rNode big w np v sa pe kv la mv cnt) (hP : ParOk big v) (h1 : Hold w sa z1) (h2 : Hold w pe z2) (hl1 : z1.length ≤ sB big) (hl2 : z2.length ≤ sB big) (hM : Hold w mv msg) (hml : (msg.length : Int) ≤ 281474976710656) :
  Calls Tryz.prog 68 #[.pointer (some ⟨np, 0, none⟩)] w fun e w' => ∃ u, e = .returned u ∧ w'.ownsRow w.heap.size 5 1 u (mB big) ((outZ big (h0Z big (blkP big v z1 z2)) msg la).map encB) ∧ Below w.heap.size w w' := by
 cases big
 ·exact refOut_false v z1 z2 msg sa pe kv mv la cnt np w hN hP h1 h2 hl1 hl2 hM hml
 ·exact refOut_true v z1 z2 msg sa pe kv mv la cnt np w hN hP h1 h2 hl1 hl2 hM hml
/-- What a hash answers. -/
def HashIs (big : Bool) (v : Nat → Nat) (z1 z2 kz : List Int) (la : Bool) (o : Int) (ds : List Int) (w : World) (e : Ending) (w' : World) : Prop :=
 (∃ u, e = .returned (.tuple #[u, .int .i64 0]) ∧ Fresh w.heap.size w' u ((outZ big (h0Z big (blkP big v z1 z2)) (keyZ (bB big) kz ++ ds) la).take o.toNat)) ∧ Below w.heap.size w w'
/-- The first m of fresh bytes, with the room behind them. -/
theorem fresh_head {base g c m : Nat} {W : World} {zs : List Int} (h : W.ownsRow base 5 1 (.slice (some ⟨g, 0, none⟩) zs.length c) zs.length (zs.map encB)) (hm : m ≤ zs.length) : Fresh base W (.slice (some ⟨g, 0, none⟩) m c) (zs.take m) := by
 obtain ⟨cur, h2, h3, h4, h5, h6, h7⟩ := own_row h
 have e : (zs.take m).length = m := by simp [List.length_take, Nat.min_eq_left hm]
 refine .inr ⟨g, c, cur, by rw [e], h5, h2, by omega, by omega, by omega, ?_⟩
 rw [e, List.map_take, ← h4, List.take_take, Nat.min_eq_left hm]
theorem bB_le (big : Bool) : mB big ≤ bB big ∧ bB big ≤ 128 := by cases big <;> decide
theorem refHash_ok (big : Bool) (v : Nat → Nat) (z1 z2 kz ds : List Int) (la : Bool) (o : Int) (sa pe kv dv : Value) (w : World) (hP : ParOk big v) (h1 : Hold w sa z1) (h2 : Hold w pe z2) (hl1 : z1.length ≤ sB big) (hl2 : z2.length ≤ sB big) (hK : Hold w kv kz) (hkl : kz.length ≤ mB big) (hk : kz.length = 0 ∨ kz.length = v 2) (hD : Hold w dv ds) (hdl : (ds.length : Int) ≤ 140737488355200) (hbad : ¬ (o < 1 ∨ (mB big : Nat) < o)) :
  Calls Tryz.prog 45 #[.int .i64 (kB big), parN v sa pe, kv, .bool la, .int .i64 o, dv] w fun e w' => HashIs big v z1 z2 kz la o ds w e w' := by
 obtain ⟨b0, hb0⟩ : ∃ b0, w.heap.size = b0 := ⟨_, rfl⟩
 obtain ⟨a1, c1, rfl, hc11, hc12⟩ := h1.slice
 obtain ⟨a2, c2, rfl, hc21, hc22⟩ := h2.slice
 have hbA : Below b0 w (w.alloc (.cells #[.int .i64 (v 1 : Nat), .int .i64 (v 2 : Nat), .int .i64 (v 3 : Nat), .int .i64 (v 4 : Nat), .int .u32 (v 5 : Nat), .int .u64 (v 6 : Nat), .int .u32 (v 7 : Nat), .int .i64 (v 8 : Nat), .int .i64 (v 9 : Nat), .slice a1 z1.length c1, .slice a2 z2.length c2] 76)) := by rw [← hb0]; exact (Below.refl _ _).alloc (Nat.le_refl _) _
 have hrA := World.alloc_heap_new w (.cells #[.int .i64 (v 1 : Nat), .int .i64 (v 2 : Nat), .int .i64 (v 3 : Nat), .int .i64 (v 4 : Nat), .int .u32 (v 5 : Nat), .int .u64 (v 6 : Nat), .int .u32 (v 7 : Nat), .int .i64 (v 8 : Nat), .int .i64 (v 9 : Nat), .slice a1 z1.length c1, .slice a2 z2.length c2] 76)
 rw [hb0] at hrA
 have hb0A := (Array.getElem?_eq_some_iff.1 hrA).1
 have HP_ := hid hP
 have H1_ := hid h1
 have H2_ := hid h2
 have HK_ := hid hK
 have HD_ := hid hD
 have HKL_ := hid hkl
 have HKK_ := hid hk
 have HDL_ := hid hdl
 have HL1_ := hid hl1
 have HL2_ := hid hl2
 clear hP h1 h2 hl1 hl2 hK hkl hk hD hdl hc11 hc12 hc21 hc22
 unfold parN parV
 go_enter Tryz.func45, Tryz.ntmps45
 go_upto_region 1 with (fail)
 generalize w.alloc (.cells #[.int .i64 (v 1 : Nat), .int .i64 (v 2 : Nat), .int .i64 (v 3 : Nat), .int .i64 (v 4 : Nat), .int .u32 (v 5 : Nat), .int .u64 (v 6 : Nat), .int .u32 (v 7 : Nat), .int .i64 (v 8 : Nat), .int .i64 (v 9 : Nat), .slice a1 z1.length c1, .slice a2 z2.length c2] 76) = wA at *
 go_wp2_with ((with_reducible show wpList _ _ _ (Oper.mk _ (Op.load 76 _) _ _ _ _ :: _) _ _); refine wpList_load_row rfl 76 _ rfl b0 rfl _ _ _ _ hrA Tryz.underlying76 rfl (by kernel_rfl) ?_)
 refine (refNew_ok big v a1 a2 z1.length z2.length c1 c2 kz kv wA HP_.out HL1_.out HL2_.out (HK_.out.below (hb0 ▸ hbA)) HKL_.out HKK_.out).mono ?_; rintro e w1 ⟨np, mv, rfl, hnp, hN, hO, hb1⟩
 have hs1 := hb1.size
 have hbB : Below b0 w w1 := hbA.trans (hb1.mono (by omega))
 have hnps : np < w1.heap.size := (Array.getElem?_eq_some_iff.1 hN).1
 have hmv : ∀ g, mv.ownBlock = some g → b0 < g := fun g hg => by have := own_base hO hg; omega
 have hO1 := own_base0 hO
 have HN := hid hN
 have HO1 := hid hO1
 have HBB := hid hbB
 have HMV := hid hmv
 have hnp0 : b0 < np := by omega
 clear hN hO hb1 hbB hmv hO1 hrA hbA hb0A hs1 hnp wA
 have HBAD := hid hbad
 have hq0 : decide (o < 1) = false := decide_eq_false (by omega)
 have hq1 : decide ((mB big : Int) < o) = false := decide_eq_false (by omega)
 clear hbad
 have c13 : w1.cell? ⟨np, 13, none⟩ = some (.bool false) := cell_of_heap HN.out 13
 have f13 := frozen_of_row w1 np 13 _ _ HN.out
 go_wp2_with fail
 refine (refFull_ok big _).mono ?_; rintro r w4 ⟨rfl, hw⟩
 obtain rfl := hw
 go_upto_region 7 with (fail)
 have hbut : But np w4 (w4.setCell ⟨np, 13, none⟩ (.bool la)) := (But.refl np w4).set 13 _
 have HN4 := hid (show rNode big (w4.setCell ⟨np, 13, none⟩ (.bool la)) np v (.slice a1 z1.length c1) (.slice a2 z2.length c2) kv la mv 0 from rNode_last HN.out)
 have HO4 := hid (own_but HO1.out hbut HN.out (by decide))
 have HB4 := hid (show Below b0 w (w4.setCell ⟨np, 13, none⟩ (.bool la)) from HBB.out.trans (hbut.below (by omega) (by omega)))
 obtain ⟨m, hm⟩ : ∃ m : Nat, o = (m : Int) := ⟨o.toNat, by have := HBAD.out; omega⟩
 subst hm
 have hm2 : m ≤ mB big := by have := HBAD.out; omega
 have HM2 := hid hm2
 clear HN HO1 HBB hbut c13 f13 hq0 hq1 hm2
 generalize (w4.setCell ⟨np, 13, none⟩ (.bool la)) = W4 at *
 go_wp2_with fail
 have hkz := keyZ_length (n := bB big) (key := kz) (by have := bB_le big; have := HKL_.out; omega)
 have hlen : ((keyZ (bB big) kz ++ ds).length : Int) ≤ 281474976710656 := by have := bB_le big; have := HDL_.out; rw [List.length_append]; omega
 have hmz : ∀ z ∈ keyZ (bB big) kz ++ ds, 0 ≤ z ∧ z ≤ 255 := fun z hz => by
  rcases List.mem_append.1 hz with hz | hz
  ·exact keyZ_bounds HK_.out.1 z hz
  ·exact HD_.out.1 z hz
 have HLEN := hid hlen
 have HMZ := hid hmz
 refine (refWrite_any big v (keyZ (bB big) kz) ds (.slice a1 z1.length c1) (.slice a2 z2.length c2) kv mv dv la 0 np W4 HN4.out HO4.out (HD_.out.below (hb0 ▸ HB4.out)) (fun hne b hb => ⟨fun e => by have := hold_own HD_.out hne hb; omega, fun e => by have := hold_own HD_.out hne hb; have := HMV.out b e; omega⟩) (by have := bB_le big; have := HDL_.out; omega)).mono ?_; rintro e w5 ⟨rfl, ⟨mv5, cnt5, hn5, ho5⟩, hs5⟩
 clear hkz hlen hmz
 have HB5 := hid (show Below b0 w w5 from HB4.out.trans (hs5.below (by have := HB4.out.size; omega) (fun k hk => ⟨by omega, fun e => by have := HMV.out k e; omega⟩)))
 have HN5 := hid hn5
 have HO5 := hid ho5
 clear hn5 ho5 hs5 HN4 HO4 HB4
 go_wp2_with fail
 refine (refOut_any big v z1 z2 (keyZ (bB big) kz ++ ds) (.slice a1 z1.length c1) (.slice a2 z2.length c2) kv mv5 la cnt5 np w5 HN5.out HP_.out (H1_.out.below (hb0 ▸ HB5.out)) (H2_.out.below (hb0 ▸ HB5.out)) HL1_.out HL2_.out (hold_of_own HO5.out HMZ.out) HLEN.out).mono ?_; rintro e w6 ⟨u, rfl, ho6, hb6⟩
 have HB6 := hid (show Below b0 w w6 from HB5.out.trans (hb6.mono (by have := HB5.out.size; omega)))
 have hw5 : w.heap.size ≤ w5.heap.size := HB5.out.size
 obtain ⟨u1, u2, u3, rfl⟩ := own_slice ho6
 obtain rfl : u2 = mB big := own_len ho6
 obtain ⟨gg, rfl⟩ := own_some (own_base0 ho6) (by cases big <;> decide)
 obtain ⟨cu, -, -, -, -, hk1, hk2⟩ := own_row ho6
 have hol : (outZ big (h0Z big (blkP big v z1 z2)) (keyZ (bB big) kz ++ ds) la).length = mB big := by have := ho6.1; simpa using this
 have hk3 : (u3 : Int) ≤ 9223372036854775807 := by unfold maxLen at hk2; omega
 have hm2 := HM2.out
 have hk4 : (m : Int) ≤ u3 := by omega
 have hk5 : (mB big : Int) ≤ (u3 : Int) := by omega
 have hft := (fresh_head (m := m) (zs := outZ big (h0Z big (blkP big v z1 z2)) (keyZ (bB big) kz ++ ds) la) (c := u3) (by rw [hol]; exact ho6) (by rw [hol]; exact hm2)).le hw5
 have HFT := hid hft
 clear hft ho6 hb6 hol hw5 hm2
 go_wp2_with fail
 go_ret2
 exact ⟨⟨_, rfl, HFT.out⟩, by rw [hb0]; exact HB6.out⟩
theorem decV_two {big ext : Bool} {zs : List Int} (hz : ∀ z ∈ zs, 0 ≤ z ∧ z ≤ 255) (hl : zs.length = mB big) : ((decV big ext zs 2 : Nat) : Int) = nthz zs 1 := by
 rw [decV_eq (big := big) (ext := ext) hz hl (f := 2) (by omega) (by omega) (by omega)]
 cases big <;> cases ext <;> simp [szE, szB, atB, val1]
theorem key_two {big ext : Bool} {bs kz : List Int} (hz : ∀ z ∈ bs, 0 ≤ z ∧ z ≤ 255) (hl : bs.length = mB big) (hk : keyBad bs kz = false) : kz.length = 0 ∨ kz.length = decV big ext bs 2 := by
 have h1 := decV_two (ext := ext) hz hl
 unfold keyBad at hk
 have h2 := of_decide_eq_false hk
 omega
theorem callIs_hash {big : Bool} {bs kz ds : List Int} {la : Bool} {o : Int} {w w0 : World} {e : Ending} {w' : World} (hz : ∀ z ∈ bs, 0 ≤ z ∧ z ≤ 255) (hok : okD big false bs) (hb : Below w0.heap.size w0 w) (h : HashIs big (decV big false bs) (saltZ big bs) (persZ big bs) kz la o ds w e w') :
  ∃ u, e = .returned (.tuple #[u, .int .i64 0]) ∧ CallIs big bs kz la o ds w0 (.returned (.tuple #[u, .int .i64 0])) w' := by
 obtain ⟨⟨u, rfl, h⟩, hb1⟩ := h
 rw [blkP_dec hz hok] at h
 exact ⟨u, rfl, ⟨u, rfl, h.le hb.size⟩, hb.trans (hb1.mono hb.size)⟩
theorem refCall_ok (big : Bool) (bs kz ds : List Int) (la : Bool) (o : Int) (bv kv dv : Value) (w : World) (hB : Hold w bv bs) (hK : Hold w kv kz) (hD : Hold w dv ds) (hdl : (ds.length : Int) ≤ 140737488355200) (hok : okD big false bs) (hkb0 : keyBad bs kz = false) (ho : ¬ (o < 1 ∨ (mB big : Nat) < o)) :
  Calls Tryz.prog 28 #[.agg (callC (kB big) bv kv la o dv)] w fun e w' => CallIs big bs kz la o ds w e w' := by
 obtain ⟨b0, hb0⟩ : ∃ b0, w.heap.size = b0 := ⟨_, rfl⟩
 obtain ⟨ka, kc, rfl, hkc1, hkc2⟩ := hK.slice
 have hbA : Below b0 w (w.alloc (.cells #[.int .i64 (kB big), bv, .slice ka kz.length kc, .bool la, .int .i64 o, dv] 25)) := by rw [← hb0]; exact (Below.refl _ _).alloc (Nat.le_refl _) _
 have hrA := World.alloc_heap_new w (.cells #[.int .i64 (kB big), bv, .slice ka kz.length kc, .bool la, .int .i64 o, dv] 25)
 rw [hb0] at hrA
 have hb0A := (Array.getElem?_eq_some_iff.1 hrA).1
 have hq : ((kB big != 1) && (kB big != 2)) = false := by cases big <;> rfl
 obtain ⟨q0, hq0⟩ : ∃ q, (kB big != 1) = q := ⟨_, rfl⟩
 obtain ⟨q1, hq1⟩ : ∃ q, (kB big != 2) = q := ⟨_, rfl⟩
 rw [hq0, hq1] at hq
 obtain ⟨kk, hkk⟩ : ∃ kk, kB big = kk := ⟨_, rfl⟩
 have HKK := hid hkk
 have HB_ := hid hB
 have HK_ := hid hK
 have HD_ := hid hD
 have HDL_ := hid hdl
 have HO := hid hok
 have HKF := hid hkb0
 have HOO := hid ho
 clear hB hK hD hdl hkc1 hkc2 hok hkb0 ho
 show Calls _ _ #[.agg #[.int .i64 (kB big), bv, .slice ka kz.length kc, .bool la, .int .i64 o, dv]] _ _
 rw [hkk] at hbA hrA hb0A hq0 hq1 ⊢
 clear hkk
 go_enter Tryz.func28, Tryz.ntmps28
 go_upto_region 1 with (fail)
 generalize w.alloc (.cells #[.int .i64 kk, bv, .slice ka kz.length kc, .bool la, .int .i64 o, dv] 25) = wA at *
 have c0 : wA.cell? ⟨b0, 0, none⟩ = some (.int .i64 kk) := cell_of_heap hrA 0
 have c1 : wA.cell? ⟨b0, 1, none⟩ = some bv := cell_of_heap hrA 1
 cases q0 <;> cases q1 <;> first | (exfalso; cases hq; done) | skip
 all_goals
  clear hq
  go_wp2_with fail
  refine (show Calls Tryz.prog 44 #[.int .i64 kk, bv] wA _ from HKK.out ▸ refDecoded_ok big bs bv wA (HB_.out.below (hb0 ▸ hbA)) HO.out).mono ?_; rintro e w1 ⟨⟨cs, rfl, hdc⟩, hb1⟩
  have hs1 := hb1.size
  have hr1 := rowStay hrA hb1
  have hbB : Below b0 w w1 := hbA.trans (hb1.mono (by omega))
  have HDC := hid hdc
  have HBB := hid hbB
  have HR1 := hid hr1
  clear hdc hbB hr1 hb1 hbA c0 c1 hrA
  go_upto_region 7 with ((with_reducible show wpList _ _ _ (Oper.mk none (Op.store 76 (Operand.tmp 5) _) _ _ _ _ :: _) _ _); refine wpList_store_row rfl 76 _ _ rfl w1.heap.size cs rfl rfl 76 _ (World.alloc_heap_new _ _) (by rw [HDC.out.1]; kernel_rfl) (by rw [HDC.out.1]; rfl) HDC.out.2.1 ?_)
  refine letterW ?_
  intro W hW
  obtain ⟨p5, hp5⟩ : ∃ p, w1.heap.size = p := ⟨_, rfl⟩
  have r5 : W.heap[p5]? = some (.cells cs 76 (0, 0)) := by rw [hW, ← hp5]; exact setRow_heap _ _ _ _ _ _ (World.alloc_heap_new _ _)
  have r0 : W.heap[b0]? = some (.cells #[.int .i64 kk, bv, .slice ka kz.length kc, .bool la, .int .i64 o, dv] 25 (0, 0)) := by rw [hW]; exact (setRow_other (w1.alloc _) _ _ _ (by omega)).trans ((Below.heap_alloc _ _ _ (by omega)).trans HR1.out)
  have hbC : Below b0 w W := by rw [hW]; exact below_setRow (HBB.out.alloc (by omega) _) (by omega) _
  have hcW : DecIs big bs b0 W cs := HDC.out.mono (by omega) (fun g hg hg2 => by rw [hW]; exact (setRow_other (w1.alloc _) _ _ _ (by omega)).trans (Below.heap_alloc _ _ _ hg2))
  rw [hp5]
  have hb05 : b0 < p5 := by omega
  have hWs : p5 < W.heap.size := (Array.getElem?_eq_some_iff.1 r5).1
  clear hW hp5 HR1 HBB HDC hs1 hb0A
  have R5 := hid r5
  have R0 := hid r0
  have HBC := hid hbC
  have HCW := hid hcW
  clear r5 r0 hbC hcW
  obtain ⟨-, -, sa, pe, hcs, hsa, hpe⟩ := HCW.out
  clear HCW
  obtain ⟨v, hv⟩ : ∃ v, decV big false bs = v := ⟨_, rfl⟩
  rw [hv] at hcs
  unfold parN parV at hcs
  injection hcs with hcs
  subst hcs
  have hz := HB_.out.1
  have HSA := hid (hold_of_own hsa (saltZ_bounds hz))
  have HPE := hid (hold_of_own hpe (persZ_bounds hz))
  have HV := hid hv
  clear hsa hpe hv
  have c5 : W.cell? ⟨p5, 1, none⟩ = some (.int .i64 (v 2 : Nat)) := cell_of_heap R5.out 1
  have c2 : W.cell? ⟨b0, 2, none⟩ = some (.slice ka kz.length kc) := cell_of_heap R0.out 2
  have hb0s : b0 < W.heap.size := (Array.getElem?_eq_some_iff.1 R0.out).1
  have hky : ((v 2 : Nat) : Int) = nthz bs 1 := by rw [← HV.out]; exact decV_two hz HO.out.1
  obtain ⟨q2, hq2⟩ : ∃ q, ((kz.length : Int) != 0) = q := ⟨_, rfl⟩
  obtain ⟨q3, hq3⟩ : ∃ q, ((kz.length : Int) != (v 2 : Nat)) = q := ⟨_, rfl⟩
  have hkb : keyBad bs kz = (q2 && q3) := by rw [← hq2, ← hq3, hky]; exact keyBad_eq bs kz
  have HKB := hid hkb
  clear hz hky hkb
  have hqq : (q2 && q3) = false := by rw [← HKB.out]; exact HKF.out
  clear HKB
  have c3 : W.cell? ⟨b0, 3, none⟩ = some (.bool la) := cell_of_heap R0.out 3
  have c4 : W.cell? ⟨b0, 4, none⟩ = some (.int .i64 o) := cell_of_heap R0.out 4
  have c6 : W.cell? ⟨b0, 5, none⟩ = some dv := cell_of_heap R0.out 5
  cases q2 <;> cases q3 <;> first | (exfalso; cases hqq; done) | skip
  all_goals
   clear hqq
   go_wp2_with ((with_reducible show wpList _ _ _ (Oper.mk _ (Op.load 76 _) _ _ _ _ :: _) _ _); refine wpList_load_row rfl 76 _ rfl p5 rfl _ _ _ _ R5.out Tryz.underlying76 rfl (by kernel_rfl) ?_)
   have HZ := HB_.out.1
   refine (show Calls Tryz.prog 45 #[.int .i64 kk, parN v sa pe, .slice ka kz.length kc, .bool la, .int .i64 o, dv] W _ from HKK.out ▸ refHash_ok big v (saltZ big bs) (persZ big bs) kz ds la o sa pe (.slice ka kz.length kc) dv W (HV.out ▸ parOk_dec HZ HO.out) HSA.out HPE.out (saltZ_le big bs) (persZ_le big bs) (HK_.out.below (hb0 ▸ HBC.out)) (key_len HO.out HKF.out) (HV.out ▸ key_two HZ HO.out.1 HKF.out) (HD_.out.below (hb0 ▸ HBC.out)) HDL_.out HOO.out).mono ?_; intro e w9 hh
   obtain ⟨u, rfl, hc⟩ := callIs_hash (w0 := w) HZ HO.out (hb0 ▸ HBC.out) (HV.out ▸ hh)
   have HC := hid hc
   clear hh hc HZ
   go_wp2_with fail
   go_ret2
   exact HC.out
end Go.Proofs.YtjogmckaakkomaaGreat
