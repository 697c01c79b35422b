/- A block of parameters out of its numbers, by the program. No condition. -/
import Derived.Test.YtahenngmaoellaaN27
import Derived.Test.YtahenngmaoellaaN20
import Derived.Test.YtahenngmaoellaaN28
import Derived.Test.YtahenngmaoellaaN25
import Derived.Test.YtahenngmaoellaaN24
import Derived.Test.YtahenngmaoellaaN05
set_option linter.all false
set_option maxRecDepth 100000
set_option maxHeartbeats 8000000
namespace Go.Proofs.Ytahenngmaoellaa
open Go.ChangeShapes Go.WideShapes Go.ChangeAt Go.RowKit Go.Joins Go.Shelf Go.Maps
open Go.Lib (hid)
attribute [local go_sem] Oper.semAt_some
theorem check_par {big : Bool} {v : Nat → Nat} (hP : ParOk big v) (a1 a2 : Option Addr) {l1 l2 : Nat} (c1 c2 : Nat) (hl1 : l1 ≤ sB big) (hl2 : l2 ≤ sB big) (w : World) :
  Calls Try.prog 42 #[.int .i64 (kB big), parN v (.slice a1 l1 c1) (.slice a2 l2 c2)] w fun e w' => e = .returned (.int .i64 0) ∧ Below w.heap.size w w' := by
 unfold parN
 rw [hP.x0]
 exact check_ok big _ _ _ _ _ _ _ _ a1 a2 l1 l2 c1 c2 w hP.p hl1 hl2
/-- THE PROGRAM'S ENCODE. -/
theorem encode_ok (big : Bool) (v : Nat → Nat) (z1 z2 : List Int) (sa pe : Value) (w : World) (hP : ParOk big v) (h1 : Hold w sa z1) (h2 : Hold w pe z2) (hl1 : z1.length ≤ sB big) (hl2 : z2.length ≤ sB big) :
  Calls Try.prog 32 #[.int .i64 (kB big), parN v sa pe] w fun e w' => (∃ r, e = .returned (.tuple #[r, .int .i64 0]) ∧ w'.ownsRow w.heap.size 5 1 r (mB big) ((blkP big v z1 z2).map encB)) ∧ Below w.heap.size w w' := by
 obtain ⟨a1, c1, rfl, hx1, hx2⟩ := h1.slice
 obtain ⟨a2, c2, rfl, hx3, hx4⟩ := h2.slice
 obtain ⟨i0, hi, hz0, hz1, hz2⟩ := info_parts info_u8
 obtain ⟨b0, hb0⟩ : ∃ b0, w.heap.size = b0 := ⟨_, rfl⟩
 have HCK := hid (check_par hP a1 a2 c1 c2 hl1 hl2)
 have hbA : Below b0 w (w.alloc (.cells #[.int .i64 (v 1 : Nat), .int .i64 (v 2 : Nat), .int .i64 (v 3 : Nat), .int .i64 (v 4 : Nat), .int .u32 (v 5 : Nat), .int .u64 (v 6 : Nat), .int .u32 (v 7 : Nat), .int .i64 (v 8 : Nat), .int .i64 (v 9 : Nat), .slice a1 z1.length c1, .slice a2 z2.length c2] 78)) := by rw [← hb0]; exact (Below.refl _ _).alloc (Nat.le_refl _) _
 have hrA := World.alloc_heap_new w (.cells #[.int .i64 (v 1 : Nat), .int .i64 (v 2 : Nat), .int .i64 (v 3 : Nat), .int .i64 (v 4 : Nat), .int .u32 (v 5 : Nat), .int .u64 (v 6 : Nat), .int .u32 (v 7 : Nat), .int .i64 (v 8 : Nat), .int .i64 (v 9 : Nat), .slice a1 z1.length c1, .slice a2 z2.length c2] 78)
 rw [hb0] at hrA
 have HH1 := hid h1
 have HH2 := hid h2
 have HHP := hid hP
 have HL1 := hid hl1
 have HL2 := hid hl2
 clear hP h1 h2 hl1 hl2 hx1 hx2 hx3 hx4
 unfold parN parV
 unfold parN parV at HCK
 go_enter Try.func32, Try.ntmps32
 go_upto_region 1 with (fail)
 generalize w.alloc (.cells #[.int .i64 (v 1 : Nat), .int .i64 (v 2 : Nat), .int .i64 (v 3 : Nat), .int .i64 (v 4 : Nat), .int .u32 (v 5 : Nat), .int .u64 (v 6 : Nat), .int .u32 (v 7 : Nat), .int .i64 (v 8 : Nat), .int .i64 (v 9 : Nat), .slice a1 z1.length c1, .slice a2 z2.length c2] 78) = wA at *
 go_wp2_with ((with_reducible show wpList _ _ _ (Oper.mk _ (Op.load 78 _) _ _ _ _ :: _) _ _); refine wpList_load_row rfl 78 _ rfl b0 rfl _ _ _ _ hrA Try.underlying78 rfl (by kernel_rfl) ?_)
 refine (HCK.out wA).mono ?_; rintro e w1 ⟨rfl, hb1⟩
 have hr1 := rowStay hrA hb1
 have hs1 := hb1.size
 have hb0A : b0 < wA.heap.size := (Array.getElem?_eq_some_iff.1 hrA).1
 have hb01 : b0 < w1.heap.size := by omega
 have HR1 := hid hr1
 have HBB := hid (show Below b0 w w1 from hbA.trans (hb1.mono (by omega)))
 clear hb1 hbA hrA hr1 hs1 hb0A HCK
 go_wp2_with fail
 refine (sizes_ok big _).mono ?_; rintro e w2 ⟨rfl, hw⟩
 rw [hw]; clear hw w2
 obtain ⟨M, hM⟩ : ∃ M, mB big = M := ⟨_, rfl⟩
 obtain ⟨S, hS⟩ : ∃ S, sB big = S := ⟨_, rfl⟩
 have hMS : 4 * S = M := by rw [← hM, ← hS]; cases big <;> rfl
 have hS8 : 8 ≤ S ∧ S ≤ 16 := by rw [← hS]; cases big <;> decide
 rw [hM, hS]
 have hmk := fun W : World => run_make (P := Try.prog) W 24 5 i0 (.int .u8 0) Try.underlying24 hi hz0 .i64 .i64 M M (by omega) (by omega) (by rw [hz2]; omega) (by omega)
 simp only [hz1] at hmk
 go_wp2_with fail
 obtain ⟨g, hg⟩ : ∃ g, w1.heap.size = g := ⟨_, rfl⟩
 have hmc : madeCells #[.int .u8 0] M = ((List.replicate M (0 : Int)).map encB).toArray := by
  apply Array.toList_inj.1
  rw [toList_madeCells_one]; simp [encB]
 have hg5 : RowB (w1.alloc (.cells (madeCells #[.int .u8 0] M) 5)) g (encF big (v 7 == 0) v 0) := by
  unfold RowB; rw [hmc, ← hg, ← hM]; exact World.alloc_heap_new _ _
 have hb5 : Below b0 w (w1.alloc (.cells (madeCells #[.int .u8 0] M) 5)) := HBB.out.alloc (by omega) _
 have hr5 : (w1.alloc (.cells (madeCells #[.int .u8 0] M) 5)).heap[b0]? = some (.cells #[.int .i64 (v 1 : Nat), .int .i64 (v 2 : Nat), .int .i64 (v 3 : Nat), .int .i64 (v 4 : Nat), .int .u32 (v 5 : Nat), .int .u64 (v 6 : Nat), .int .u32 (v 7 : Nat), .int .i64 (v 8 : Nat), .int .i64 (v 9 : Nat), .slice a1 z1.length c1, .slice a2 z2.length c2] 78 (0, 0)) := by
  rw [Below.heap_alloc _ _ _ (by omega)]; exact HR1.out
 have hs5 : (w1.alloc (.cells (madeCells #[.int .u8 0] M) 5)).heap.size = g + 1 := by simp [hg]
 rw [hg]
 generalize w1.alloc (.cells (madeCells #[.int .u8 0] M) 5) = w5 at *
 refine (rows2_ok big _).mono ?_; rintro e w6 ⟨⟨rb, rfl, hrb, hrows⟩, hb6⟩
 have hs6 := hb6.size
 have HG6 := hid (show RowB w6 g (encF big (v 7 == 0) v 0) from (hb6.block g (by omega)).trans hg5)
 have HR6 := hid ((hb6.block b0 (by omega)).trans hr5)
 have HB6 := hid (show Below b0 w w6 from hb5.trans (hb6.mono (by omega)))
 obtain ⟨cur, hcur, hrow⟩ := hrows
 have hrb6 : rb < w6.heap.size := (Array.getElem?_eq_some_iff.1 hcur).1
 have HCUR := hid hcur
 have HROW := hid hrow
 have hgb : b0 < g ∧ g < rb := by omega
 clear hg5 hr5 hb5 hb6 hcur hrow hmc hmk HR1 HBB hs5
 go_wp2_with fail
 go_loopw [30] (fun i wr => ∃ k : Nat, i = .int .i64 (k : Nat) ∧ k ≤ 9 ∧ RowB wr g (encF big (v 7 == 0) v k) ∧ But g w6 wr) (fun i _ => 9 - (intOf i).toNat)
 case atStart => exact ⟨0, rfl, by omega, HG6.out, But.refl _ _⟩
 case round =>
  obtain ⟨k, rfl, hk, hrow, hb⟩ := hrel
  have HW := hid hrow
  have HB := hid hb
  have hsz := hb.size
  have hlen := encF_length big (v 7 == 0) v k hk
  have hpr : wr.heap[b0]? = some (.cells #[.int .i64 (v 1 : Nat), .int .i64 (v 2 : Nat), .int .i64 (v 3 : Nat), .int .i64 (v 4 : Nat), .int .u32 (v 5 : Nat), .int .u64 (v 6 : Nat), .int .u32 (v 7 : Nat), .int .i64 (v 8 : Nat), .int .i64 (v 9 : Nat), .slice a1 z1.length c1, .slice a2 z2.length c2] 78 (0, 0)) := (hb.block b0 (by omega) (by omega)).trans HR6.out
  by_cases hlt : k < 9
  case pos =>
   obtain ⟨nm, why, q0, q1, q2, q3, q4, q5, q6⟩ := HROW.out k hlt
   have HCR := hid ((hb.block rb (by omega) (by omega)).trans HCUR.out)
   have HQ := hid (show ∀ j, j < 5 → cur[k * 5 + j]? = (#[.int .i64 ((k + 1 : Nat) : Int), .int .i64 (atB big (k + 1) : Nat), .int .i64 (szB big (k + 1) : Nat), nm, why] : Array Value)[j]? from fun j hj => by
    rcases (show j = 0 ∨ j = 1 ∨ j = 2 ∨ j = 3 ∨ j = 4 by omega) with rfl | rfl | rfl | rfl | rfl
    ·exact q0
    ·exact q1
    ·exact q2
    ·exact q3
    ·exact q4)
   have H1 := hid (show (#[.int .i64 ((k + 1 : Nat) : Int), .int .i64 (atB big (k + 1) : Nat), .int .i64 (szB big (k + 1) : Nat), nm, why] : Array Value).all (·.oneCell') = true by simp only [List.all_toArray, List.all_cons, List.all_nil, q5, q6]; rfl)
   have hk9 : (k : Int) < 9 := by omega
   have HPR := hid hpr
   clear q0 q1 q2 q3 q4 q5 q6 hrow hb hpr
   go_upto_region 9 with (first | ((with_reducible show wpList _ _ _ (Oper.mk _ (Op.load 104 _) _ _ _ _ :: _) _ _); refine wpList_plain rfl fun K hK => wp_load_part 104 _ rfl rb (k * 5) (by kernel_rfl) 104 cur #[.int .i64 ((k + 1 : Nat) : Int), .int .i64 (atB big (k + 1) : Nat), .int .i64 (szB big (k + 1) : Nat), nm, why] (0, 0) _ HCR.out Try.underlying104 rfl (by kernel_rfl) HQ.out (hK _ _ ?_)) | ((with_reducible show wpList _ _ _ (Oper.mk none (Op.store 104 _ _) _ _ _ _ :: _) _ _); refine wpList_store_row rfl 104 _ _ rfl wr.heap.size #[.int .i64 ((k + 1 : Nat) : Int), .int .i64 (atB big (k + 1) : Nat), .int .i64 (szB big (k + 1) : Nat), nm, why] rfl rfl 104 _ (World.alloc_heap_new _ _) (by kernel_rfl) rfl H1.out ?_))
   refine letterW ?_
   intro Wq hWq
   obtain ⟨q, hq⟩ : ∃ q, wr.heap.size = q := ⟨_, rfl⟩
   have r12 : Wq.heap[q]? = some (.cells #[.int .i64 ((k + 1 : Nat) : Int), .int .i64 (atB big (k + 1) : Nat), .int .i64 (szB big (k + 1) : Nat), nm, why] 104 (0, 0)) := by rw [hWq, ← hq]; exact setRow_heap _ _ _ _ _ _ (World.alloc_heap_new _ _)
   have hbq : Below q wr Wq := by rw [hWq, ← hq]; exact below_setRow ((Below.refl _ _).alloc (Nat.le_refl _) _) (Nat.le_refl _) _
   rw [hq]
   have hgq : g < q ∧ b0 < q := by omega
   have hBq : But g w6 Wq := HB.out.trans ⟨hbq.os, hbq.tape, hbq.output, hbq.size, fun j hj _ => hbq.block j (by omega)⟩
   have HGq := hid (show RowB Wq g (encF big (v 7 == 0) v k) from (hbq.block g (by omega)).trans HW.out)
   have HPq := hid ((hbq.block b0 (by omega)).trans HPR.out)
   have HR12 := hid r12
   have HBq := hid hBq
   have hqs : q < Wq.heap.size := (Array.getElem?_eq_some_iff.1 r12).1
   have c0 : Wq.cell? ⟨q, 0, none⟩ = some (.int .i64 ((k + 1 : Nat) : Int)) := cell_of_heap r12 0
   clear hWq hq HCR HQ H1 HW HB HPR r12 hbq hBq
   by_cases h7 : k = 6
   case pos =>
    subst h7
    have c6 : Wq.cell? ⟨b0, 6, none⟩ = some (.int .u32 (v 7 : Nat)) := cell_of_heap HPq.out 6
    have hb0q : b0 < Wq.heap.size := by omega
    have hq0 : ((v 7 : Int) == 0) = true := by rw [HHP.out.x0]; rfl
    go_wp2
    refine ⟨⟨7, rfl, by omega, ?_, HBq.out⟩, by simp [intOf]⟩
    have e : encF big (v 7 == 0) v 7 = encF big (v 7 == 0) v 6 := by rw [encF, if_pos ⟨rfl, by rw [HHP.out.x0]; rfl⟩]
    rw [e]; exact HGq.out
   have h8 : ¬ ((k : Int) = 6) := by omega
   have hszk : szB big (k + 1) ≤ 8 ∧ atB big (k + 1) + szB big (k + 1) ≤ M := by
    rw [← hM]
    rcases (show k = 0 ∨ k = 1 ∨ k = 2 ∨ k = 3 ∨ k = 4 ∨ k = 5 ∨ k = 6 ∨ k = 7 ∨ k = 8 by omega) with rfl | rfl | rfl | rfl | rfl | rfl | rfl | rfl | rfl <;> cases big <;> decide
   have HSZ := hid hszk
   go_upto_region 10 with (fail)
   refine wp_region_c (n := 9) (w0 := Wq) (B := Wq.heap.size) [.v 42 (.slice (some ⟨g, 0, none⟩) M M), .v 43 (.pointer (some ⟨q, 1, none⟩)), .v 44 (.int .i64 (atB big (k + 1) : Nat)), .v 45 (.pointer (some ⟨q, 2, none⟩)), .v 46 (.int .i64 (szB big (k + 1) : Nat)), .v 47 (.agg #[.int .i64 (v 1 : Nat), .int .i64 (v 2 : Nat), .int .i64 (v 3 : Nat), .int .i64 (v 4 : Nat), .int .u32 (v 5 : Nat), .int .u64 (v 6 : Nat), .int .u32 (v 7 : Nat), .int .i64 (v 8 : Nat), .int .i64 (v 9 : Nat), .slice a1 z1.length c1, .slice a2 z2.length c2]), .v 48 (.pointer (some ⟨q, 0, none⟩)), .v 49 (.int .i64 ((k + 1 : Nat) : Int)), .v 50 (.int .u64 (v (k + 1) : Nat))] trivial (Below.refl _ _).drew (Nat.le_refl _) ?_ ?_
   ·repeat' (with_reducible first | exact eachO_nil | refine eachO_cons ?_ ?_)
    all_goals try
     intro A x W hA hW hBW hdep D K hK
     have a10 := hA.2 10 (by decide)
     conv at a10 => rhs; whnf
     have a12 := hA.2 12 (by decide)
     conv at a12 => rhs; whnf
     simp only [DepF, nthF] at D
     clear hdep hA
     have y := rowStay HR12.out hW
     have y0 : W.cell? ⟨q, 0, none⟩ = some (.int .i64 ((k + 1 : Nat) : Int)) := cell_of_heap y 0
     have y1 : W.cell? ⟨q, 1, none⟩ = some (.int .i64 (atB big (k + 1) : Nat)) := cell_of_heap y 1
     have y2 : W.cell? ⟨q, 2, none⟩ = some (.int .i64 (szB big (k + 1) : Nat)) := cell_of_heap y 2
     have y3 : q < W.heap.size := by omega
     go_simp
     exact hK _ _ BR rfl
    ·intro A x W hA hW hBW hdep _ K hK
     have a3 := hA.2 3 (by decide)
     conv at a3 => rhs; whnf
     clear hdep hA
     exact wp_load_part 78 _ rfl b0 0 a3 78 #[.int .i64 (v 1 : Nat), .int .i64 (v 2 : Nat), .int .i64 (v 3 : Nat), .int .i64 (v 4 : Nat), .int .u32 (v 5 : Nat), .int .u64 (v 6 : Nat), .int .u32 (v 7 : Nat), .int .i64 (v 8 : Nat), .int .i64 (v 9 : Nat), .slice a1 z1.length c1, .slice a2 z2.length c2] #[.int .i64 (v 1 : Nat), .int .i64 (v 2 : Nat), .int .i64 (v 3 : Nat), .int .i64 (v 4 : Nat), .int .u32 (v 5 : Nat), .int .u64 (v 6 : Nat), .int .u32 (v 7 : Nat), .int .i64 (v 8 : Nat), .int .i64 (v 9 : Nat), .slice a1 z1.length c1, .slice a2 z2.length c2] (0, 0) _ (rowStay HPq.out hW) Try.underlying78 rfl (by kernel_rfl) (fun j _ => by rw [Nat.zero_add]) (hK _ _ BR rfl)
    ·intro A x W hA hW hBW hdep _ K hK
     have g47 := gv hA hdep 5 47
     have g49 := gv hA hdep 7 49
     clear hdep hA
     go_simp
     refine (show Calls Try.prog 49 #[.agg #[.int .i64 (v 1 : Nat), .int .i64 (v 2 : Nat), .int .i64 (v 3 : Nat), .int .i64 (v 4 : Nat), .int .u32 (v 5 : Nat), .int .u64 (v 6 : Nat), .int .u32 (v 7 : Nat), .int .i64 (v 8 : Nat), .int .i64 (v 9 : Nat), .slice a1 z1.length c1, .slice a2 z2.length c2], .int .i64 ((k + 1 : Nat) : Int)] W _ from value_ok HHP.out (.slice a1 z1.length c1) (.slice a2 z2.length c2) (k + 1) (by omega) (by omega) W).mono ?_
     rintro r w3 ⟨rfl, hb3⟩
     exact hK _ _ hb3 rfl
   intro x W hW hBW hall
   clear hall
   refine thenTail_cons ?_
   simp only [layS, Act.put, List.setIfInBounds_toArray, List.set_cons_zero, List.set_cons_succ]
   have HGW := hid (show RowB W g (encF big (v 7 == 0) v k) from (hW.block g (by omega)).trans HGq.out)
   have HBW := hid (show But g w6 W from HBq.out.trans ⟨hW.os, hW.tape, hW.output, hW.size, fun j hj _ => hW.block j (by omega)⟩)
   clear c0 hW hBW HGq HPq HR12 HBq hqs
   go_wp2_with fail
   refine (put_ok (encF big (v 7 == 0) v k) g M M (atB big (k + 1)) (szB big (k + 1)) HSZ.out.1 (by rw [hlen, hM]; exact HSZ.out.2) (by rw [hlen, hM]) (Nat.le_refl _) (by omega) (v (k + 1)) (HHP.out.le (k + 1) (by omega) (by omega)) W HGW.out).mono ?_; rintro r w4 ⟨rfl, hl1, hl2⟩
   have HL1 := hid hl1
   have HL2 := hid hl2
   clear hl1 hl2
   go_wp2_with fail
   refine thenTail_nil ?_
   go_wp2
   refine ⟨⟨k + 1, rfl, by omega, ?_, HBW.out.trans HL2.out⟩, by simp [intOf]; omega⟩
   have e : encF big (v 7 == 0) v (k + 1) = setL (encF big (v 7 == 0) v k) (atB big (k + 1)) (bytesK (v (k + 1)) (szB big (k + 1))) := by rw [encF, if_neg (fun h => h7 (by omega))]
   rw [e]; exact HL1.out
  obtain rfl : k = 9 := by omega
  clear hlt hk
  have HBL := hid (show blkP big v z1 z2 = setL (setL (encF big (v 7 == 0) v 9) (2 * S) z1) (3 * S) z2 by rw [← hS]; rfl)
  have hE : (encF big (v 7 == 0) v 9).length = M := hlen.trans hM
  obtain ⟨E, hEE⟩ : ∃ E, encF big (v 7 == 0) v 9 = E := ⟨_, rfl⟩
  rw [hEE] at hE HBL HW
  clear hrow hb hlen hEE
  obtain ⟨S2, hS2⟩ : ∃ S2, 2 * S = S2 := ⟨_, rfl⟩
  obtain ⟨S3, hS3⟩ : ∃ S3, 3 * S = S3 := ⟨_, rfl⟩
  rw [hS2, hS3] at HBL
  have e2 : (M : Int) - 2 * (S : Int) = (S2 : Int) := by omega
  have e3 : (M : Int) - (S : Int) = (S3 : Int) := by omega
  have hlz1 : z1.length ≤ S := by have := HL1.out; omega
  have hlz2 : z2.length ≤ S := by have := HL2.out; omega
  have hSS : S2 + S ≤ M ∧ S3 + S ≤ M ∧ S2 < M ∧ S3 < M ∧ S ≤ 16 ∧ M ≤ 64 := by omega
  have HSS := hid hSS
  have HZ1 := hid hlz1
  have HZ2 := hid hlz2
  have HE := hid hE
  have hn2 : ¬ (M = S2) := by omega
  have hn3 : ¬ (M = S3) := by omega
  have k2 : (S2 : Int) ≤ (M : Int) := by omega
  have k3 : (S3 : Int) ≤ (M : Int) := by omega
  have HPR := hid hpr
  have hb0r : b0 < wr.heap.size ∧ g < wr.heap.size := by omega
  have w1' : IntKind.i64.wrap (2 * (S : Int)) = 2 * (S : Int) := by rw [IntKind.wrap_i64]; omega
  have w2' : IntKind.i64.wrap (S2 : Int) = (S2 : Int) := by rw [IntKind.wrap_i64]; omega
  have w3' : IntKind.i64.wrap (S3 : Int) = (S3 : Int) := by rw [IntKind.wrap_i64]; omega
  have HBr := hid (show Below b0 w wr from HB6.out.trans (HB.out.below (by omega) (by omega)))
  clear hMS hS8 hlz1 hlz2 hSS hS2 hS3 hE hpr hsz
  go_upto_region 12 with (fail)
  refine wp_region_c (n := 8) (w0 := wr) (B := wr.heap.size) [.v 53 (.slice (some ⟨g, 0, none⟩) M M), .v 54 (.int .i64 M), .v 55 (.int .i64 S), .v 56 (.int .i64 (2 * (S : Int))), .v 57 (.int .i64 S2), .v 58 (.slice (some ⟨g, S2, none⟩) (M - S2) (M - S2)), .v 59 (.pointer (some ⟨b0, 9, none⟩)), .v 60 (.slice a1 z1.length c1)] trivial (Below.refl _ _).drew (Nat.le_refl _) ?_ ?_
  ·repeat' (with_reducible first | exact eachO_nil | refine eachO_cons ?_ ?_)
   all_goals
    intro A x W hA hW hBW hdep D K hK
    have a3 := hA.2 3 (by decide)
    conv at a3 => rhs; whnf
    have a10 := hA.2 10 (by decide)
    conv at a10 => rhs; whnf
    have a7 := hA.2 7 (by decide)
    conv at a7 => rhs; whnf
    have a9 := hA.2 9 (by decide)
    conv at a9 => rhs; whnf
    simp only [DepF, nthF] at D
    clear hdep hA
    have y := rowStay HPR.out hW
    have y0 : W.cell? ⟨b0, 9, none⟩ = some (.slice a1 z1.length c1) := cell_of_heap y 9
    have y3 : b0 < W.heap.size := by omega
    go_simp
    exact hK _ _ BR rfl
  intro x W hW hBW hall
  clear hall
  refine thenTail_cons ?_
  simp only [layS, Act.put, List.setIfInBounds_toArray, List.set_cons_zero, List.set_cons_succ]
  have hBW1 : Below b0 w W := HBr.out.trans (hW.mono (by omega))
  have hs1 := (HH1.out.below (hb0 ▸ hBW1)).src
  have hg1 : W.heap[g]? = some (.cells (E.map encB).toArray 5 (0, 0)) := (hW.block g (by omega)).trans HW.out
  have HPW1 := hid (rowStay HPR.out hW)
  have hl1 : S2 + z1.length ≤ (E).length := by have := HSS.out; have := HZ1.out; have := HE.out; omega
  have HLL1 := hid hl1
  have HBW1 := hid hBW1
  refine wpList_copy_splice rfl _ _ _ _ rfl 5 Try.underlying24 (by rw [hi]; simp [hz1]) _ _ _ _ _ _ rfl rfl g S2 (E.map encB) 5 hg1 (z1.map encB) (by rw [List.length_map]; have := HSS.out; have := HZ1.out; exact (Nat.min_eq_left (by omega)).symm) (fun h0 => ⟨rfl, by
   rcases hs1.2.2 with ⟨-, h2⟩ | ⟨ad, c, e, h2⟩
   ·rw [List.length_map] at h0; omega
   ·simp only [Value.slice.injEq] at e; exact ⟨ad, e.1, h2⟩⟩) (by rw [List.length_map, List.length_map]; exact hl1) hs1.2.1 g W (Below.refl _ _) (Nat.le_refl _) ?_
  intro V1 hgx hbx
  have HGV1 := hid (show RowB V1 g (setL E S2 z1) from hgx.out.trans (by unfold splice setL; simp [List.append_assoc]))
  have HBV1 := hid (show Below b0 w V1 from HBW1.out.trans (hbx.mono (by omega)))
  have HPV1 := hid ((hbx.block b0 (by omega)).trans HPW1.out)
  have hgV1 : b0 < V1.heap.size ∧ g < V1.heap.size := by have := hbx.size; omega
  clear hs1 hg1 hl1 hgx hbx HPW1 HBW1 hBW1 hW hBW
  go_wp2_with fail
  refine thenTail_nil ?_
  go_upto_region 13 with (fail)
  refine wp_region_c (n := 7) (w0 := V1) (B := V1.heap.size) [.v 62 (.slice (some ⟨g, 0, none⟩) M M), .v 63 (.int .i64 M), .v 64 (.int .i64 S), .v 65 (.int .i64 S3), .v 66 (.slice (some ⟨g, S3, none⟩) (M - S3) (M - S3)), .v 67 (.pointer (some ⟨b0, 10, none⟩)), .v 68 (.slice a2 z2.length c2)] trivial (Below.refl _ _).drew (Nat.le_refl _) ?_ ?_
  ·repeat' (with_reducible first | exact eachO_nil | refine eachO_cons ?_ ?_)
   all_goals
    intro A x W hA hW hBW hdep D K hK
    have a3 := hA.2 3 (by decide)
    conv at a3 => rhs; whnf
    have a10 := hA.2 10 (by decide)
    conv at a10 => rhs; whnf
    have a7 := hA.2 7 (by decide)
    conv at a7 => rhs; whnf
    have a9 := hA.2 9 (by decide)
    conv at a9 => rhs; whnf
    simp only [DepF, nthF] at D
    clear hdep hA
    have y := rowStay HPV1.out hW
    have y0 : W.cell? ⟨b0, 10, none⟩ = some (.slice a2 z2.length c2) := cell_of_heap y 10
    have y3 : b0 < W.heap.size := by omega
    go_simp
    exact hK _ _ BR rfl
  have hE1 : (setL E S2 z1).length = M := by rw [setL_length HLL1.out]; exact HE.out
  have HE1 := hid hE1
  clear hE1
  intro x W hW hBW hall
  clear hall
  refine thenTail_cons ?_
  simp only [layS, Act.put, List.setIfInBounds_toArray, List.set_cons_zero, List.set_cons_succ]
  have hBW2 : Below b0 w W := HBV1.out.trans (hW.mono (by omega))
  have hs2 := (HH2.out.below (hb0 ▸ hBW2)).src
  have hg2 : W.heap[g]? = some (.cells ((setL E S2 z1).map encB).toArray 5 (0, 0)) := (hW.block g (by omega)).trans HGV1.out
  have HPW2 := hid (rowStay HPV1.out hW)
  have hl2 : S3 + z2.length ≤ ((setL E S2 z1)).length := by have := HSS.out; have := HZ2.out; have := HE1.out; omega
  have HLL2 := hid hl2
  have HBW2 := hid hBW2
  refine wpList_copy_splice rfl _ _ _ _ rfl 5 Try.underlying24 (by rw [hi]; simp [hz1]) _ _ _ _ _ _ rfl rfl g S3 ((setL E S2 z1).map encB) 5 hg2 (z2.map encB) (by rw [List.length_map]; have := HSS.out; have := HZ2.out; exact (Nat.min_eq_left (by omega)).symm) (fun h0 => ⟨rfl, by
   rcases hs2.2.2 with ⟨-, h2⟩ | ⟨ad, c, e, h2⟩
   ·rw [List.length_map] at h0; omega
   ·simp only [Value.slice.injEq] at e; exact ⟨ad, e.1, h2⟩⟩) (by rw [List.length_map, List.length_map]; exact hl2) hs2.2.1 g W (Below.refl _ _) (Nat.le_refl _) ?_
  intro V2 hgx hbx
  have HGV2 := hid (show RowB V2 g (setL (setL E S2 z1) S3 z2) from hgx.out.trans (by unfold splice setL; simp [List.append_assoc]))
  have HBV2 := hid (show Below b0 w V2 from HBW2.out.trans (hbx.mono (by omega)))
  have HPV2 := hid ((hbx.block b0 (by omega)).trans HPW2.out)
  have hgV2 : b0 < V2.heap.size ∧ g < V2.heap.size := by have := hbx.size; omega
  clear hs2 hg2 hl2 hgx hbx HPW2 HBW2 hBW2 hW hBW
  go_wp2_with fail
  refine thenTail_nil ?_
  go_wp2
  go_ret2
  have hbl := blkP_length (big := big) (v := v) HL1.out HL2.out
  have hb3 : (setL (setL E S2 z1) S3 z2).length = M := by rw [← HBL.out, hbl, hM]
  refine ⟨⟨_, rfl, by rw [List.length_map, hbl]; omega, .inr ⟨g, M, _, by rw [hM]; rfl, by omega, HGV2.out, by omega, by have := HSS.out; unfold maxLen; omega, ?_, ?_⟩⟩, by rw [hb0]; exact HBV2.out⟩
  ·rw [List.size_toArray, List.length_map, hb3]; omega
  ·rw [← HBL.out]; exact List.take_of_length_le (by rw [List.length_map, hbl]; omega)
theorem made_true (bs kz : List Int) (dg : Int) (bv kv : Value) (w : World) (hB : Hold w bv bs) (hK : Hold w kv kz) (hl : bs.length = 64) (hkl : kz.length ≤ 64) :
  Calls Try.prog 29 #[.int .i64 1, bv, .int .i64 dg, kv] w fun e w' => ∃ np p hv bv' kv', e = .returned (.pointer (some ⟨np, 0, none⟩)) ∧ w.heap.size ≤ np ∧ w.heap.size ≤ p ∧ w'.heap[np]? = some (.cells (nodeC 1 dg bv' kv' false 0 (.iface 117 (.pointer (some ⟨p, 0, none⟩)))) 86 (0, 0)) ∧ EngAt true w' p hv (h0Z true bs) (keyZ 128 kz) ∧ (∀ g, hv.ownBlock = some g → w.heap.size ≤ g) ∧ Below w.heap.size w w' := by
 obtain ⟨i0, hi, hz0, hz1, hz2⟩ := info_parts info_u8
 obtain ⟨b0, hb0⟩ : ∃ b0, w.heap.size = b0 := ⟨_, rfl⟩
 have hs1 := hB.src
 have hs2 := hK.src
 rw [hl] at hs1
 have HS1 := hid hs1
 have HS2 := hid hs2
 have HZ1 := hid hB.1
 have HZ2 := hid hK.1
 have HL := hid hl
 clear hs1 hs2 hB hK hl
 go_enter Try.func29, Try.ntmps29
 go_upto_region 2 with (first | ((with_reducible show wpList _ _ _ (Oper.mk (some 13) _ _ _ _ _ :: _) _ _); refine wpList_append_now rfl _ _ _ rfl w w.heap.size rfl (Below.refl _ _) 5 i0 (.int .u8 0) 1 Try.underlying24 hi hz0 hz1 hz2 rfl _ 0 [] rfl (World.ownsRow_nil _ _ _ _) bv 64 _ rfl HS1.out (by unfold maxLen; omega) (by omega) ?_; intro v1 w1 ho1 hb1; have HO1 := hid ho1; have HB1 := hid hb1; clear ho1 hb1) | ((with_reducible show wpList _ _ _ (Oper.mk (some 15) _ _ _ _ _ :: _) _ _); refine wpList_append_now rfl _ _ _ rfl w1 w1.heap.size rfl (Below.refl _ _) 5 i0 (.int .u8 0) 1 Try.underlying24 hi hz0 hz1 hz2 rfl _ 0 [] rfl (World.ownsRow_nil _ _ _ _) kv kz.length _ rfl (HS2.out.below HB1.out) (by unfold maxLen; omega) (by omega) ?_; intro v2 w2 ho2 hb2; obtain ⟨a1, n1, c1, rfl⟩ := own_slice HO1.out; obtain ⟨a2, n2, c2, rfl⟩ := own_slice ho2; have HO2 := hid ho2; have HB2 := hid hb2; clear ho2 hb2))
 have hs1 := HB1.out.size
 have hs2 := HB2.out.size
 have hb3 : Below w2.heap.size w2 (w2.alloc (.cells (nodeC 1 dg (.slice a1 n1 c1) (.slice a2 n2 c2) false 0 .nilIface) 86)) := (Below.refl _ _).alloc (Nat.le_refl _) _
 have hr3 := World.alloc_heap_new w2 (.cells (nodeC 1 dg (.slice a1 n1 c1) (.slice a2 n2 c2) false 0 .nilIface) 86)
 have ho1 := HO1.out
 have ho2 := HO2.out
 simp only [List.nil_append, Nat.zero_add] at ho1 ho2
 have ho1 := ownsRow_same' ho1 (fun g _ hg => HB2.out.block g hg)
 have hh1 := (hold_of_own ho1 HZ1.out).below hb3
 have hh2 := (hold_of_own ho2 HZ2.out).below hb3
 have hkn : (Value.slice a2 n2 c2).ownBlock ≠ some w2.heap.size := fun e => by
  rcases ho2.2 with ⟨h, -⟩ | ⟨g, cap, cur, h, h1, h2, -⟩
  ·rw [h] at e; cases e
  ·rw [h] at e
   simp only [Value.ownBlock, Option.some.injEq] at e
   have := (Array.getElem?_eq_some_iff.1 h2).1; omega
 have hBG := begin_true bs kz w2.heap.size dg 0 false (.slice a1 n1 c1) (.slice a2 n2 c2) .nilIface _ hr3 hh1 hh2 HL.out hkl hkn
 have hbw : Below w.heap.size w (w2.alloc (.cells (nodeC 1 dg (.slice a1 n1 c1) (.slice a2 n2 c2) false 0 .nilIface) 86)) := HB1.out.trans ((HB2.out.trans (hb3.mono hs2)).mono hs1)
 have HBG := hid hBG
 have HBW := hid hbw
 clear hBG hbw hb3 hr3 ho1 ho2 hh1 hh2 hkn HO1 HO2 HB1 HB2
 go_wp2_with fail
 refine HBG.out.mono ?_; rintro e w4 ⟨rfl, ⟨p, hv, h1, h2, h3, h4⟩, h5⟩
 have HF := hid (show w.heap.size ≤ p ∧ w4.heap[w2.heap.size]? = some (.cells (nodeC 1 dg (.slice a1 n1 c1) (.slice a2 n2 c2) false 0 (.iface 117 (.pointer (some ⟨p, 0, none⟩)))) 86 (0, 0)) ∧ EngAt true w4 p hv (h0Z true bs) (keyZ 128 kz) ∧ (∀ g, hv.ownBlock = some g → w.heap.size ≤ g) ∧ Below w.heap.size w w4 from ⟨by have := HBW.out.size; omega, h2, h3, fun g hg => by have := h4 g hg; have := HBW.out.size; omega, HBW.out.trans (h5.below HBW.out.size (fun k hk => by omega))⟩)
 clear h1 h2 h3 h4 h5 HBG HBW
 have hs3 : w.heap.size ≤ w2.heap.size := by omega
 go_wp2
 go_ret
 obtain ⟨h1, h2, h3, h4, h5⟩ := HF.out
 exact ⟨_, p, hv, _, _, rfl, hs3, h1, h2, h3, h4, h5⟩
theorem made_false (bs kz : List Int) (dg : Int) (bv kv : Value) (w : World) (hB : Hold w bv bs) (hK : Hold w kv kz) (hl : bs.length = 32) (hkl : kz.length ≤ 32) :
  Calls Try.prog 29 #[.int .i64 2, bv, .int .i64 dg, kv] w fun e w' => ∃ np p hv bv' kv', e = .returned (.pointer (some ⟨np, 0, none⟩)) ∧ w.heap.size ≤ np ∧ w.heap.size ≤ p ∧ w'.heap[np]? = some (.cells (nodeC 2 dg bv' kv' false 0 (.iface 127 (.pointer (some ⟨p, 0, none⟩)))) 86 (0, 0)) ∧ EngAt false w' p hv (h0Z false bs) (keyZ 64 kz) ∧ (∀ g, hv.ownBlock = some g → w.heap.size ≤ g) ∧ Below w.heap.size w w' := by
 obtain ⟨i0, hi, hz0, hz1, hz2⟩ := info_parts info_u8
 obtain ⟨b0, hb0⟩ : ∃ b0, w.heap.size = b0 := ⟨_, rfl⟩
 have hs1 := hB.src
 have hs2 := hK.src
 rw [hl] at hs1
 have HS1 := hid hs1
 have HS2 := hid hs2
 have HZ1 := hid hB.1
 have HZ2 := hid hK.1
 have HL := hid hl
 clear hs1 hs2 hB hK hl
 go_enter Try.func29, Try.ntmps29
 go_upto_region 2 with (first | ((with_reducible show wpList _ _ _ (Oper.mk (some 13) _ _ _ _ _ :: _) _ _); refine wpList_append_now rfl _ _ _ rfl w w.heap.size rfl (Below.refl _ _) 5 i0 (.int .u8 0) 1 Try.underlying24 hi hz0 hz1 hz2 rfl _ 0 [] rfl (World.ownsRow_nil _ _ _ _) bv 32 _ rfl HS1.out (by unfold maxLen; omega) (by omega) ?_; intro v1 w1 ho1 hb1; have HO1 := hid ho1; have HB1 := hid hb1; clear ho1 hb1) | ((with_reducible show wpList _ _ _ (Oper.mk (some 15) _ _ _ _ _ :: _) _ _); refine wpList_append_now rfl _ _ _ rfl w1 w1.heap.size rfl (Below.refl _ _) 5 i0 (.int .u8 0) 1 Try.underlying24 hi hz0 hz1 hz2 rfl _ 0 [] rfl (World.ownsRow_nil _ _ _ _) kv kz.length _ rfl (HS2.out.below HB1.out) (by unfold maxLen; omega) (by omega) ?_; intro v2 w2 ho2 hb2; obtain ⟨a1, n1, c1, rfl⟩ := own_slice HO1.out; obtain ⟨a2, n2, c2, rfl⟩ := own_slice ho2; have HO2 := hid ho2; have HB2 := hid hb2; clear ho2 hb2))
 have hs1 := HB1.out.size
 have hs2 := HB2.out.size
 have hb3 : Below w2.heap.size w2 (w2.alloc (.cells (nodeC 2 dg (.slice a1 n1 c1) (.slice a2 n2 c2) false 0 .nilIface) 86)) := (Below.refl _ _).alloc (Nat.le_refl _) _
 have hr3 := World.alloc_heap_new w2 (.cells (nodeC 2 dg (.slice a1 n1 c1) (.slice a2 n2 c2) false 0 .nilIface) 86)
 have ho1 := HO1.out
 have ho2 := HO2.out
 simp only [List.nil_append, Nat.zero_add] at ho1 ho2
 have ho1 := ownsRow_same' ho1 (fun g _ hg => HB2.out.block g hg)
 have hh1 := (hold_of_own ho1 HZ1.out).below hb3
 have hh2 := (hold_of_own ho2 HZ2.out).below hb3
 have hkn : (Value.slice a2 n2 c2).ownBlock ≠ some w2.heap.size := fun e => by
  rcases ho2.2 with ⟨h, -⟩ | ⟨g, cap, cur, h, h1, h2, -⟩
  ·rw [h] at e; cases e
  ·rw [h] at e
   simp only [Value.ownBlock, Option.some.injEq] at e
   have := (Array.getElem?_eq_some_iff.1 h2).1; omega
 have hBG := begin_false bs kz w2.heap.size dg 0 false (.slice a1 n1 c1) (.slice a2 n2 c2) .nilIface _ hr3 hh1 hh2 HL.out hkl hkn
 have hbw : Below w.heap.size w (w2.alloc (.cells (nodeC 2 dg (.slice a1 n1 c1) (.slice a2 n2 c2) false 0 .nilIface) 86)) := HB1.out.trans ((HB2.out.trans (hb3.mono hs2)).mono hs1)
 have HBG := hid hBG
 have HBW := hid hbw
 clear hBG hbw hb3 hr3 ho1 ho2 hh1 hh2 hkn HO1 HO2 HB1 HB2
 go_wp2_with fail
 refine HBG.out.mono ?_; rintro e w4 ⟨rfl, ⟨p, hv, h1, h2, h3, h4⟩, h5⟩
 have HF := hid (show w.heap.size ≤ p ∧ w4.heap[w2.heap.size]? = some (.cells (nodeC 2 dg (.slice a1 n1 c1) (.slice a2 n2 c2) false 0 (.iface 127 (.pointer (some ⟨p, 0, none⟩)))) 86 (0, 0)) ∧ EngAt false w4 p hv (h0Z false bs) (keyZ 64 kz) ∧ (∀ g, hv.ownBlock = some g → w.heap.size ≤ g) ∧ Below w.heap.size w w4 from ⟨by have := HBW.out.size; omega, h2, h3, fun g hg => by have := h4 g hg; have := HBW.out.size; omega, HBW.out.trans (h5.below HBW.out.size (fun k hk => by omega))⟩)
 clear h1 h2 h3 h4 h5 HBG HBW
 have hs3 : w.heap.size ≤ w2.heap.size := by omega
 go_wp2
 go_ret
 obtain ⟨h1, h2, h3, h4, h5⟩ := HF.out
 exact ⟨_, p, hv, _, _, rfl, hs3, h1, h2, h3, h4, h5⟩
/-- The cells of a call. -/
def callC (k : Int) (bv kv : Value) (la : Bool) (o : Int) (dv : Value) : Array Value := #[.int .i64 k, bv, kv, .bool la, .int .i64 o, dv]
/-- The key's length is wrong. -/
def keyBad (bs kz : List Int) : Bool := decide (kz.length ≠ 0 ∧ (kz.length : Int) ≠ nthz bs 1)
theorem keyBad_eq (bs kz : List Int) : keyBad bs kz = (((kz.length : Int) != 0) && ((kz.length : Int) != nthz bs 1)) := by
 unfold keyBad
 rw [Bool.eq_iff_iff]
 simp only [decide_eq_true_eq, Bool.and_eq_true, bne_iff_ne, ne_eq]
 omega
theorem key_len {big : Bool} {bs kz : List Int} (h : okD big false bs) (hk : keyBad bs kz = false) : kz.length ≤ mB big := by
 unfold keyBad at hk
 have h1 := of_decide_eq_false hk
 have h2 : 0 ≤ nthz bs 1 ∧ nthz bs 1 ≤ (mB big : Nat) := h.2.2.2.2.1
 omega
/-- A call's output. -/
def callR (big : Bool) (bs kz : List Int) (la : Bool) (o : Int) (ds : List Int) : List Int := (outZ big (h0Z big bs) (keyZ (bB big) kz ++ ds) la).take o.toNat
/-- What a call answers. -/
def CallIs (big : Bool) (bs kz : List Int) (la : Bool) (o : Int) (ds : List Int) (w : World) (e : Ending) (w' : World) : Prop :=
 (∃ v, e = .returned (.tuple #[v, .int .i64 0]) ∧ Fresh w.heap.size w' v (callR big bs kz la o ds)) ∧ Below w.heap.size w w'
theorem eng_but {big : Bool} {w w' : World} {p q : Nat} {hv : Value} {h0 msg : List Int} {c : Array Value} {T : TypeId} {fr : Nat × Nat} (h : EngAt big w p hv h0 msg) (hb : But q w w') (hq : w.heap[q]? = some (.cells c T fr)) (h1 : T ≠ 123) (h2 : T ≠ 131) (h3 : T ≠ 5) : EngAt big w' p hv h0 msg := by
 refine ⟨?_, own_but h.2 hb hq h3⟩
 rw [hb.block p (Array.getElem?_eq_some_iff.1 h.1).1 ?_]; exact h.1
 rintro rfl
 have h4 := h.1
 rw [hq] at h4
 simp only [Option.some.injEq, Obj.cells.injEq] at h4
 cases big
 ·exact h2 h4.2.1
 ·exact h1 h4.2.1
theorem eng_held_ne {big : Bool} {w : World} {p q : Nat} {hv : Value} {h0 msg : List Int} {c : Array Value} {T : TypeId} {fr : Nat × Nat} (h : EngAt big w p hv h0 msg) (hq : w.heap[q]? = some (.cells c T fr)) (h3 : T ≠ 5) : hv.ownBlock ≠ some q := fun e => own_ne h.2 hq h3 e.symm
theorem call_true (bs kz ds : List Int) (la : Bool) (o : Int) (bv kv dv : Value) (w : World) (hB : Hold w bv bs) (hK : Hold w kv kz) (hD : Hold w dv ds) (hdl : (ds.length : Int) ≤ 140737488355200) (hok : okD true false bs) (hkb0 : keyBad bs kz = false) (ho : 1 ≤ o ∧ o ≤ 64) :
  Calls Try.prog 17 #[.agg (callC 1 bv kv la o dv)] w fun e w' => CallIs true bs kz la o ds w e w' := by
 obtain ⟨b0, hb0⟩ : ∃ b0, w.heap.size = b0 := ⟨_, rfl⟩
 obtain ⟨ka, kc, rfl, hkc1, hkc2⟩ := hK.slice
 have hbA : Below b0 w (w.alloc (.cells #[.int .i64 1, bv, .slice ka kz.length kc, .bool la, .int .i64 o, dv] 61)) := by rw [← hb0]; exact (Below.refl _ _).alloc (Nat.le_refl _) _
 have hrA := World.alloc_heap_new w (.cells #[.int .i64 1, bv, .slice ka kz.length kc, .bool la, .int .i64 o, dv] 61)
 rw [hb0] at hrA
 have hBA := hB.below (hb0 ▸ hbA)
 have HB := hid hB
 have HK := hid hK
 have HD := hid hD
 have HDL := hid hdl
 have HOK := hid hok
 have HKB := hid hkb0
 have HO := hid ho
 clear hB hK hD hdl hkc1 hkc2 hok hkb0 ho
 show Calls _ _ #[.agg #[.int .i64 1, bv, .slice ka kz.length kc, .bool la, .int .i64 o, dv]] _ _
 go_enter Try.func17, Try.ntmps17
 go_wp2_with fail
 generalize w.alloc (.cells #[.int .i64 1, bv, .slice ka kz.length kc, .bool la, .int .i64 o, dv] 61) = wA at *
 refine (decode_ok true bs bv wA hBA.holds8 hBA.1 (fun a n c e => by obtain ⟨a', c', e', h1, h2⟩ := hBA.slice; rw [e'] at e; simp only [Value.slice.injEq] at e; obtain ⟨-, rfl, rfl⟩ := e; exact ⟨h1, h2⟩) HOK.out).mono ?_; rintro e w1 ⟨⟨fo, dp, lf, ofs, nd, inr, sa, pe, rfl, hsa, hpe⟩, hb1⟩
 obtain ⟨ky, hky⟩ : ∃ ky, nthz bs 1 = ky := ⟨_, rfl⟩
 obtain ⟨dg, hdg⟩ : ∃ dg, nthz bs 0 = dg := ⟨_, rfl⟩
 rw [hky, hdg]
 unfold parV
 have hr1 := rowStay hrA hb1
 have hs1 := hb1.size
 have hb01 : b0 < wA.heap.size := (Array.getElem?_eq_some_iff.1 hrA).1
 have hbB : Below b0 w w1 := hbA.trans (hb1.mono (by omega))
 have HR1 := hid hr1
 have HBB := hid hbB
 clear hr1 hbB hb1 hbA hrA hBA
 go_upto_if 24 with ((with_reducible show wpList _ _ _ (Oper.mk none (Op.store 78 _ _) _ _ _ _ :: _) _ _); refine wpList_store_row rfl 78 _ _ rfl w1.heap.size #[.int .i64 dg, .int .i64 ky, .int .i64 fo, .int .i64 dp, .int .u32 lf, .int .u64 ofs, .int .u32 0, .int .i64 nd, .int .i64 inr, sa, pe] rfl rfl 78 _ (World.alloc_heap_new _ _) (by kernel_rfl) rfl (by simp only [List.all_toArray, List.all_cons, List.all_nil, hsa, hpe]; rfl) ?_)
 refine letterW ?_
 intro W hW
 obtain ⟨p4, hp4⟩ : ∃ p4, w1.heap.size = p4 := ⟨_, rfl⟩
 have hr2 : W.heap[p4]? = some (.cells #[.int .i64 dg, .int .i64 ky, .int .i64 fo, .int .i64 dp, .int .u32 lf, .int .u64 ofs, .int .u32 0, .int .i64 nd, .int .i64 inr, sa, pe] 78 (0, 0)) := by rw [hW, ← hp4]; exact setRow_heap _ _ _ _ _ _ (World.alloc_heap_new _ _)
 have hr3 : W.heap[b0]? = some (.cells #[.int .i64 1, bv, .slice ka kz.length kc, .bool la, .int .i64 o, dv] 61 (0, 0)) := by rw [hW]; exact (setRow_other (w1.alloc _) _ _ _ (by omega)).trans ((Below.heap_alloc _ _ _ (by omega)).trans HR1.out)
 have hbC : Below b0 w W := by rw [hW]; exact below_setRow (HBB.out.alloc (by omega) _) (by omega) _
 rw [hp4]
 have hp4b : b0 < p4 := by omega
 clear hW hp4 HR1 HBB hs1 hb01
 have hWs : p4 < W.heap.size := (Array.getElem?_eq_some_iff.1 hr2).1
 have hBW := HB.out.below (hb0 ▸ hbC)
 have HR3 := hid hr3
 have HBC := hid hbC
 have c40 : W.cell? ⟨p4, 0, none⟩ = some (.int .i64 dg) := cell_of_heap hr2 0
 have c41 : W.cell? ⟨p4, 1, none⟩ = some (.int .i64 ky) := cell_of_heap hr2 1
 have c30 : W.cell? ⟨b0, 0, none⟩ = some (.int .i64 1) := cell_of_heap hr3 0
 have c31 : W.cell? ⟨b0, 1, none⟩ = some bv := cell_of_heap hr3 1
 have c32 : W.cell? ⟨b0, 2, none⟩ = some (.slice ka kz.length kc) := cell_of_heap hr3 2
 have hb0s : b0 < W.heap.size := (Array.getElem?_eq_some_iff.1 hr3).1
 obtain ⟨q0, hq0⟩ : ∃ q, ((kz.length : Int) != 0) = q := ⟨_, rfl⟩
 obtain ⟨q1, hq1⟩ : ∃ q, ((kz.length : Int) != ky) = q := ⟨_, rfl⟩
 have hqq : (q0 && q1) = false := by rw [← hq0, ← hq1, ← hky]; exact (keyBad_eq bs kz).symm.trans HKB.out
 have hkl : kz.length ≤ 64 := key_len HOK.out HKB.out
 clear hr2 hr3 hbC hky hdg hBW
 go_upto_region 8 with (fail)
 go_cut [46] from 7 (fun u W' => u = .bool false ∧ W = W')
 case first =>
  cases q0 <;> cases q1 <;> first | (exfalso; cases hqq; done) | skip
  all_goals
   go_wp2
   go_meet
   case rel => exact ⟨rfl, by trivial⟩
 case rest =>
  clear hq0 hq1 c41 hqq
  obtain ⟨rfl, rfl⟩ := hcut
  have hMD := made_true bs kz dg bv (.slice ka kz.length kc) W (HB.out.below (hb0 ▸ HBC.out)) (HK.out.below (hb0 ▸ HBC.out)) HOK.out.1 hkl
  have HMD := hid hMD
  clear hMD
  go_wp2_with fail
  refine HMD.out.mono ?_; rintro e w3 ⟨np, p, hv, bv', kv', rfl, m1, m2, m3, m4, m5, m6⟩
  have hq3 := rowStay HR3.out m6
  have hb3 : Below b0 w w3 := HBC.out.trans (m6.mono (by omega))
  have hs3 := m6.size
  have c43 : w3.cell? ⟨b0, 3, none⟩ = some (.bool la) := cell_of_heap hq3 3
  have c44 : w3.cell? ⟨np, 4, none⟩ = some (.bool false) := cell_of_heap m3 4
  have f44 := frozen_of_row w3 np 4 _ _ m3
  have hb0s3 : b0 < w3.heap.size := by omega
  have hnps : np < w3.heap.size := (Array.getElem?_eq_some_iff.1 m3).1
  have hpn : b0 < np ∧ b0 < p := by omega
  obtain ⟨hpn1, hpn2⟩ := hpn
  have hbut : But np w3 (w3.setCell ⟨np, 4, none⟩ (.bool la)) := (But.refl np w3).set 4 _
  have hn4 := node_last (b := la) m3
  have he4 := eng_but m4 hbut m3 (by decide) (by decide) (by decide)
  have hc4 := (hbut.block b0 hb0s3 (by omega)).trans hq3
  have hb4 : Below b0 w (w3.setCell ⟨np, 4, none⟩ (.bool la)) := hb3.trans (hbut.below (by omega) (by omega))
  have hpnp : p ≠ np := fun e => by have h1 := m4.1; rw [e, m3] at h1; simp only [cond, Option.some.injEq, Obj.cells.injEq] at h1; exact absurd h1.2.1 (by decide)
  have m5' : ∀ g, hv.ownBlock = some g → b0 < g := fun g hg => by have := m5 g hg; omega
  have HN4 := hid hn4
  have HE4 := hid he4
  have HC4 := hid hc4
  have HB4 := hid hb4
  have HM5 := hid m5'
  have hs4 : (w3.setCell ⟨np, 4, none⟩ (.bool la)).heap.size = w3.heap.size := by simp [World.setCell]
  rw [← hs4] at hnps hb0s3
  clear hq3 hb3 m1 m2 m3 m4 m5 m5' m6 hbut hn4 he4 hc4 hb4 hs3 hs4 HR3 HBC HMD c30 c31 c32 hb0s c40 hWs
  go_upto_region 12 with (fail)
  generalize w3.setCell ⟨np, 4, none⟩ (.bool la) = W4 at *
  clear c43 c44 f44 w3 W
  refine wp_region_oc (fun f W => W.heap[np]? = some (.cells (nodeC 1 dg bv' kv' la 0 (.iface 117 (.pointer (some ⟨p, 0, none⟩)))) 86 (0, 0)) ∧ W.heap[b0]? = some (.cells #[.int .i64 1, bv, .slice ka kz.length kc, .bool la, .int .i64 o, dv] 61 (0, 0)) ∧ (f = false → Below W4.heap.size W4 W) ∧ (f = true → Spare (FreeOf p hv) W4 W ∧ ∃ hv', EngAt true W p hv' (h0Z true bs) (keyZ 128 kz ++ ds))) 6 [.v 61 (.pointer (some ⟨np, 0, none⟩)), .v 62 (.pointer (some ⟨np, 0, none⟩)), .v 63 (.pointer (some ⟨np, 6, none⟩)), .v 64 (.iface 117 (.pointer (some ⟨p, 0, none⟩))), .v 65 (.pointer (some ⟨b0, 5, none⟩)), .v 66 dv, .p 67 (fun _ _ => True)] (by exact ⟨kW, trivial⟩) ⟨HN4.out, HC4.out, fun _ => (Below.refl _ _).drew, fun h => (by cases h)⟩ (fun f W W' h hb => ⟨rowStay h.1 hb, rowStay h.2.1 hb, fun e => (h.2.2.1 e).trans (hb.mono (h.2.2.1 e).size), fun e => by obtain ⟨h1, hv', h2⟩ := h.2.2.2 e; exact ⟨h1.trans (Spare.of_below _ hb) (fun _ _ h => h), hv', eng_below h2 hb⟩⟩) ?_ ?_ ?_
  ·repeat' (with_reducible first | exact eachO_nil | refine eachO_cons ?_ ?_)
   all_goals try
    refine .inr ?_
    intro A x W f hA hR hf hdep D K hK
    have a6 := hA.2 6 (by decide)
    conv at a6 => rhs; whnf
    have a1 := hA.2 1 (by decide)
    conv at a1 => rhs; whnf
    simp only [DepF, nthF] at D
    clear hdep hA
    first
    | go_simp
      exact hK _ _ BR rfl
    | have y0 : W.cell? ⟨np, 6, none⟩ = some (.iface 117 (.pointer (some ⟨p, 0, none⟩))) := cell_of_heap hR.1 6
      have y1 : W.cell? ⟨b0, 5, none⟩ = some dv := cell_of_heap hR.2.1 5
      go_simp
      exact hK _ _ BR rfl
   any_goals exact .inl rfl
  ·intro A x W hA hR hdep K hK
   have g64 := gw hA hdep 3 64
   have g66 := gw hA hdep 5 66
   clear hdep hA
   have hB := hR.2.2.1 rfl
   go_simp
   refine upon_method (f := 104) (by kernel_rfl) ?_
   go_simp
   have hDW : Hold W dv ds := HD.out.below (hb0 ▸ HB4.out.trans (hB.mono (by omega)))
   refine (write_true (h0Z true bs) (keyZ 128 kz) ds (h0Z_words true bs) (keyZ_bounds HK.out.1) p hv dv W (eng_below HE4.out hB) hDW (fun hne b hb => ⟨fun e => by have := hold_own HD.out hne hb; omega, fun e => by have := hold_own HD.out hne hb; have := HM5.out b e; omega⟩) (by have := keyZ_length (n := 128) (key := kz) (by omega); have := HDL.out; omega)).mono ?_
   rintro e w' ⟨rfl, ⟨hv', hE', -⟩, hS'⟩
   refine hK _ _ (fun h => by cases h) ⟨(hS'.block np (Array.getElem?_eq_some_iff.1 hR.1).1 ⟨fun e => hpnp e.symm, eng_held_ne (eng_below HE4.out hB) hR.1 (by decide)⟩).trans hR.1, (hS'.block b0 (Array.getElem?_eq_some_iff.1 hR.2.1).1 ⟨by omega, fun e => by have := HM5.out b0 e; omega⟩).trans hR.2.1, fun h => (by cases h), fun _ => ⟨(Spare.of_below _ hB).trans hS' (fun _ _ h => h), hv', hE'⟩⟩ ⟨.inr (fun _ h => h), .inr (fun _ h => h), .inr (fun _ h => h), .inr (fun _ h => h), .inr (fun _ h => h), .inr (fun _ h => h), .inl rfl, trivial⟩ trivial
  intro x W hR hall
  obtain ⟨e67, -⟩ := hall
  change ((fun _ _ => True)) (x 67) W at e67
  simp only [layS, Act.put, List.setIfInBounds_toArray, List.set_cons_zero, List.set_cons_succ]
  obtain ⟨hn9, hc9, -, h9⟩ := hR
  obtain ⟨hs9, hv9, hE9⟩ := h9 rfl
  have hb9 : Below b0 w W := HB4.out.trans (hs9.below (by omega) (fun k hk => ⟨by omega, fun e => by have := HM5.out k e; omega⟩))
  have c94 : W.cell? ⟨b0, 4, none⟩ = some (.int .i64 o) := cell_of_heap hc9 4
  have hb09 : b0 < W.heap.size := (Array.getElem?_eq_some_iff.1 hc9).1
  have HN9 := hid hn9
  have HE9 := hid hE9
  have HB9 := hid hb9
  clear hn9 hc9 h9 hs9 hE9 hb9 e67 HN4 HE4 HC4 HB4
  go_wp2_with fail
  have ho := HO.out
  obtain ⟨m, hm⟩ : ∃ m : Nat, o = (m : Int) := ⟨o.toNat, by omega⟩
  have hm1 : 1 ≤ m ∧ m ≤ 64 := by omega
  clear ho HO
  subst hm
  have hlen : (((keyZ 128 kz) ++ ds).length : Int) ≤ 281474976710656 := by
   have := keyZ_length (n := 128) (key := kz) (by omega)
   have := HDL.out
   rw [List.length_append]; omega
  have hmz : ∀ z ∈ keyZ 128 kz ++ ds, 0 ≤ z ∧ z ≤ 255 := fun z hz => by
   rcases List.mem_append.1 hz with hz | hz
   ·exact keyZ_bounds HK.out.1 z hz
   ·exact HD.out.1 z hz
  refine (nodeOut_true (h0Z true bs) (keyZ 128 kz ++ ds) (h0Z_words true bs) hmz np p m dg 0 la bv' kv' hv9 _ HN9.out HE9.out hlen hm1.1 hm1.2).mono ?_; rintro e w5 ⟨⟨v5, rfl, hf5⟩, hb5⟩
  have HF5 := hid (show Fresh w.heap.size w5 v5 (callR true bs kz la (m : Nat) ds) from by have h := hf5.le (b' := w.heap.size) (by omega); unfold callR; exact h)
  have HB6 := hid (show Below b0 w w5 from HB9.out.trans (hb5.mono (by omega)))
  clear hf5 hb5 hlen hmz hm1
  go_wp2
  go_ret2
  exact ⟨⟨_, rfl, HF5.out⟩, by rw [hb0]; exact HB6.out⟩
theorem call_false (bs kz ds : List Int) (la : Bool) (o : Int) (bv kv dv : Value) (w : World) (hB : Hold w bv bs) (hK : Hold w kv kz) (hD : Hold w dv ds) (hdl : (ds.length : Int) ≤ 140737488355200) (hok : okD false false bs) (hkb0 : keyBad bs kz = false) (ho : 1 ≤ o ∧ o ≤ 32) :
  Calls Try.prog 17 #[.agg (callC 2 bv kv la o dv)] w fun e w' => CallIs false bs kz la o ds w e w' := by
 obtain ⟨b0, hb0⟩ : ∃ b0, w.heap.size = b0 := ⟨_, rfl⟩
 obtain ⟨ka, kc, rfl, hkc1, hkc2⟩ := hK.slice
 have hbA : Below b0 w (w.alloc (.cells #[.int .i64 2, bv, .slice ka kz.length kc, .bool la, .int .i64 o, dv] 61)) := by rw [← hb0]; exact (Below.refl _ _).alloc (Nat.le_refl _) _
 have hrA := World.alloc_heap_new w (.cells #[.int .i64 2, bv, .slice ka kz.length kc, .bool la, .int .i64 o, dv] 61)
 rw [hb0] at hrA
 have hBA := hB.below (hb0 ▸ hbA)
 have HB := hid hB
 have HK := hid hK
 have HD := hid hD
 have HDL := hid hdl
 have HOK := hid hok
 have HKB := hid hkb0
 have HO := hid ho
 clear hB hK hD hdl hkc1 hkc2 hok hkb0 ho
 show Calls _ _ #[.agg #[.int .i64 2, bv, .slice ka kz.length kc, .bool la, .int .i64 o, dv]] _ _
 go_enter Try.func17, Try.ntmps17
 go_wp2_with fail
 generalize w.alloc (.cells #[.int .i64 2, bv, .slice ka kz.length kc, .bool la, .int .i64 o, dv] 61) = wA at *
 refine (decode_ok false bs bv wA hBA.holds8 hBA.1 (fun a n c e => by obtain ⟨a', c', e', h1, h2⟩ := hBA.slice; rw [e'] at e; simp only [Value.slice.injEq] at e; obtain ⟨-, rfl, rfl⟩ := e; exact ⟨h1, h2⟩) HOK.out).mono ?_; rintro e w1 ⟨⟨fo, dp, lf, ofs, nd, inr, sa, pe, rfl, hsa, hpe⟩, hb1⟩
 obtain ⟨ky, hky⟩ : ∃ ky, nthz bs 1 = ky := ⟨_, rfl⟩
 obtain ⟨dg, hdg⟩ : ∃ dg, nthz bs 0 = dg := ⟨_, rfl⟩
 rw [hky, hdg]
 unfold parV
 have hr1 := rowStay hrA hb1
 have hs1 := hb1.size
 have hb01 : b0 < wA.heap.size := (Array.getElem?_eq_some_iff.1 hrA).1
 have hbB : Below b0 w w1 := hbA.trans (hb1.mono (by omega))
 have HR1 := hid hr1
 have HBB := hid hbB
 clear hr1 hbB hb1 hbA hrA hBA
 go_upto_if 24 with ((with_reducible show wpList _ _ _ (Oper.mk none (Op.store 78 _ _) _ _ _ _ :: _) _ _); refine wpList_store_row rfl 78 _ _ rfl w1.heap.size #[.int .i64 dg, .int .i64 ky, .int .i64 fo, .int .i64 dp, .int .u32 lf, .int .u64 ofs, .int .u32 0, .int .i64 nd, .int .i64 inr, sa, pe] rfl rfl 78 _ (World.alloc_heap_new _ _) (by kernel_rfl) rfl (by simp only [List.all_toArray, List.all_cons, List.all_nil, hsa, hpe]; rfl) ?_)
 refine letterW ?_
 intro W hW
 obtain ⟨p4, hp4⟩ : ∃ p4, w1.heap.size = p4 := ⟨_, rfl⟩
 have hr2 : W.heap[p4]? = some (.cells #[.int .i64 dg, .int .i64 ky, .int .i64 fo, .int .i64 dp, .int .u32 lf, .int .u64 ofs, .int .u32 0, .int .i64 nd, .int .i64 inr, sa, pe] 78 (0, 0)) := by rw [hW, ← hp4]; exact setRow_heap _ _ _ _ _ _ (World.alloc_heap_new _ _)
 have hr3 : W.heap[b0]? = some (.cells #[.int .i64 2, bv, .slice ka kz.length kc, .bool la, .int .i64 o, dv] 61 (0, 0)) := by rw [hW]; exact (setRow_other (w1.alloc _) _ _ _ (by omega)).trans ((Below.heap_alloc _ _ _ (by omega)).trans HR1.out)
 have hbC : Below b0 w W := by rw [hW]; exact below_setRow (HBB.out.alloc (by omega) _) (by omega) _
 rw [hp4]
 have hp4b : b0 < p4 := by omega
 clear hW hp4 HR1 HBB hs1 hb01
 have hWs : p4 < W.heap.size := (Array.getElem?_eq_some_iff.1 hr2).1
 have hBW := HB.out.below (hb0 ▸ hbC)
 have HR3 := hid hr3
 have HBC := hid hbC
 have c40 : W.cell? ⟨p4, 0, none⟩ = some (.int .i64 dg) := cell_of_heap hr2 0
 have c41 : W.cell? ⟨p4, 1, none⟩ = some (.int .i64 ky) := cell_of_heap hr2 1
 have c30 : W.cell? ⟨b0, 0, none⟩ = some (.int .i64 2) := cell_of_heap hr3 0
 have c31 : W.cell? ⟨b0, 1, none⟩ = some bv := cell_of_heap hr3 1
 have c32 : W.cell? ⟨b0, 2, none⟩ = some (.slice ka kz.length kc) := cell_of_heap hr3 2
 have hb0s : b0 < W.heap.size := (Array.getElem?_eq_some_iff.1 hr3).1
 obtain ⟨q0, hq0⟩ : ∃ q, ((kz.length : Int) != 0) = q := ⟨_, rfl⟩
 obtain ⟨q1, hq1⟩ : ∃ q, ((kz.length : Int) != ky) = q := ⟨_, rfl⟩
 have hqq : (q0 && q1) = false := by rw [← hq0, ← hq1, ← hky]; exact (keyBad_eq bs kz).symm.trans HKB.out
 have hkl : kz.length ≤ 32 := key_len HOK.out HKB.out
 clear hr2 hr3 hbC hky hdg hBW
 go_upto_region 8 with (fail)
 go_cut [46] from 7 (fun u W' => u = .bool false ∧ W = W')
 case first =>
  cases q0 <;> cases q1 <;> first | (exfalso; cases hqq; done) | skip
  all_goals
   go_wp2
   go_meet
   case rel => exact ⟨rfl, by trivial⟩
 case rest =>
  clear hq0 hq1 c41 hqq
  obtain ⟨rfl, rfl⟩ := hcut
  have hMD := made_false bs kz dg bv (.slice ka kz.length kc) W (HB.out.below (hb0 ▸ HBC.out)) (HK.out.below (hb0 ▸ HBC.out)) HOK.out.1 hkl
  have HMD := hid hMD
  clear hMD
  go_wp2_with fail
  refine HMD.out.mono ?_; rintro e w3 ⟨np, p, hv, bv', kv', rfl, m1, m2, m3, m4, m5, m6⟩
  have hq3 := rowStay HR3.out m6
  have hb3 : Below b0 w w3 := HBC.out.trans (m6.mono (by omega))
  have hs3 := m6.size
  have c43 : w3.cell? ⟨b0, 3, none⟩ = some (.bool la) := cell_of_heap hq3 3
  have c44 : w3.cell? ⟨np, 4, none⟩ = some (.bool false) := cell_of_heap m3 4
  have f44 := frozen_of_row w3 np 4 _ _ m3
  have hb0s3 : b0 < w3.heap.size := by omega
  have hnps : np < w3.heap.size := (Array.getElem?_eq_some_iff.1 m3).1
  have hpn : b0 < np ∧ b0 < p := by omega
  obtain ⟨hpn1, hpn2⟩ := hpn
  have hbut : But np w3 (w3.setCell ⟨np, 4, none⟩ (.bool la)) := (But.refl np w3).set 4 _
  have hn4 := node_last (b := la) m3
  have he4 := eng_but m4 hbut m3 (by decide) (by decide) (by decide)
  have hc4 := (hbut.block b0 hb0s3 (by omega)).trans hq3
  have hb4 : Below b0 w (w3.setCell ⟨np, 4, none⟩ (.bool la)) := hb3.trans (hbut.below (by omega) (by omega))
  have hpnp : p ≠ np := fun e => by have h1 := m4.1; rw [e, m3] at h1; simp only [cond, Option.some.injEq, Obj.cells.injEq] at h1; exact absurd h1.2.1 (by decide)
  have m5' : ∀ g, hv.ownBlock = some g → b0 < g := fun g hg => by have := m5 g hg; omega
  have HN4 := hid hn4
  have HE4 := hid he4
  have HC4 := hid hc4
  have HB4 := hid hb4
  have HM5 := hid m5'
  have hs4 : (w3.setCell ⟨np, 4, none⟩ (.bool la)).heap.size = w3.heap.size := by simp [World.setCell]
  rw [← hs4] at hnps hb0s3
  clear hq3 hb3 m1 m2 m3 m4 m5 m5' m6 hbut hn4 he4 hc4 hb4 hs3 hs4 HR3 HBC HMD c30 c31 c32 hb0s c40 hWs
  go_upto_region 12 with (fail)
  generalize w3.setCell ⟨np, 4, none⟩ (.bool la) = W4 at *
  clear c43 c44 f44 w3 W
  refine wp_region_oc (fun f W => W.heap[np]? = some (.cells (nodeC 2 dg bv' kv' la 0 (.iface 127 (.pointer (some ⟨p, 0, none⟩)))) 86 (0, 0)) ∧ W.heap[b0]? = some (.cells #[.int .i64 2, bv, .slice ka kz.length kc, .bool la, .int .i64 o, dv] 61 (0, 0)) ∧ (f = false → Below W4.heap.size W4 W) ∧ (f = true → Spare (FreeOf p hv) W4 W ∧ ∃ hv', EngAt false W p hv' (h0Z false bs) (keyZ 64 kz ++ ds))) 6 [.v 61 (.pointer (some ⟨np, 0, none⟩)), .v 62 (.pointer (some ⟨np, 0, none⟩)), .v 63 (.pointer (some ⟨np, 6, none⟩)), .v 64 (.iface 127 (.pointer (some ⟨p, 0, none⟩))), .v 65 (.pointer (some ⟨b0, 5, none⟩)), .v 66 dv, .p 67 (fun _ _ => True)] (by exact ⟨kW, trivial⟩) ⟨HN4.out, HC4.out, fun _ => (Below.refl _ _).drew, fun h => (by cases h)⟩ (fun f W W' h hb => ⟨rowStay h.1 hb, rowStay h.2.1 hb, fun e => (h.2.2.1 e).trans (hb.mono (h.2.2.1 e).size), fun e => by obtain ⟨h1, hv', h2⟩ := h.2.2.2 e; exact ⟨h1.trans (Spare.of_below _ hb) (fun _ _ h => h), hv', eng_below h2 hb⟩⟩) ?_ ?_ ?_
  ·repeat' (with_reducible first | exact eachO_nil | refine eachO_cons ?_ ?_)
   all_goals try
    refine .inr ?_
    intro A x W f hA hR hf hdep D K hK
    have a6 := hA.2 6 (by decide)
    conv at a6 => rhs; whnf
    have a1 := hA.2 1 (by decide)
    conv at a1 => rhs; whnf
    simp only [DepF, nthF] at D
    clear hdep hA
    first
    | go_simp
      exact hK _ _ BR rfl
    | have y0 : W.cell? ⟨np, 6, none⟩ = some (.iface 127 (.pointer (some ⟨p, 0, none⟩))) := cell_of_heap hR.1 6
      have y1 : W.cell? ⟨b0, 5, none⟩ = some dv := cell_of_heap hR.2.1 5
      go_simp
      exact hK _ _ BR rfl
   any_goals exact .inl rfl
  ·intro A x W hA hR hdep K hK
   have g64 := gw hA hdep 3 64
   have g66 := gw hA hdep 5 66
   clear hdep hA
   have hB := hR.2.2.1 rfl
   go_simp
   refine upon_method (f := 110) (by kernel_rfl) ?_
   go_simp
   have hDW : Hold W dv ds := HD.out.below (hb0 ▸ HB4.out.trans (hB.mono (by omega)))
   refine (write_false (h0Z false bs) (keyZ 64 kz) ds (h0Z_words false bs) (keyZ_bounds HK.out.1) p hv dv W (eng_below HE4.out hB) hDW (fun hne b hb => ⟨fun e => by have := hold_own HD.out hne hb; omega, fun e => by have := hold_own HD.out hne hb; have := HM5.out b e; omega⟩) (by have := keyZ_length (n := 64) (key := kz) (by omega); have := HDL.out; omega)).mono ?_
   rintro e w' ⟨rfl, ⟨hv', hE', -⟩, hS'⟩
   refine hK _ _ (fun h => by cases h) ⟨(hS'.block np (Array.getElem?_eq_some_iff.1 hR.1).1 ⟨fun e => hpnp e.symm, eng_held_ne (eng_below HE4.out hB) hR.1 (by decide)⟩).trans hR.1, (hS'.block b0 (Array.getElem?_eq_some_iff.1 hR.2.1).1 ⟨by omega, fun e => by have := HM5.out b0 e; omega⟩).trans hR.2.1, fun h => (by cases h), fun _ => ⟨(Spare.of_below _ hB).trans hS' (fun _ _ h => h), hv', hE'⟩⟩ ⟨.inr (fun _ h => h), .inr (fun _ h => h), .inr (fun _ h => h), .inr (fun _ h => h), .inr (fun _ h => h), .inr (fun _ h => h), .inl rfl, trivial⟩ trivial
  intro x W hR hall
  obtain ⟨e67, -⟩ := hall
  change ((fun _ _ => True)) (x 67) W at e67
  simp only [layS, Act.put, List.setIfInBounds_toArray, List.set_cons_zero, List.set_cons_succ]
  obtain ⟨hn9, hc9, -, h9⟩ := hR
  obtain ⟨hs9, hv9, hE9⟩ := h9 rfl
  have hb9 : Below b0 w W := HB4.out.trans (hs9.below (by omega) (fun k hk => ⟨by omega, fun e => by have := HM5.out k e; omega⟩))
  have c94 : W.cell? ⟨b0, 4, none⟩ = some (.int .i64 o) := cell_of_heap hc9 4
  have hb09 : b0 < W.heap.size := (Array.getElem?_eq_some_iff.1 hc9).1
  have HN9 := hid hn9
  have HE9 := hid hE9
  have HB9 := hid hb9
  clear hn9 hc9 h9 hs9 hE9 hb9 e67 HN4 HE4 HC4 HB4
  go_wp2_with fail
  have ho := HO.out
  obtain ⟨m, hm⟩ : ∃ m : Nat, o = (m : Int) := ⟨o.toNat, by omega⟩
  have hm1 : 1 ≤ m ∧ m ≤ 32 := by omega
  clear ho HO
  subst hm
  have hlen : (((keyZ 64 kz) ++ ds).length : Int) ≤ 281474976710656 := by
   have := keyZ_length (n := 64) (key := kz) (by omega)
   have := HDL.out
   rw [List.length_append]; omega
  have hmz : ∀ z ∈ keyZ 64 kz ++ ds, 0 ≤ z ∧ z ≤ 255 := fun z hz => by
   rcases List.mem_append.1 hz with hz | hz
   ·exact keyZ_bounds HK.out.1 z hz
   ·exact HD.out.1 z hz
  refine (nodeOut_false (h0Z false bs) (keyZ 64 kz ++ ds) (h0Z_words false bs) hmz np p m dg 0 la bv' kv' hv9 _ HN9.out HE9.out hlen hm1.1 hm1.2).mono ?_; rintro e w5 ⟨⟨v5, rfl, hf5⟩, hb5⟩
  have HF5 := hid (show Fresh w.heap.size w5 v5 (callR false bs kz la (m : Nat) ds) from by have h := hf5.le (b' := w.heap.size) (by omega); unfold callR; exact h)
  have HB6 := hid (show Below b0 w w5 from HB9.out.trans (hb5.mono (by omega)))
  clear hf5 hb5 hlen hmz hm1
  go_wp2
  go_ret2
  exact ⟨⟨_, rfl, HF5.out⟩, by rw [hb0]; exact HB6.out⟩
theorem own_setRow_other {W : World} {base n b : Nat} {v : Value} {xs : List Value} {c cs : Array Value} {T : TypeId} (h : W.ownsRow base 5 1 v n xs) (hr : W.heap[b]? = some (.cells c T (0, 0))) (hT : T ≠ 5) : (W.setRow b cs).ownsRow base 5 1 v n xs := by
 refine ⟨h.1, ?_⟩
 rcases h.2 with h2 | ⟨g, cap, cur, e, h1, h2, h3⟩
 ·exact .inl h2
 ·refine .inr ⟨g, cap, cur, e, h1, ?_, h3⟩
  rw [setRow_other _ _ _ _ ?_]; exact h2
  rintro rfl
  rw [hr] at h2
  simp only [Option.some.injEq, Obj.cells.injEq] at h2
  exact hT h2.2.1
/-- The numbers of a node of a tree. -/
def TreeV.vN (t : TreeV) (row at_ : Nat) (f : Nat) : Nat :=
 if f = 1 then t.d.toNat else if f = 2 then t.kl else if f = 3 then t.f.toNat else if f = 4 then t.p.toNat else if f = 5 then t.l.toNat else if f = 6 then at_ else if f = 8 then row else if f = 9 then t.i.toNat else 0
/-- Which kind. -/
def TreeV.big (t : TreeV) : Bool := decide (t.k = 1)
theorem TreeV.kB_big {t : TreeV} (h : t.validE = 0) : kB t.big = t.k := by
 have := (TreeV.valid_facts h).1
 unfold TreeV.big kB
 rcases this with e | e <;> rw [e] <;> rfl
theorem TreeV.mB_big {t : TreeV} (h : t.validE = 0) : ((mB t.big : Nat) : Int) = sizeK t.k ∧ ((sB t.big : Nat) : Int) = saltK t.k := by
 have := (TreeV.valid_facts h).1
 unfold TreeV.big mB sB sizeK saltK
 rcases this with e | e <;> rw [e] <;> exact ⟨rfl, rfl⟩
theorem TreeV.parOk {t : TreeV} (h : t.validE = 0) (hl : 0 ≤ t.l ∧ t.l ≤ 4294967295) {row at_ : Nat} (hr : row ≤ 255) (ha : at_ < 281474976710656) : ParOk t.big (t.vN row at_) := by
 obtain ⟨h1, h2, h3, h4, h5, h6, h7, h8, h9, h10, -, -⟩ := TreeV.valid_facts h
 obtain ⟨hm, -⟩ := TreeV.mB_big h
 refine ⟨⟨?_, ?_, ?_, ?_, ⟨?_, fun _ => ?_⟩, ?_, ?_⟩, ?_, ?_, rfl⟩
 all_goals simp only [TreeV.vN, if_true, if_false, Nat.reduceEqDiff]
 all_goals omega
/-- The block of a node. -/
def TreeV.blk (t : TreeV) (z1 z2 : List Int) (row at_ : Nat) : List Int := blkP t.big (t.vN row at_) z1 z2
theorem TreeV.parN {t : TreeV} (h : t.validE = 0) (hl : 0 ≤ t.l ∧ t.l ≤ 4294967295) (row at_ : Nat) (sa pe : Value) :
  parN (t.vN row at_) sa pe = .agg #[.int .i64 t.d, .int .i64 (t.kl : Nat), .int .i64 t.f, .int .i64 t.p, .int .u32 t.l, .int .u64 (at_ : Nat), .int .u32 0, .int .i64 (row : Nat), .int .i64 t.i, sa, pe] := by
 obtain ⟨h1, h2, h3, h4, h5, h6, h7, h8, h9, h10, -, -⟩ := TreeV.valid_facts h
 have e : ∀ z : Int, 0 ≤ z → ((z.toNat : Nat) : Int) = z := fun z hz => Int.toNat_of_nonneg hz
 unfold Go.Proofs.Ytahenngmaoellaa.parN parV
 simp only [TreeV.vN, if_true, if_false, Nat.reduceEqDiff]
 rw [e t.d (by omega), e t.f (by omega), e t.p (by omega), e t.l (by omega), e t.i (by omega)]
 rfl
theorem ownsRow_setCell_ty {W : World} {B n g : Nat} {v : Value} {xs : List Value} {c : Array Value} {T : TypeId} {fr : Nat × Nat} (h : W.ownsRow B 5 1 v n xs) (hr : W.heap[g]? = some (.cells c T fr)) (o : Nat) (u : Value) (hT : T ≠ 5) : (W.setCell ⟨g, o, none⟩ u).ownsRow B 5 1 v n xs := by
 refine ⟨h.1, ?_⟩
 rcases h.2 with h2 | ⟨g', cap, cur, e, h1, h2, h3⟩
 ·exact .inl h2
 ·refine .inr ⟨g', cap, cur, e, h1, ?_, h3⟩
  rw [heap_setCell_other W _ _ _ ?_]; exact h2
  rintro rfl
  rw [hr] at h2
  simp only [Option.some.injEq, Obj.cells.injEq] at h2
  exact hT h2.2.1
/-- How many bytes a node gives. -/
def TreeV.outN (t : TreeV) (rt : Bool) : Int := if rt then t.d else t.i
/-- The key of a node's call. -/
def keyL (row : Nat) (kz : List Int) : List Int := if row = 0 then kz else []
theorem treeCall_ok (t : TreeV) (h : t.validE = 0) (hl : 0 ≤ t.l ∧ t.l ≤ 4294967295) (z1 z2 kz : List Int) (row at_ : Nat) (hr : row ≤ 255) (ha : at_ < 281474976710656) (la rt : Bool) (da : Option Addr) (dn dc : Nat) (w : World)
  (h1 : Hold w (.slice t.sa t.sl t.sc) z1) (h2 : Hold w (.slice t.pa t.pl t.pc) z2) (hk : Hold w (.slice t.ka t.kl t.kc) kz) :
  Calls Try.prog 26 #[t.val, .int .i64 (row : Nat), .int .u64 (at_ : Nat), .bool la, .bool rt, .slice da dn dc] w fun e w' => ∃ bv kv, e = .returned (.agg (callC t.k bv kv la (t.outN rt) (.slice da dn dc))) ∧
   w'.ownsRow w.heap.size 5 1 bv (mB t.big) ((t.blk z1 z2 row at_).map encB) ∧ w'.ownsRow w.heap.size 5 1 kv (keyL row kz).length ((keyL row kz).map encB) ∧ Below w.heap.size w w' := by
 obtain ⟨b0, hb0⟩ : ∃ b0, w.heap.size = b0 := ⟨_, rfl⟩
 have hz1 : z1.length = t.sl := by obtain ⟨a, c, e, -, -⟩ := h1.slice; simp only [Value.slice.injEq] at e; exact e.2.1.symm
 have hz2 : z2.length = t.pl := by obtain ⟨a, c, e, -, -⟩ := h2.slice; simp only [Value.slice.injEq] at e; exact e.2.1.symm
 have hzk : kz.length = t.kl := by obtain ⟨a, c, e, -, -⟩ := hk.slice; simp only [Value.slice.injEq] at e; exact e.2.1.symm
 have hvf := TreeV.valid_facts h
 have hmb := TreeV.mB_big h
 have hk64 : kz.length ≤ 64 := by
  have h1 := hvf.2.2.2.2.2.2.2.2.2.1
  have h2 : mB t.big ≤ 64 := by cases t.big <;> decide
  omega
 have HEN := hid (fun (W : World) (hb : Below b0 w W) => encode_ok t.big (t.vN row at_) z1 z2 (.slice t.sa t.sl t.sc) (.slice t.pa t.pl t.pc) W (TreeV.parOk h hl hr ha) (h1.below (hb0 ▸ hb)) (h2.below (hb0 ▸ hb)) (by omega) (by omega))
 rw [TreeV.parN h hl, TreeV.kB_big h] at HEN
 have HK := hid hk
 have HZK := hid hzk
 have HB := hid (show t.blk z1 z2 row at_ = blkP t.big (t.vN row at_) z1 z2 from rfl)
 generalize t.blk z1 z2 row at_ = BL at *
 obtain ⟨k, d, f, p, l, i, ka, kl, kc, sa, sl, sc, pa, pl, pc⟩ := t
 unfold TreeV.val
 simp only at *
 clear hvf hmb h hl h1 h2 hk hz1 hz2 hzk
 go_enter Try.func26, Try.ntmps26
 go_upto_region 1 with (fail)
 have hrT : ((w.alloc (.cells #[.int .i64 k, .int .i64 d, .int .i64 f, .int .i64 p, .int .u32 l, .int .i64 i, .slice ka kl kc, .slice sa sl sc, .slice pa pl pc] 26)).alloc (.cells #[.int .i64 0, .slice none 0 0, .slice none 0 0, .bool false, .int .i64 0, .slice none 0 0] 61)).heap[b0]? = some (.cells #[.int .i64 k, .int .i64 d, .int .i64 f, .int .i64 p, .int .u32 l, .int .i64 i, .slice ka kl kc, .slice sa sl sc, .slice pa pl pc] 26 (0, 0)) := (Below.heap_alloc _ _ _ (by simp; omega)).trans (World.alloc_new_at _ _ hb0.symm)
 have hrC : ((w.alloc (.cells #[.int .i64 k, .int .i64 d, .int .i64 f, .int .i64 p, .int .u32 l, .int .i64 i, .slice ka kl kc, .slice sa sl sc, .slice pa pl pc] 26)).alloc (.cells #[.int .i64 0, .slice none 0 0, .slice none 0 0, .bool false, .int .i64 0, .slice none 0 0] 61)).heap[b0 + 1]? = some (.cells #[.int .i64 0, .slice none 0 0, .slice none 0 0, .bool false, .int .i64 0, .slice none 0 0] 61 (0, 0)) := World.alloc_new_at _ _ (by simp; omega)
 have hbA : Below b0 w ((w.alloc (.cells #[.int .i64 k, .int .i64 d, .int .i64 f, .int .i64 p, .int .u32 l, .int .i64 i, .slice ka kl kc, .slice sa sl sc, .slice pa pl pc] 26)).alloc (.cells #[.int .i64 0, .slice none 0 0, .slice none 0 0, .bool false, .int .i64 0, .slice none 0 0] 61)) := by rw [← hb0]; exact ((Below.refl _ _).alloc (Nat.le_refl _) _).alloc (by simp) _
 have hsA : ((w.alloc (.cells #[.int .i64 k, .int .i64 d, .int .i64 f, .int .i64 p, .int .u32 l, .int .i64 i, .slice ka kl kc, .slice sa sl sc, .slice pa pl pc] 26)).alloc (.cells #[.int .i64 0, .slice none 0 0, .slice none 0 0, .bool false, .int .i64 0, .slice none 0 0] 61)).heap.size = b0 + 2 := by simp; omega
 generalize ((w.alloc (.cells #[.int .i64 k, .int .i64 d, .int .i64 f, .int .i64 p, .int .u32 l, .int .i64 i, .slice ka kl kc, .slice sa sl sc, .slice pa pl pc] 26)).alloc (.cells #[.int .i64 0, .slice none 0 0, .slice none 0 0, .bool false, .int .i64 0, .slice none 0 0] 61)) = wA at *
 have c0 : wA.cell? ⟨b0, 0, none⟩ = some (.int .i64 k) := cell_of_heap hrT 0
 have c1 : wA.cell? ⟨b0, 1, none⟩ = some (.int .i64 d) := cell_of_heap hrT 1
 have c2 : wA.cell? ⟨b0, 2, none⟩ = some (.int .i64 f) := cell_of_heap hrT 2
 have c3 : wA.cell? ⟨b0, 3, none⟩ = some (.int .i64 p) := cell_of_heap hrT 3
 have c4 : wA.cell? ⟨b0, 4, none⟩ = some (.int .u32 l) := cell_of_heap hrT 4
 have c5 : wA.cell? ⟨b0, 5, none⟩ = some (.int .i64 i) := cell_of_heap hrT 5
 have c6 : wA.cell? ⟨b0, 6, none⟩ = some (.slice ka kl kc) := cell_of_heap hrT 6
 have c7 : wA.cell? ⟨b0, 7, none⟩ = some (.slice sa sl sc) := cell_of_heap hrT 7
 have c8 : wA.cell? ⟨b0, 8, none⟩ = some (.slice pa pl pc) := cell_of_heap hrT 8
 have hb0A : b0 < wA.heap.size := by omega
 have HRT := hid hrT
 have HRC := hid hrC
 have HBA := hid hbA
 clear hrT hrC hbA
 go_upto_region 2 with (first | ((with_reducible show wpList _ _ _ (Oper.mk none (Op.store 78 _ _) _ _ _ _ :: _) _ _); refine wpList_store_row rfl 78 _ _ rfl wA.heap.size #[.int .i64 d, .int .i64 (kl : Nat), .int .i64 f, .int .i64 p, .int .u32 l, .int .u64 (at_ : Nat), .int .u32 0, .int .i64 (row : Nat), .int .i64 i, .slice sa sl sc, .slice pa pl pc] rfl rfl 78 _ (World.alloc_heap_new _ _) (by kernel_rfl) rfl (by simp [Value.oneCell']) ?_))
 refine letterW ?_
 intro W hW
 obtain ⟨b2, hb2⟩ : ∃ b2, b0 + 2 = b2 := ⟨_, rfl⟩
 have hrP : W.heap[b2]? = some (.cells #[.int .i64 d, .int .i64 (kl : Nat), .int .i64 f, .int .i64 p, .int .u32 l, .int .u64 (at_ : Nat), .int .u32 0, .int .i64 (row : Nat), .int .i64 i, .slice sa sl sc, .slice pa pl pc] 78 (0, 0)) := by rw [hW, ← hb2, ← hsA]; exact World.alloc_heap_new _ _
 have hbW : Below b2 wA W := by rw [hW, ← hb2, ← hsA]; exact (Below.refl _ _).alloc (Nat.le_refl _) _
 rw [hb2]
 have hbw : Below b0 w W := HBA.out.trans (hbW.mono (by omega))
 have hrT : W.heap[b0]? = some (.cells #[.int .i64 k, .int .i64 d, .int .i64 f, .int .i64 p, .int .u32 l, .int .i64 i, .slice ka kl kc, .slice sa sl sc, .slice pa pl pc] 26 (0, 0)) := (hbW.block b0 (by omega)).trans HRT.out
 have hrC : W.heap[b0 + 1]? = some (.cells #[.int .i64 0, .slice none 0 0, .slice none 0 0, .bool false, .int .i64 0, .slice none 0 0] 61 (0, 0)) := (hbW.block (b0 + 1) (by omega)).trans HRC.out
 have c0 : W.cell? ⟨b0, 0, none⟩ = some (.int .i64 k) := cell_of_heap hrT 0
 have hb2W : b2 < W.heap.size := (Array.getElem?_eq_some_iff.1 hrP).1
 have hb0W : b0 < W.heap.size := by omega
 clear hW hbW HBA HRT HRC hsA hb0A
 go_wp2_with ((with_reducible show wpList _ _ _ (Oper.mk _ (Op.load 78 _) _ _ _ _ :: _) _ _); refine wpList_load_row rfl 78 _ rfl b2 rfl _ _ _ _ hrP Try.underlying78 rfl (by kernel_rfl) ?_)
 refine (HEN.out W hbw).mono ?_; rintro e w2 ⟨⟨bv, rfl, hbo⟩, hbe⟩
 obtain ⟨a5, n5, k5, rfl⟩ := own_slice hbo
 have HRT := hid (rowStay hrT hbe)
 have HRC := hid (rowStay hrC hbe)
 have hs2 := hbe.size
 have hbo2 := ownsRow_le hbo (show b0 ≤ W.heap.size by omega)
 rw [← HB.out] at hbo2
 have HBO := hid hbo2
 have HB2 := hid (show Below b0 w w2 from hbw.trans (hbe.mono (by omega)))
 have c0 : w2.cell? ⟨b0, 0, none⟩ = some (.int .i64 k) := cell_of_heap HRT.out 0
 have c5 : w2.cell? ⟨b0, 5, none⟩ = some (.int .i64 i) := cell_of_heap HRT.out 5
 have hb0w : b0 + 1 < w2.heap.size ∧ b0 < w2.heap.size := by omega
 clear hrT hrC hbw hbe hbo hbo2 hrP HEN hb2 hb2W hb0W hs2
 go_upto_region 4 with (fail)
 refine letterW ?_
 intro V hV
 obtain ⟨b3, hb3⟩ : ∃ b3, w2.heap.size = b3 := ⟨_, rfl⟩
 have hrV : V.heap[b3]? = some (.cells #[.int .i64 k, .slice a5 n5 k5, .slice none 0 0, .bool la, .int .i64 i, .slice da dn dc] 61 (0, 0)) := by rw [hV, ← hb3]; exact World.alloc_heap_new _ _
 have hbV : Below b3 w2 V := by rw [hV, ← hb3]; exact (Below.refl _ _).alloc (Nat.le_refl _) _
 rw [hb3]
 have hrT3 : V.heap[b0]? = _ := (hbV.block b0 (by omega)).trans HRT.out
 have hrC3 : V.heap[b0 + 1]? = _ := (hbV.block (b0 + 1) (by omega)).trans HRC.out
 have HRV := hid hrV
 have HRT3 := hid hrT3
 have HRC3 := hid hrC3
 have hsV := (Array.getElem?_eq_some_iff.1 hrV).1
 have HBV := hid (show Below b0 w V from HB2.out.trans (hbV.mono (by omega)))
 have HBO3 := hid (ownsRow_same' HBO.out (fun g _ g2 => hbV.block g (by omega)))
 have hb03 : b0 + 1 < b3 ∧ b0 < V.heap.size ∧ b0 + 1 < V.heap.size := by omega
 clear hV hb3 hbV HRT HRC HB2 HBO c0 c5 hb0w hrT3 hrC3 hrV
 by_cases hrow : row = 0
 case neg =>
  have hq : ¬ ((row : Int) = 0) := by omega
  have hkl : keyL row kz = [] := if_neg hrow
  cases rt
  case false =>
   go_wp2_with (first | ((with_reducible show wpList _ _ _ (Oper.mk _ (Op.load 61 _) _ _ _ _ :: _) _ _); refine wpList_load_row rfl 61 _ rfl b3 rfl _ _ _ _ HRV.out Try.underlying61 rfl (by kernel_rfl) ?_) | ((with_reducible show wpList _ _ _ (Oper.mk none (Op.store 61 _ _) _ _ _ _ :: _) _ _); refine wpList_store_row rfl 61 _ _ rfl (b0 + 1) #[.int .i64 k, .slice a5 n5 k5, .slice none 0 0, .bool la, .int .i64 i, .slice da dn dc] rfl rfl 61 _ HRC3.out (by kernel_rfl) rfl (by simp [Value.oneCell']) ?_))
   exact bodyPost_ret (results_cell_row rfl _ _ _ _ _ _ _ rfl (setRow_heap _ _ _ _ _ _ HRC3.out) Try.underlying61 rfl (by kernel_rfl)) rfl (by rw [hb0]; exact ⟨_, _, rfl, own_setRow_other HBO3.out HRC3.out (by decide), (by first | exact World.ownsRow_nil _ _ _ _ | (rw [hkl]; exact World.ownsRow_nil _ _ _ _)), below_setRow HBV.out (by omega) _⟩)
  case true =>
   have c1 : V.cell? ⟨b0, 1, none⟩ = some (.int .i64 d) := cell_of_heap HRT3.out 1
   have c4 : V.cell? ⟨b3, 4, none⟩ = some (.int .i64 i) := cell_of_heap HRV.out 4
   have f4 := frozen_of_row V b3 4 _ _ HRV.out
   go_upto_region 8 with (fail)
   have hr6 := hid (heap_setCell_same V b3 4 _ _ (.int .i64 d) HRV.out)
   have hc6 := hid ((heap_setCell_other V ⟨b3, 4, none⟩ (b0 + 1) (.int .i64 d) (show b0 + 1 ≠ b3 by omega)).trans HRC3.out)
   have ho6 := hid (ownsRow_setCell_ty HBO3.out HRV.out 4 (.int .i64 d) (by decide))
   have hb6 := hid (show Below b0 w (V.setCell ⟨b3, 4, none⟩ (.int .i64 d)) from HBV.out.setCell (show b0 ≤ b3 by omega) _)
   clear c1 c4 f4
   generalize V.setCell ⟨b3, 4, none⟩ (.int .i64 d) = V6 at *
   go_wp2_with (first | ((with_reducible show wpList _ _ _ (Oper.mk _ (Op.load 61 _) _ _ _ _ :: _) _ _); refine wpList_load_row rfl 61 _ rfl b3 rfl _ _ _ _ hr6.out Try.underlying61 rfl (by kernel_rfl) ?_) | ((with_reducible show wpList _ _ _ (Oper.mk none (Op.store 61 _ _) _ _ _ _ :: _) _ _); refine wpList_store_row rfl 61 _ _ rfl (b0 + 1) #[.int .i64 k, .slice a5 n5 k5, .slice none 0 0, .bool la, .int .i64 d, .slice da dn dc] rfl rfl 61 _ hc6.out (by kernel_rfl) rfl (by simp [Value.oneCell']) ?_))
   exact bodyPost_ret (results_cell_row rfl _ _ _ _ _ _ _ rfl (setRow_heap _ _ _ _ _ _ hc6.out) Try.underlying61 rfl (by kernel_rfl)) rfl (by rw [hb0]; exact ⟨_, _, rfl, own_setRow_other ho6.out hc6.out (by decide), (by first | exact World.ownsRow_nil _ _ _ _ | (rw [hkl]; exact World.ownsRow_nil _ _ _ _)), below_setRow hb6.out (by omega) _⟩)
 subst hrow
 have hkl : keyL 0 kz = kz := rfl
 obtain ⟨i0, hi, hz0, hz1, hz2⟩ := info_parts info_u8
 have c6 : V.cell? ⟨b0, 6, none⟩ = some (.slice ka kl kc) := cell_of_heap HRT3.out 6
 have HKS := hid (HK.out.below (hb0 ▸ HBV.out)).src
 have c2 : V.cell? ⟨b3, 2, none⟩ = some (.slice none 0 0) := cell_of_heap HRV.out 2
 have f2 := frozen_of_row V b3 2 _ _ HRV.out
 go_upto_region 6 with (first | (at_builtin; refine wpList_append_now rfl _ _ _ rfl V V.heap.size rfl (by repeat (first | exact Below.refl _ _ | refine Below.drew ?_)) 5 i0 (.int .u8 0) 1 Try.underlying24 hi hz0 hz1 hz2 rfl _ 0 [] rfl (World.ownsRow_nil _ _ _ _) _ _ _ rfl (HKS.out) (by unfold maxLen; omega) (by omega) ?_; intro v' w' hown' hb'; obtain ⟨a6, n6, k6, rfl⟩ := own_slice hown'; have hrv' := rowStay HRV.out hb'; have c2' : w'.cell? ⟨b3, 2, none⟩ = some (.slice none 0 0) := cell_of_heap hrv' 2; have f2' := frozen_of_row w' b3 2 _ _ hrv'; have s2' : b3 < w'.heap.size := (Array.getElem?_eq_some_iff.1 hrv').1; have HOWN := hid hown'; have HBB := hid hb'; clear hrv' hown' hb'))
 have hs5 := (show Below b0 w w' from HBV.out.trans (HBB.out.mono (by omega)))
 have hV5 : Below b0 w (w'.setCell ⟨b3, 2, none⟩ (.slice a6 n6 k6)) := hs5.setCell (show b0 ≤ b3 by omega) _
 have HRV5 := hid (heap_setCell_same w' b3 2 _ _ (.slice a6 n6 k6) (rowStay HRV.out HBB.out))
 have HRC5 := hid ((heap_setCell_other w' ⟨b3, 2, none⟩ (b0 + 1) (.slice a6 n6 k6) (show b0 + 1 ≠ b3 by omega)).trans (rowStay HRC3.out HBB.out))
 have HRT5 := hid ((heap_setCell_other w' ⟨b3, 2, none⟩ b0 (.slice a6 n6 k6) (show b0 ≠ b3 by omega)).trans (rowStay HRT3.out HBB.out))
 have HBO5 := hid (ownsRow_setCell_ty (ownsRow_same' HBO3.out (fun g _ g2 => HBB.out.block g g2)) (rowStay HRV.out HBB.out) 2 (.slice a6 n6 k6) (by decide))
 have KO5 := hid (ownsRow_setCell_ty (ownsRow_le HOWN.out (show b0 ≤ V.heap.size by omega)) (rowStay HRV.out HBB.out) 2 (.slice a6 n6 k6) (by decide))
 have HBV5 := hid hV5
 have hs6 : (w'.setCell ⟨b3, 2, none⟩ (.slice a6 n6 k6)).heap.size = w'.heap.size := by simp [World.setCell]
 have hs7 := HBB.out.size
 rw [Nat.zero_add, List.nil_append] at KO5
 have h56 : b3 < (w'.setCell ⟨b3, 2, none⟩ (.slice a6 n6 k6)).heap.size ∧ b0 < (w'.setCell ⟨b3, 2, none⟩ (.slice a6 n6 k6)).heap.size ∧ b0 + 1 < (w'.setCell ⟨b3, 2, none⟩ (.slice a6 n6 k6)).heap.size := by omega
 clear hs5 hV5 hs6 hs7 HRV HRC3 HRT3 HBO3 HBV HOWN HBB c2' f2' s2' c2 f2 c6
 generalize w'.setCell ⟨b3, 2, none⟩ (.slice a6 n6 k6) = V5 at *
 cases rt
 case false =>
  go_wp2_with (first | ((with_reducible show wpList _ _ _ (Oper.mk _ (Op.load 61 _) _ _ _ _ :: _) _ _); refine wpList_load_row rfl 61 _ rfl b3 rfl _ _ _ _ HRV5.out Try.underlying61 rfl (by kernel_rfl) ?_) | ((with_reducible show wpList _ _ _ (Oper.mk none (Op.store 61 _ _) _ _ _ _ :: _) _ _); refine wpList_store_row rfl 61 _ _ rfl (b0 + 1) #[.int .i64 k, .slice a5 n5 k5, .slice a6 n6 k6, .bool la, .int .i64 i, .slice da dn dc] rfl rfl 61 _ HRC5.out (by kernel_rfl) rfl (by simp [Value.oneCell']) ?_))
  exact bodyPost_ret (results_cell_row rfl _ _ _ _ _ _ _ rfl (setRow_heap _ _ _ _ _ _ HRC5.out) Try.underlying61 rfl (by kernel_rfl)) rfl (by rw [hb0]; exact ⟨_, _, rfl, own_setRow_other HBO5.out HRC5.out (by decide), (own_setRow_other KO5.out HRC5.out (by decide)), below_setRow HBV5.out (by omega) _⟩)
 case true =>
  have c1 : V5.cell? ⟨b0, 1, none⟩ = some (.int .i64 d) := cell_of_heap HRT5.out 1
  have c4 : V5.cell? ⟨b3, 4, none⟩ = some (.int .i64 i) := cell_of_heap HRV5.out 4
  have f4 := frozen_of_row V5 b3 4 _ _ HRV5.out
  go_upto_region 8 with (fail)
  have hr6 := hid (heap_setCell_same V5 b3 4 _ _ (.int .i64 d) HRV5.out)
  have hc6 := hid ((heap_setCell_other V5 ⟨b3, 4, none⟩ (b0 + 1) (.int .i64 d) (show b0 + 1 ≠ b3 by omega)).trans HRC5.out)
  have ho6 := hid (ownsRow_setCell_ty HBO5.out HRV5.out 4 (.int .i64 d) (by decide))
  have hk6 := hid (ownsRow_setCell_ty KO5.out HRV5.out 4 (.int .i64 d) (by decide))
  have hb6 := hid (show Below b0 w (V5.setCell ⟨b3, 4, none⟩ (.int .i64 d)) from HBV5.out.setCell (show b0 ≤ b3 by omega) _)
  clear c1 c4 f4
  generalize V5.setCell ⟨b3, 4, none⟩ (.int .i64 d) = V6 at *
  go_wp2_with (first | ((with_reducible show wpList _ _ _ (Oper.mk _ (Op.load 61 _) _ _ _ _ :: _) _ _); refine wpList_load_row rfl 61 _ rfl b3 rfl _ _ _ _ hr6.out Try.underlying61 rfl (by kernel_rfl) ?_) | ((with_reducible show wpList _ _ _ (Oper.mk none (Op.store 61 _ _) _ _ _ _ :: _) _ _); refine wpList_store_row rfl 61 _ _ rfl (b0 + 1) #[.int .i64 k, .slice a5 n5 k5, .slice a6 n6 k6, .bool la, .int .i64 d, .slice da dn dc] rfl rfl 61 _ hc6.out (by kernel_rfl) rfl (by simp [Value.oneCell']) ?_))
  exact bodyPost_ret (results_cell_row rfl _ _ _ _ _ _ _ rfl (setRow_heap _ _ _ _ _ _ hc6.out) Try.underlying61 rfl (by kernel_rfl)) rfl (by rw [hb0]; exact ⟨_, _, rfl, own_setRow_other ho6.out hc6.out (by decide), (own_setRow_other hk6.out hc6.out (by decide)), below_setRow hb6.out (by omega) _⟩)
end Go.Proofs.Ytahenngmaoellaa
