/- What a node on a leaf's way gives, by the program: path.give. No condition. -/
import Derived.Test.YtahenngmaoellaaN37
import Derived.Test.YtahenngmaoellaaN42
import Derived.Deep.DeepCutAuto
set_option linter.all false
set_option maxRecDepth 100000
set_option maxHeartbeats 8000000
namespace Go.Proofs.Ytahenngmaoellaa
open Go.ChangeShapes Go.WideShapes Go.ChangeAt Go.RowKit Go.Joins Go.Shelf Go.Maps
open Go.Lib (hid)
attribute [local go_sem] Oper.semAt_some
theorem TreeV.parOk2 {t : TreeV} (h : t.validE = 0) (hl : 0 ≤ t.l ∧ t.l ≤ 4294967295) {row at_ : Nat} (hr : row ≤ 255) (ha : at_ < 18446744073709551616) (hs : t.k = 2 → at_ < 281474976710656) : ParOk t.big (t.vN row at_) := by
 obtain ⟨h1, h2, h3, h4, h5, h6, h7, h8, h9, h10, -, -⟩ := TreeV.valid_facts h
 obtain ⟨hm, -⟩ := TreeV.mB_big h
 have hb : t.big = false → at_ < 281474976710656 := fun e => hs (by
  have : t.k ≠ 1 := of_decide_eq_false e
  omega)
 refine ⟨⟨?_, ?_, ?_, ?_, ⟨?_, fun e => ?_⟩, ?_, ?_⟩, ?_, ?_, rfl⟩
 case refine_6 => have := hb e; simp only [TreeV.vN, if_true, if_false, Nat.reduceEqDiff]; omega
 all_goals simp only [TreeV.vN, if_true, if_false, Nat.reduceEqDiff]
 all_goals omega
theorem rows_first {f p total l : Nat} {L : List Nat} (h : RowsIs f p (lvs total l) L) : ∀ k, k < L.length → nth L k ≤ lvs total l
 | 0, _ => Nat.le_of_eq h.first
 | k + 1, hk => by
  have ih := rows_first h k (by omega)
  have h0 : 1 ≤ lvs total l := by unfold lvs; omega
  by_cases h1 : nth L (k + 1) = 1
  ·omega
  ·obtain ⟨e, hf⟩ := h.next_or hk h1
   rw [e]
   exact Nat.le_trans (cdiv_le (by omega)) ih
/-- A node that is there has a number that its parameters can bear. -/
theorem TreeV.parOk3 {t : TreeV} (hl : 0 ≤ t.l ∧ t.l ≤ 4294967295) {total row at_ : Nat} (ht : (total : Int) ≤ 18446744073709551615) (he : t.err total = 0) (hk : row < (t.rowsOf total).length) (ha : at_ < nth (t.rowsOf total) row) : ParOk t.big (t.vN row at_) ∧ row ≤ 255 := by
 obtain ⟨hl1, hl2, hln, h0⟩ := TreeV.ok_facts hl he
 have hR := TreeV.rows_is he
 have hvf := TreeV.valid_facts h0
 have hlen := hR.most
 have hpn : (t.pn : Int) ≤ 255 := by have := hvf.2.2.2.2.2.2.1; have := hvf.2.2.2.2.2.2.2.1; unfold TreeV.pn; omega
 have h3 := rows_le hl1 ht hR row hk
 have hr : row ≤ 255 := by omega
 refine ⟨TreeV.parOk2 h0 hl hr (by omega) (fun e => ?_), hr⟩
 have h4 := rows_first hR row hk
 have h5 : cdiv total t.ln ≤ 281474976710656 := by
  by_cases hc : 281474976710656 < cdiv total t.ln
  ·unfold TreeV.err at he
   rw [if_neg (by simp [h0]), if_pos ⟨e, hc⟩] at he
   omega
  ·omega
 unfold lvs at h4
 omega
theorem encodeS_any (big : Bool) (v : Nat → Nat) (z1 z2 : List Int) (sa pe : Value) (b : Nat) (w : World) (hP : ParOk big v) (h1 : SideIs b w z1 sa) (h2 : SideIs b w z2 pe) (hz1 : ∀ a ∈ z1, 0 ≤ a ∧ a ≤ 255) (hz2 : ∀ a ∈ z2, 0 ≤ a ∧ a ≤ 255) (hl1 : z1.length ≤ sB big) (hl2 : z2.length ≤ sB big) :
  Calls Try.prog 32 #[.int .i64 (kB big), parN v sa pe] w fun e w' => (∃ r, e = .returned (.tuple #[r, .int .i64 0]) ∧ w'.ownsRow w.heap.size 5 1 r (mB big) ((blkP big v z1 z2).map encB)) ∧ Below w.heap.size w w' := by
 obtain ⟨y1, k1, m1, e1⟩ := side_use h1 hz1
 obtain ⟨y2, k2, m2, e2⟩ := side_use h2 hz2
 rw [← blkP_side hl1 hl2 e1 e2]
 exact encode_ok big v y1 y2 sa pe w hP k1 k2 (Nat.le_trans m1 hl1) (Nat.le_trans m2 hl2)
theorem TreeOk.okD2 {t : TreeV} {kz z1 z2 : List Int} {w : World} (h : TreeOk t kz z1 z2 w) {row at_ : Nat} (hP : ParOk t.big (t.vN row at_)) :
  Go.Proofs.Ytahenngmaoellaa.okD t.big false (t.blk z1 z2 row at_) ∧ keyBad (t.blk z1 z2 row at_) (keyL row kz) = false ∧ (∀ z ∈ t.blk z1 z2 row at_, 0 ≤ z ∧ z ≤ 255) ∧ ∀ rt : Bool, 1 ≤ t.outN rt ∧ t.outN rt ≤ (mB t.big : Nat) := by
 have hvf := TreeV.valid_facts h.v
 have hmb := TreeV.mB_big h.v
 have e1 := hold_len h.s
 have e2 := hold_len h.p
 have e3 := hold_len h.k
 obtain ⟨h1, h2⟩ := okD_blk (z1 := z1) (z2 := z2) hP (by omega) (by omega)
 refine ⟨h1, ?_, blkP_bounds h.s.1 h.p.1, fun rt => ?_⟩
 ·have h3 : nthz (t.blk z1 z2 row at_) 1 = (t.kl : Int) := h2
  unfold keyBad keyL
  rw [h3]
  refine decide_eq_false ?_
  split
  ·omega
  ·simp
 ·obtain ⟨-, d1, d2, d3, d4, -⟩ := hvf
  cases rt
  ·show 1 ≤ t.i ∧ t.i ≤ _; omega
  ·show 1 ≤ t.d ∧ t.d ≤ _; omega
theorem node_ok2 {t : TreeV} {kz z1 z2 : List Int} {w : World} (h : TreeOk t kz z1 z2 w) {row at_ : Nat} (hP : ParOk t.big (t.vN row at_)) (la rt : Bool) (ds : List Int) (dv bv kv : Value) (W : World) (b : Nat)
  (ho : W.ownsRow b 5 1 bv (mB t.big) ((t.blk z1 z2 row at_).map encB)) (hk : Hold W kv (keyL row kz)) (hd : Hold W dv ds) (hl : ds.length ≤ 1073741824) :
  Calls Try.prog 17 #[.agg (callC t.k bv kv la (t.outN rt) dv)] W fun e w' => ∃ u, e = .returned (.tuple #[u, .int .i64 0]) ∧ OwnB W.heap.size w' u (t.node kz z1 z2 row at_ la rt ds) ∧ Below W.heap.size W w' := by
 obtain ⟨h1, h2, h3, h4⟩ := h.okD2 hP
 rw [← TreeV.kB_big h.v]
 refine (nodeCall_any t.big _ _ ds la _ bv kv dv W (hold_of_own ho h3) hk hd (by omega) h1 h2 (h4 rt)).mono ?_
 rintro e w' ⟨⟨u, rfl, hu⟩, hb⟩
 exact ⟨u, rfl, ⟨TreeV.node_bounds t kz z1 z2 row at_ la rt ds, hu⟩, hb⟩
theorem give_ok (t : TreeV) (kz z1 z2 ds : List Int) (total : Nat) (ht : (total : Int) ≤ 18446744073709551615) (row at_ q2 q3 : Nat) (q4 q5 : Bool) (da : Option Addr) (dc : Nat) (w : World) (h : TreeOk t kz z1 z2 w) (hP : ParOk t.big (t.vN row at_)) (hr : row ≤ 255)
  (hsp : t.spotE total (row : Nat) at_ = 0) (hsr : t.spotR total (row : Nat) at_ = ⟨row, at_, q2, q3, q4, q5⟩) (hd : Hold w (.slice da ds.length dc) ds) (hdl : ds.length ≤ 1073741824) :
  Calls Try.prog 20 #[t.val, .int .u64 total, .agg #[.int .i64 (row : Nat), .int .u64 (at_ : Nat), .int .u64 (q2 : Nat), .int .u64 (q3 : Nat), .bool q4, .bool q5], .slice da ds.length dc] w fun e w' => ∃ u, e = .returned u ∧ OwnB w.heap.size w' u (t.node kz z1 z2 row at_ q4 q5 ds) ∧ Below w.heap.size w w' := by
 obtain ⟨b0, hb0⟩ : ∃ b0, w.heap.size = b0 := ⟨_, rfl⟩
 have e1 := hold_len h.s
 have e2 := hold_len h.p
 have e3 := hold_len h.k
 have hvf := TreeV.valid_facts h.v
 have hmb := TreeV.mB_big h.v
 have hs16 : sB t.big ≤ 16 := by cases t.big <;> decide
 have hspo := fun (W : World) => spot_any t h.l total ht (row : Nat) at_ W
 rw [hsr, hsp] at hspo
 unfold SpotV.val at hspo
 simp only at hspo
 have HSP := hid hspo
 have HPA := hid (fun (W : World) (hb : Below b0 w W) => params_ok t total (row : Nat) at_ HSP W (hid (h.s.below (hb0 ▸ hb)).holds8) (hid (h.p.below (hb0 ▸ hb)).holds8) (hid h.s.1) (hid h.p.1) (hid (by omega)) (hid (by omega)))
 have hen := fun (W : World) (b : Nat) (s p : Value) (hs1 : SideIs b W z1 s) (hs2 : SideIs b W z2 p) => encodeS_any t.big (t.vN row at_) z1 z2 s p b W hP hs1 hs2 h.s.1 h.p.1 (by omega) (by omega)
 simp only [TreeV.parN h.v h.l, TreeV.kB_big h.v] at hen
 have HEN := hid hen
 have HNO := hid (fun (W : World) (hb : Below b0 w W) (bv kv : Value) (B : Nat) (ho : W.ownsRow B 5 1 bv (mB t.big) ((blkP t.big (t.vN row at_) z1 z2).map encB)) (hk : Hold W kv (keyL row kz)) => node_ok2 (h.below (hb0 ▸ hb)) hP q4 q5 ds (.slice da ds.length dc) bv kv W B ho hk (hd.below (hb0 ▸ hb)) hdl)
 have HKZ := hid h.k
 clear hvf hmb hspo hen hsp hsr hP hd hdl hs16 e1 e2 e3 h
 unfold TreeV.val parVal at *
 go_enter Try.func20, Try.ntmps20
 go_upto_region 1 with (fail)
 refine letterW ?_
 intro wA hwA
 have hrT : wA.heap[b0]? = some (.cells #[.int .i64 t.k, .int .i64 t.d, .int .i64 t.f, .int .i64 t.p, .int .u32 t.l, .int .i64 t.i, .slice t.ka t.kl t.kc, .slice t.sa t.sl t.sc, .slice t.pa t.pl t.pc] 26 (0, 0)) := by rw [hwA]; exact (Below.heap_alloc _ _ _ (by simp; omega)).trans (World.alloc_new_at _ _ hb0.symm)
 have hrS : wA.heap[b0 + 1]? = some (.cells #[.int .i64 (row : Nat), .int .u64 (at_ : Nat), .int .u64 (q2 : Nat), .int .u64 (q3 : Nat), .bool q4, .bool q5] 44 (0, 0)) := by rw [hwA]; exact World.alloc_new_at _ _ (by simp; omega)
 have hbA : Below b0 w wA := by rw [hwA, ← hb0]; exact ((Below.refl _ _).alloc (Nat.le_refl _) _).alloc (by simp) _
 have hsA : b0 + 1 < wA.heap.size := (Array.getElem?_eq_some_iff.1 hrS).1
 clear hwA
 have k0 : wA.cell? ⟨b0 + 1, 0, none⟩ = some (.int .i64 (row : Nat)) := cell_of_heap hrS 0
 have k1 : wA.cell? ⟨b0 + 1, 1, none⟩ = some (.int .u64 (at_ : Nat)) := cell_of_heap hrS 1
 go_wp2_with ((with_reducible show wpList _ _ _ (Oper.mk _ (Op.load 26 _) _ _ _ _ :: _) _ _); refine wpList_load_row rfl 26 _ rfl b0 rfl _ _ _ _ hrT Try.underlying26 rfl (by kernel_rfl) ?_)
 refine (HPA.out wA hbA).mono ?_; rintro e w2 ⟨sv, pv, rfl, hsv, hpv, hb2⟩
 have HRT := hid (rowStay hrT hb2)
 have HRS := hid (rowStay hrS hb2)
 have HB2 := hid (hbA.trans (hb2.mono (by omega)))
 have hs2 := hb2.size
 have HSV := hid hsv
 have HPV := hid hpv
 obtain ⟨sv1, sv2, sv3, rfl⟩ : ∃ a n c, sv = .slice a n c := by
  rcases hsv with ⟨rfl, -⟩ | ⟨-, ho⟩
  ·exact ⟨_, _, _, rfl⟩
  ·exact own_slice ho
 obtain ⟨pv1, pv2, pv3, rfl⟩ : ∃ a n c, pv = .slice a n c := by
  rcases hpv with ⟨rfl, -⟩ | ⟨-, ho⟩
  ·exact ⟨_, _, _, rfl⟩
  ·exact own_slice ho
 clear hsv hpv hb2 hrT hrS hbA k0 k1 HPA HSP
 go_upto_region 2 with ((with_reducible show wpList _ _ _ (Oper.mk none (Op.store 78 _ _) _ _ _ _ :: _) _ _); refine wpList_store_row rfl 78 _ _ rfl w2.heap.size #[.int .i64 t.d, .int .i64 (t.kl : Nat), .int .i64 t.f, .int .i64 t.p, .int .u32 t.l, .int .u64 (at_ : Nat), .int .u32 0, .int .i64 (row : Nat), .int .i64 t.i, .slice sv1 sv2 sv3, .slice pv1 pv2 pv3] rfl rfl 78 _ (World.alloc_heap_new _ _) (by kernel_rfl) rfl (by simp [Value.oneCell']) ?_)
 refine letterW ?_
 intro V hV
 obtain ⟨b3, hb3⟩ : ∃ b3, w2.heap.size = b3 := ⟨_, rfl⟩
 have hrP : V.heap[b3]? = some (.cells #[.int .i64 t.d, .int .i64 (t.kl : Nat), .int .i64 t.f, .int .i64 t.p, .int .u32 t.l, .int .u64 (at_ : Nat), .int .u32 0, .int .i64 (row : Nat), .int .i64 t.i, .slice sv1 sv2 sv3, .slice pv1 pv2 pv3] 78 (0, 0)) := by rw [hV, ← hb3]; exact setRow_heap _ _ _ _ _ _ (World.alloc_heap_new _ _)
 have hbV : Below b3 w2 V := by rw [hV, ← hb3]; exact below_setRow ((Below.refl _ _).alloc (Nat.le_refl _) _) (Nat.le_refl _) _
 have HBV := hid (show Below b0 w V from HB2.out.trans (hbV.mono (by omega)))
 have HRT3 := hid ((hbV.block b0 (by omega)).trans HRT.out)
 have HRS3 := hid ((hbV.block (b0 + 1) (by omega)).trans HRS.out)
 have HEV := hid (HEN.out V wA.heap.size (.slice sv1 sv2 sv3) (.slice pv1 pv2 pv3) (side_below HSV.out (hb3 ▸ hbV)) (side_below HPV.out (hb3 ▸ hbV)))
 have hVs : b3 < V.heap.size := (Array.getElem?_eq_some_iff.1 hrP).1
 have hVs0 : b0 + 1 < V.heap.size := by omega
 have hVs1 : b0 < V.heap.size := by omega
 rw [hb3]
 have c0 : V.cell? ⟨b0, 0, none⟩ = some (.int .i64 t.k) := cell_of_heap HRT3.out 0
 clear hV hbV HB2 HRT HRS hb3 HEN HSV HPV
 go_wp2_with ((with_reducible show wpList _ _ _ (Oper.mk _ (Op.load 78 _) _ _ _ _ :: _) _ _); refine wpList_load_row rfl 78 _ rfl b3 rfl _ _ _ _ hrP Try.underlying78 rfl (by kernel_rfl) ?_)
 refine HEV.out.mono ?_; rintro e w4 ⟨⟨bv, rfl, hbo⟩, hb4⟩
 obtain ⟨a5, n5, k5, rfl⟩ := own_slice hbo
 have hrT4 := rowStay HRT3.out hb4
 have hrS4 := rowStay HRS3.out hb4
 have HRT4 := hid hrT4
 have HRS4 := hid hrS4
 have hs4 := hb4.size
 have HBO := hid hbo
 have HB4 := hid (show Below b0 w w4 from HBV.out.trans (hb4.mono (by omega)))
 have c0 : w4.cell? ⟨b0, 0, none⟩ = some (.int .i64 t.k) := cell_of_heap hrT4 0
 have c5 : w4.cell? ⟨b0, 5, none⟩ = some (.int .i64 t.i) := cell_of_heap hrT4 5
 have d4 : w4.cell? ⟨b0 + 1, 4, none⟩ = some (.bool q4) := cell_of_heap hrS4 4
 have hb0w : b0 + 1 < w4.heap.size ∧ b0 < w4.heap.size := by omega
 clear hb4 hbo hrT4 hrS4 hrP HEV HBV HRT3 HRS3 hVs
 go_upto_region 4 with ((with_reducible show wpList _ _ _ (Oper.mk none (Op.store 61 _ _) _ _ _ _ :: _) _ _); refine wpList_store_row rfl 61 _ _ rfl w4.heap.size #[.int .i64 t.k, .slice a5 n5 k5, .slice none 0 0, .bool q4, .int .i64 t.i, .slice da ds.length dc] rfl rfl 61 _ (World.alloc_heap_new _ _) (by kernel_rfl) rfl (by simp [Value.oneCell']) ?_)
 refine letterW ?_
 intro U hU
 obtain ⟨b4, hb4⟩ : ∃ b4, w4.heap.size = b4 := ⟨_, rfl⟩
 have hrV : U.heap[b4]? = some (.cells #[.int .i64 t.k, .slice a5 n5 k5, .slice none 0 0, .bool q4, .int .i64 t.i, .slice da ds.length dc] 61 (0, 0)) := by rw [hU, ← hb4]; exact setRow_heap _ _ _ _ _ _ (World.alloc_heap_new _ _)
 have hbU : Below b4 w4 U := by rw [hU, ← hb4]; exact below_setRow ((Below.refl _ _).alloc (Nat.le_refl _) _) (Nat.le_refl _) _
 rw [hb4]
 have HG0 := hid (show U.heap[b4]? = some (.cells #[.int .i64 t.k, .slice a5 n5 k5, .slice none 0 0, .bool q4, .int .i64 t.i, .slice da ds.length dc] 61 (0, 0)) ∧ U.heap[b0]? = some (.cells #[.int .i64 t.k, .int .i64 t.d, .int .i64 t.f, .int .i64 t.p, .int .u32 t.l, .int .i64 t.i, .slice t.ka t.kl t.kc, .slice t.sa t.sl t.sc, .slice t.pa t.pl t.pc] 26 (0, 0)) ∧ U.heap[b0 + 1]? = some (.cells #[.int .i64 (row : Nat), .int .u64 (at_ : Nat), .int .u64 (q2 : Nat), .int .u64 (q3 : Nat), .bool q4, .bool q5] 44 (0, 0)) ∧ Below b0 w U ∧ U.ownsRow b0 5 1 (.slice a5 n5 k5) (mB t.big) ((blkP t.big (t.vN row at_) z1 z2).map encB) from ⟨hrV, (hbU.block b0 (by omega)).trans HRT4.out, (hbU.block (b0 + 1) (by omega)).trans HRS4.out, HB4.out.trans (hbU.mono (by omega)), ownsRow_le (ownsRow_same' HBO.out (fun g _ g2 => hbU.block g (by omega))) (by omega)⟩)
 have hlt : b0 + 1 < b4 := by omega
 clear hU hb4 hrV hbU HRT4 HRS4 HB4 HBO c0 c5 d4 hb0w hs4 hVs0 hVs1 hs2 hsA
 have d5 : U.cell? ⟨b0 + 1, 5, none⟩ = some (.bool q5) := cell_of_heap HG0.out.2.2.1 5
 have hsU : b4 < U.heap.size ∧ b0 < U.heap.size ∧ b0 + 1 < U.heap.size := by have := (Array.getElem?_eq_some_iff.1 HG0.out.1).1; omega
 obtain ⟨hsU, hsU0, hsU1⟩ := hsU
 have c1 : U.cell? ⟨b0, 1, none⟩ = some (.int .i64 t.d) := cell_of_heap HG0.out.2.1 1
 have c4 : U.cell? ⟨b4, 4, none⟩ = some (.int .i64 t.i) := cell_of_heap HG0.out.1 4
 have f4 := frozen_of_row U b4 4 _ _ HG0.out.1
 go_upto_if 43 with (fail)
 go_cut [13] (fun u W => u = .pointer (some ⟨b4, 0, none⟩) ∧ W.heap[b4]? = some (.cells #[.int .i64 t.k, .slice a5 n5 k5, .slice none 0 0, .bool q4, .int .i64 (t.outN q5), .slice da ds.length dc] 61 (0, 0)) ∧ W.heap[b0]? = some (.cells #[.int .i64 t.k, .int .i64 t.d, .int .i64 t.f, .int .i64 t.p, .int .u32 t.l, .int .i64 t.i, .slice t.ka t.kl t.kc, .slice t.sa t.sl t.sc, .slice t.pa t.pl t.pc] 26 (0, 0)) ∧ W.heap[b0 + 1]? = some (.cells #[.int .i64 (row : Nat), .int .u64 (at_ : Nat), .int .u64 (q2 : Nat), .int .u64 (q3 : Nat), .bool q4, .bool q5] 44 (0, 0)) ∧ Below b0 w W ∧ W.ownsRow b0 5 1 (.slice a5 n5 k5) (mB t.big) ((blkP t.big (t.vN row at_) z1 z2).map encB))
 case first =>
  cases q5
  ·go_wp2_with fail
   go_meet
   case rel => exact ⟨rfl, HG0.out⟩
  ·go_wp2_with fail
   go_meet
   case rel =>
    obtain ⟨r1, r2, r3, r4, r5⟩ := HG0.out
    exact ⟨rfl, heap_setCell_same U b4 4 _ _ (.int .i64 t.d) r1, (heap_setCell_other U ⟨b4, 4, none⟩ b0 (.int .i64 t.d) (show b0 ≠ b4 by omega)).trans r2, (heap_setCell_other U ⟨b4, 4, none⟩ (b0 + 1) (.int .i64 t.d) (show b0 + 1 ≠ b4 by omega)).trans r3, r4.setCell (show b0 ≤ b4 by omega) _, ownsRow_setCell_ty r5 r1 4 (.int .i64 t.d) (by decide)⟩
 case rest =>
  obtain ⟨rfl, hg1⟩ := hcut
  have HG1 := hid hg1
  clear hg1 HG0 d5 hsU hsU0 hsU1 c1 c4 f4
  clear U
  have hsU : b4 < wc.heap.size ∧ b0 < wc.heap.size ∧ b0 + 1 < wc.heap.size := by have := (Array.getElem?_eq_some_iff.1 HG1.out.1).1; omega
  obtain ⟨hsU, hsU0, hsU1⟩ := hsU
  have d0 : wc.cell? ⟨b0 + 1, 0, none⟩ = some (.int .i64 (row : Nat)) := cell_of_heap HG1.out.2.2.1 0
  have c6 : wc.cell? ⟨b0, 6, none⟩ = some (.slice t.ka t.kl t.kc) := cell_of_heap HG1.out.2.1 6
  have c2 : wc.cell? ⟨b4, 2, none⟩ = some (.slice none 0 0) := cell_of_heap HG1.out.1 2
  have f2 := frozen_of_row wc b4 2 _ _ HG1.out.1
  obtain ⟨U, rfl⟩ : ∃ U, U = wc := ⟨_, rfl⟩
  go_upto_if 49 with (fail)
  go_cut [13] (fun u W => u = .pointer (some ⟨b4, 0, none⟩) ∧ ∃ a6 n6 c6, Hold W (.slice a6 n6 c6) (keyL row kz) ∧ W.heap[b4]? = some (.cells #[.int .i64 t.k, .slice a5 n5 k5, .slice a6 n6 c6, .bool q4, .int .i64 (t.outN q5), .slice da ds.length dc] 61 (0, 0)) ∧ W.heap[b0]? = some (.cells #[.int .i64 t.k, .int .i64 t.d, .int .i64 t.f, .int .i64 t.p, .int .u32 t.l, .int .i64 t.i, .slice t.ka t.kl t.kc, .slice t.sa t.sl t.sc, .slice t.pa t.pl t.pc] 26 (0, 0)) ∧ W.heap[b0 + 1]? = some (.cells #[.int .i64 (row : Nat), .int .u64 (at_ : Nat), .int .u64 (q2 : Nat), .int .u64 (q3 : Nat), .bool q4, .bool q5] 44 (0, 0)) ∧ Below b0 w W ∧ W.ownsRow b0 5 1 (.slice a5 n5 k5) (mB t.big) ((blkP t.big (t.vN row at_) z1 z2).map encB))
  case first =>
   by_cases hrow : row = 0
   ·have hq : (row : Int) = 0 := by omega
    go_wp2_with fail
    go_meet
    case rel =>
     obtain ⟨r1, r2, r3, r4, r5⟩ := HG1.out
     have hb9 : Below b0 w (U.setCell ⟨b4, 2, none⟩ (.slice t.ka t.kl t.kc)) := r4.setCell (show b0 ≤ b4 by omega) _
     exact ⟨rfl, _, _, _, (by unfold keyL; rw [if_pos hrow]; exact HKZ.out.below (hb0 ▸ hb9)), heap_setCell_same U b4 2 _ _ _ r1, (heap_setCell_other U ⟨b4, 2, none⟩ b0 _ (show b0 ≠ b4 by omega)).trans r2, (heap_setCell_other U ⟨b4, 2, none⟩ (b0 + 1) _ (show b0 + 1 ≠ b4 by omega)).trans r3, hb9, ownsRow_setCell_ty r5 r1 2 _ (by decide)⟩
   ·have hq : ¬ ((row : Int) = 0) := by omega
    go_wp2_with fail
    go_meet
    case rel => exact ⟨rfl, none, 0, 0, (by unfold keyL; rw [if_neg hrow]; exact Hold.nil _), HG1.out⟩
  case rest =>
   obtain ⟨rfl, a6, n6, c6', hk, r1, r2, r3, r4, r5⟩ := hcut
   have HR1 := hid r1
   have HCALL := hid (HNO.out wc r4 (.slice a5 n5 k5) (.slice a6 n6 c6') b0 r5 hk)
   have HB9 := hid r4
   have hs9 : b4 < wc.heap.size := (Array.getElem?_eq_some_iff.1 r1).1
   clear hk r1 r2 r3 r4 r5 HG1 HNO d0 c6 c2 f2 hsU hsU0 hsU1
   go_wp2_with ((with_reducible show wpList _ _ _ (Oper.mk _ (Op.load 61 _) _ _ _ _ :: _) _ _); refine wpList_load_row rfl 61 _ rfl b4 rfl _ _ _ _ HR1.out Try.underlying61 rfl (by kernel_rfl) ?_)
   refine HCALL.out.mono ?_; rintro e w9 ⟨u, rfl, hu, hb9⟩
   have HU := hid (hu.le (show b0 ≤ wc.heap.size by omega))
   have HBF := hid (HB9.out.trans (hb9.mono (show b0 ≤ wc.heap.size by omega)))
   clear hu hb9
   go_wp2_with fail
   go_ret
   exact ⟨_, rfl, by rw [hb0]; exact HU.out, by rw [hb0]; exact HBF.out⟩
/-- A node of a way that is there, and may be hashed. -/
structure SpotOk (t : TreeV) (total : Nat) (S : SpotV) : Prop where
 p : ParOk t.big (t.vN S.row S.at_)
 r : S.row ≤ 255
 e : t.spotE total (S.row : Nat) S.at_ = 0
 s : t.spotR total (S.row : Nat) S.at_ = S
def TreeV.giveZ (t : TreeV) (kz z1 z2 : List Int) (S : SpotV) (ds : List Int) : List Int := t.node kz z1 z2 S.row S.at_ S.last S.root ds
theorem giveS_ok (t : TreeV) (kz z1 z2 ds : List Int) (total : Nat) (ht : (total : Int) ≤ 18446744073709551615) (S : SpotV) (da : Option Addr) (dc : Nat) (w : World) (h : TreeOk t kz z1 z2 w) (hS : SpotOk t total S) (hd : Hold w (.slice da ds.length dc) ds) (hdl : ds.length ≤ 1073741824) :
  Calls Try.prog 20 #[t.val, .int .u64 total, .agg #[.int .i64 (S.row : Nat), .int .u64 (S.at_ : Nat), .int .u64 (S.frm : Nat), .int .u64 (S.to_ : Nat), .bool S.last, .bool S.root], .slice da ds.length dc] w fun e w' => ∃ u, e = .returned u ∧ OwnB w.heap.size w' u (t.giveZ kz z1 z2 S ds) ∧ Below w.heap.size w w' :=
 give_ok t kz z1 z2 ds total ht S.row S.at_ S.frm S.to_ S.last S.root da dc w h hS.p hS.r hS.e hS.s hd hdl
theorem root1_ok (t : TreeV) (kz z1 z2 ds : List Int) (total : Nat) (ht : (total : Int) ≤ 18446744073709551615) (S : SpotV) (bt bp bl : Nat) (leaf : Nat) (u : Value) (da : Option Addr) (dc : Nat) (w : World) (h : TreeOk t kz z1 z2 w) (hS : SpotOk t total S) (hd : Hold w (.slice da ds.length dc) ds) (hdl : ds.length ≤ 1073741824)
  (hT : w.heap[bt]? = some (.cells #[.int .i64 t.k, .int .i64 t.d, .int .i64 t.f, .int .i64 t.p, .int .u32 t.l, .int .i64 t.i, .slice t.ka t.kl t.kc, .slice t.sa t.sl t.sc, .slice t.pa t.pl t.pc] 26 (0, 0))) (hp : w.heap[bp]? = some (.cells #[.int .u64 total, .int .u64 leaf, u] 31 (0, 0))) (hs : w.heap[bl]? = some (.cells #[.int .i64 (S.row : Nat), .int .u64 (S.at_ : Nat), .int .u64 (S.frm : Nat), .int .u64 (S.to_ : Nat), .bool S.last, .bool S.root] 44 (0, 0))) :
  Calls Try.prog 19 #[.slice da ds.length dc, .pointer (some ⟨bt, 0, none⟩), .pointer (some ⟨bp, 0, none⟩), .pointer (some ⟨bl, 0, none⟩)] w fun e w' => ∃ u, e = .returned u ∧ OwnB w.heap.size w' u (t.giveZ kz z1 z2 S ds) ∧ Below w.heap.size w w' := by
 have HG := hid (giveS_ok t kz z1 z2 ds total ht S da dc w h hS hd hdl)
 have c0 : w.cell? ⟨bp, 0, none⟩ = some (.int .u64 total) := cell_of_heap hp 0
 have hpl := (Array.getElem?_eq_some_iff.1 hp).1
 clear h hS hd hdl ht
 unfold TreeV.val at HG
 go_enter Try.func19, Try.ntmps19
 go_wp2_with (first | ((with_reducible show wpList _ _ _ (Oper.mk _ (Op.load 26 _) _ _ _ _ :: _) _ _); refine wpList_load_row rfl 26 _ rfl bt rfl _ _ _ _ hT Try.underlying26 rfl (by kernel_rfl) ?_) | ((with_reducible show wpList _ _ _ (Oper.mk _ (Op.load 44 _) _ _ _ _ :: _) _ _); refine wpList_load_row rfl 44 _ rfl bl rfl _ _ _ _ hs Try.underlying44 rfl (by kernel_rfl) ?_))
 refine HG.out.mono ?_; rintro e w2 ⟨x, rfl, hx, hb2⟩
 have HX := hid hx
 have HB := hid hb2
 clear hx hb2
 go_wp2_with fail
 go_ret
 exact ⟨_, rfl, HX.out, HB.out⟩
/-- What a node above hashes: the digests before, what came up, the digests behind. -/
def midL (st : StepV) (D : List Int) : List Int := rowL st.1 st.1.length ++ D ++ rowL st.2 st.2.length
theorem rowL_le {m : Nat} {ds : List (List Int)} (h : ∀ d ∈ ds, d.length ≤ m) : ∀ k, k ≤ ds.length → (rowL ds k).length ≤ k * m
 | 0, _ => Nat.zero_le _
 | k + 1, hk => by
  have h1 := rowL_le h k (by omega)
  have h2 := h _ (nthd_mem (k := k) (by omega))
  simp only [rowL, List.length_append, Nat.add_mul, Nat.one_mul]
  omega
theorem root2_ok (t : TreeV) (kz z1 z2 D : List Int) (total : Nat) (ht : (total : Int) ≤ 18446744073709551615) (S : SpotV) (ch : Value) (st : StepV) (bt bp bi bg bu ou k n uc leaf : Nat) (U V da : Value) (w : World) (h : TreeOk t kz z1 z2 w) (hS : SpotOk t total S) (hd : Hold w da D) (hD1 : D ≠ []) (hdl : D.length ≤ 64) (hi1 : 1 ≤ t.i ∧ t.i ≤ 64)
  (hT : w.heap[bt]? = some (.cells #[.int .i64 t.k, .int .i64 t.d, .int .i64 t.f, .int .i64 t.p, .int .u32 t.l, .int .i64 t.i, .slice t.ka t.kl t.kc, .slice t.sa t.sl t.sc, .slice t.pa t.pl t.pc] 26 (0, 0))) (hp : w.heap[bp]? = some (.cells #[.int .u64 total, .int .u64 leaf, .slice (some ⟨bu, ou, none⟩) n uc] 31 (0, 0))) (hi : w.heap[bi]? = some (.cells #[.int .i64 (k : Nat)] 3 (0, 0))) (hg : w.heap[bg]? = some (.cells #[.int .i64 (S.row : Nat), .int .u64 (S.at_ : Nat), .int .u64 (S.frm : Nat), .int .u64 (S.to_ : Nat), .bool S.last, .bool S.root, ch] 46 (0, 0)))
  (hk : k < n) (hU : w.cell? ⟨bu, ou + k * 2, none⟩ = some U) (hV : w.cell? ⟨bu, ou + k * 2 + 1, none⟩ = some V) (hbu : bu < w.heap.size) (hRU : pRowsAt w U st.1) (hRV : pRowsAt w V st.2) (hok : RowOk 1048576 st.1 ∧ RowOk 1048576 st.2) (hlen : ∀ d ∈ st.1 ++ st.2, (d.length : Int) = t.i) :
  Calls Try.prog 21 #[da, .pointer (some ⟨bp, 0, none⟩), .pointer (some ⟨bi, 0, none⟩), .pointer (some ⟨bt, 0, none⟩), .pointer (some ⟨bg, 0, none⟩)] w fun e w' => ∃ u, e = .returned u ∧ OwnB w.heap.size w' u (t.giveZ kz z1 z2 S (midL st D)) ∧ Below w.heap.size w w' := by
 obtain ⟨b0, hb0⟩ : ∃ b0, w.heap.size = b0 := ⟨_, rfl⟩
 obtain ⟨a0, c0, rfl, -, -⟩ := id hd.slice
 have HD := hid hd
 have c2 : w.cell? ⟨bp, 2, none⟩ = some (.slice (some ⟨bu, ou, none⟩) n uc) := cell_of_heap hp 2
 have ci : w.cell? ⟨bi, 0, none⟩ = some (.int .i64 (k : Nat)) := cell_of_heap hi 0
 have hpl := (Array.getElem?_eq_some_iff.1 hp).1
 have hil := (Array.getElem?_eq_some_iff.1 hi).1
 have hki : (k : Int) < (n : Int) := by omega
 have HT := hid hT
 have HP := hid hp
 have HI := hid hi
 have HGG := hid hg
 have HRU := hid hRU
 have HRV := hid hRV
 obtain ⟨au, ku, VU, eu, -, -⟩ := id hRU
 obtain ⟨av, kv, VV, ev, -, -⟩ := id hRV
 rw [eu] at hU HRU
 rw [ev] at hV HRV
 have hl1 : ∀ d ∈ st.1, d.length = t.i.toNat := fun d hd => by have := hlen d (List.mem_append_left _ hd); omega
 have hl2 : ∀ d ∈ st.2, d.length = t.i.toNat := fun d hd => by have := hlen d (List.mem_append_right _ hd); omega
 have HR1 := hid (rowL_le (m := 64) (fun d hd => by have := hl1 d hd; omega))
 have HR2 := hid (rowL_le (m := 64) (fun d hd => by have := hl2 d hd; omega))
 have HL1 := hid hl1
 have HL2 := hid hl2
 have HA1 := hid (fun d hd => (hok.1.2 d hd).2)
 have HA2 := hid (fun d hd => (hok.2.2 d hd).2)
 obtain ⟨nb, hnb⟩ : ∃ nb, st.1.length = nb := ⟨_, rfl⟩
 obtain ⟨na, hna⟩ : ∃ na, st.2.length = na := ⟨_, rfl⟩
 have hnb1 : nb ≤ 1048576 := by rw [← hnb]; exact hok.1.1
 have hna1 : na ≤ 1048576 := by rw [← hna]; exact hok.2.1
 rw [hnb] at hU HRU HR1
 rw [hna] at hV HRV HR2
 have HNB := hid hnb
 have HNA := hid hna
 have HMID := hid (show midL st D = rowL st.1 nb ++ D ++ rowL st.2 na by unfold midL; rw [hnb, hna])
 have HGV := hid (fun (W : World) (hb : Below b0 w W) (xa : Option Addr) (xc : Nat) (hx : Hold W (.slice xa (rowL st.1 nb ++ D ++ rowL st.2 na).length xc) (rowL st.1 nb ++ D ++ rowL st.2 na)) (hxl : (rowL st.1 nb ++ D ++ rowL st.2 na).length ≤ 1073741824) => giveS_ok t kz z1 z2 (rowL st.1 nb ++ D ++ rowL st.2 na) total ht S xa xc W (h.below (hb0 ▸ hb)) hS hx hxl)
 clear h hS hd hT hp hi hg hRU hRV hok hlen hl1 hl2 hnb hna eu ev ht
 go_enter Try.func21, Try.ntmps21
 go_wp2_with fail
 go_loopw [19, 7] (fun i o wr => ∃ (j : Nat) (v : Value), i = .int .i64 j ∧ o = v ∧ j ≤ nb ∧ wr.ownsRow b0 5 1 v (rowL st.1 j).length ((rowL st.1 j).map encB) ∧ Below b0 w wr) (fun i _ _ => nb - (intOf i).toNat)
 case atStart => exact ⟨0, _, rfl, rfl, Nat.zero_le _, World.ownsRow_nil _ _ _ _, Below.refl _ _⟩
 case round =>
  obtain ⟨j, v, rfl, rfl, hj, hown, hb⟩ := hrel
  have hsr : b0 ≤ wr.heap.size := by have := hb.size; omega
  by_cases hlt : j < nb
  case pos =>
   have hlt2 : (j : Int) < (nb : Int) := by omega
   obtain ⟨-, b', o', x, cx, rfl, hb', hcell, hh8⟩ := pRowsAt.elem (HRU.out.below (hb0 ▸ hb)) hlt
   have hlz : (nthd st.1 j).length = t.i.toNat := HL1.out _ (nthd_mem (by have := HNB.out; omega))
   have hne : nthd st.1 j ≠ [] := fun e => by rw [e] at hlz; simp at hlz; omega
   have hln : (rowL st.1 j).length + (nthd st.1 j).length ≤ 1099511627776 := by
    have := HR1.out j (by omega)
    omega
   have HOW := hid hown
   have HB := hid hb
   clear hown hb hlz
   go_wp2_with (at_builtin; refine append_bytes rfl _ _ rfl b0 (rowL st.1 j) _ rfl HOW.out _ (nthd st.1 j) rfl hh8 hne hln hsr ?_; intro v' w' hown' hgrow)
   refine ⟨⟨j + 1, v', by go_num, rfl, by omega, by rw [rowL]; exact hown', HB.out.grown hgrow hsr (fun k e => (HOW.out.lt k e).1)⟩, by simp [intOf] <;> omega⟩
  obtain rfl : j = nb := by omega
  have hlD : (rowL st.1 j).length + D.length ≤ 1099511627776 := by
   have := HR1.out j (by omega)
   omega
  have hD8 := (HD.out.below (hb0 ▸ hb)).holds8
  have HOW := hid hown
  have HB := hid hb
  have c2r : wr.cell? ⟨bp, 2, none⟩ = some (.slice (some ⟨bu, ou, none⟩) n uc) := cell_of_heap (rowStay HP.out (hb0 ▸ hb)) 2
  have cir : wr.cell? ⟨bi, 0, none⟩ = some (.int .i64 (k : Nat)) := cell_of_heap (rowStay HI.out (hb0 ▸ hb)) 0
  clear hown hb
  go_upto_region 8 with (at_builtin; refine append_bytes rfl _ _ rfl b0 (rowL st.1 j) _ rfl HOW.out _ D rfl hD8 hD1 hlD hsr ?_; intro v' w' hown' hgrow)
  have hb2 := HB.out.grown hgrow hsr (fun k e => (HOW.out.lt k e).1)
  have HO2 := hid hown'
  have HB2 := hid hb2
  have hs2 : b0 ≤ w'.heap.size := by have := hb2.size; omega
  have c2q : w'.cell? ⟨bp, 2, none⟩ = some (.slice (some ⟨bu, ou, none⟩) n uc) := cell_of_heap (rowStay HP.out (hb0 ▸ hb2)) 2
  have ciq : w'.cell? ⟨bi, 0, none⟩ = some (.int .i64 (k : Nat)) := cell_of_heap (rowStay HI.out (hb0 ▸ hb2)) 0
  have hplq : bp < w'.heap.size := by omega
  have hilq : bi < w'.heap.size := by omega
  have cVq : w'.cell? ⟨bu, ou + k * 2 + 1, none⟩ = some (.slice av na kv) := ((hb0 ▸ hb2 : Below w.heap.size w w').cell (p := ⟨bu, ou + k * 2 + 1, none⟩) hbu).trans hV
  have hbuq : bu < w'.heap.size := by omega
  clear HOW HB hown' hgrow hb2 hD8 c2r cir hsr
  clear wr
  go_wp2_with fail
  go_loopw [37, 7] (fun i o wr => ∃ (j2 : Nat) (v : Value), i = .int .i64 j2 ∧ o = v ∧ j2 ≤ na ∧ wr.ownsRow b0 5 1 v (rowL st.1 j ++ D ++ rowL st.2 j2).length ((rowL st.1 j ++ D ++ rowL st.2 j2).map encB) ∧ Below b0 w wr) (fun i _ _ => na - (intOf i).toNat)
  case atStart => exact ⟨0, _, rfl, rfl, Nat.zero_le _, by rw [show rowL st.2 0 = [] from rfl, List.append_nil]; exact HO2.out, HB2.out⟩
  case round =>
   clear HO2 HB2 hs2 c2q ciq hplq hilq cVq hbuq
   obtain ⟨j2, v, rfl, rfl, hj2, hown, hb⟩ := hrel
   have hsr : b0 ≤ wr.heap.size := by have := hb.size; omega
   have hl0 := HR1.out j (by omega)
   have hl2 := HR2.out j2 (by omega)
   by_cases hlt : j2 < na
   case pos =>
    have hlt2 : (j2 : Int) < (na : Int) := by omega
    obtain ⟨-, b', o', x, cx, rfl, hb', hcell, hh8⟩ := pRowsAt.elem (HRV.out.below (hb0 ▸ hb)) hlt
    have hlz : (nthd st.2 j2).length = t.i.toNat := HL2.out _ (nthd_mem (by have := HNA.out; omega))
    have hne : nthd st.2 j2 ≠ [] := fun e => by rw [e] at hlz; simp at hlz; omega
    have hln : (rowL st.1 j ++ D ++ rowL st.2 j2).length + (nthd st.2 j2).length ≤ 1099511627776 := by
     rw [List.length_append, List.length_append]
     omega
    have HOW := hid hown
    have HB := hid hb
    clear hown hb hlz hl0 hl2
    go_wp2_with (at_builtin; refine append_bytes rfl _ _ rfl b0 (rowL st.1 j ++ D ++ rowL st.2 j2) _ rfl HOW.out _ (nthd st.2 j2) rfl hh8 hne hln hsr ?_; intro v' w' hown' hgrow)
    refine ⟨⟨j2 + 1, v', by go_num, rfl, by omega, by rw [show rowL st.1 j ++ D ++ rowL st.2 (j2 + 1) = rowL st.1 j ++ D ++ rowL st.2 j2 ++ nthd st.2 j2 by simp [rowL]]; exact hown', HB.out.grown hgrow hsr (fun k e => (HOW.out.lt k e).1)⟩, by simp [intOf] <;> omega⟩
   obtain rfl : j2 = na := by omega
   obtain ⟨va, vn, vc, rfl⟩ := own_slice hown
   obtain rfl := own_len hown
   have hbz : ∀ z ∈ rowL st.1 j ++ D ++ rowL st.2 j2, 0 ≤ z ∧ z ≤ 255 := by
    have key : ∀ (ds : List (List Int)) (h : ∀ d ∈ ds, AllBytes d) (q : Nat), q ≤ ds.length → ∀ z ∈ rowL ds q, 0 ≤ z ∧ z ≤ 255 := by
     intro ds h q
     induction q with
     | zero => intro _ z hz; cases hz
     | succ q ih =>
      intro hq z hz
      rcases List.mem_append.1 hz with h8 | h8
      ·exact ih (by omega) z h8
      ·exact h _ (nthd_mem (by omega)) z h8
    intro z hz
    rcases List.mem_append.1 hz with h8 | h8
    ·rcases List.mem_append.1 h8 with h9 | h9
     ·exact key _ HA1.out _ (by have := HNB.out; omega) z h9
     ·exact HD.out.1 z h9
    ·exact key _ HA2.out _ (by have := HNA.out; omega) z h8
   have hgv := HGV.out wr hb va vc (hold_of_own hown hbz) (by rw [List.length_append, List.length_append]; omega)
   rw [← HMID.out] at hgv hown ⊢
   have HGV2 := hid hgv
   have HB := hid hb
   have hTr := rowStay HT.out (hb0 ▸ hb)
   have hGr := rowStay HGG.out (hb0 ▸ hb)
   have c0r : wr.cell? ⟨bp, 0, none⟩ = some (.int .u64 total) := cell_of_heap (rowStay HP.out (hb0 ▸ hb)) 0
   have hplr : bp < wr.heap.size := by omega
   clear hgv hown hb hbz HGV hl0 hl2
   unfold TreeV.val at HGV2
   have gc0 : wr.cell? ⟨bg, 0, none⟩ = some (.int .i64 (S.row : Nat)) := cell_of_heap hGr 0
   have gc1 : wr.cell? ⟨bg, 1, none⟩ = some (.int .u64 (S.at_ : Nat)) := cell_of_heap hGr 1
   have gc2 : wr.cell? ⟨bg, 2, none⟩ = some (.int .u64 (S.frm : Nat)) := cell_of_heap hGr 2
   have gc3 : wr.cell? ⟨bg, 3, none⟩ = some (.int .u64 (S.to_ : Nat)) := cell_of_heap hGr 3
   have gc4 : wr.cell? ⟨bg, 4, none⟩ = some (.bool S.last) := cell_of_heap hGr 4
   have gc5 : wr.cell? ⟨bg, 5, none⟩ = some (.bool S.root) := cell_of_heap hGr 5
   have hgr : bg < wr.heap.size := (Array.getElem?_eq_some_iff.1 hGr).1
   go_wp2_with ((with_reducible show wpList _ _ _ (Oper.mk _ (Op.load 26 _) _ _ _ _ :: _) _ _); refine wpList_load_row rfl 26 _ rfl bt rfl _ _ _ _ hTr Try.underlying26 rfl (by kernel_rfl) ?_)
   refine HGV2.out.mono ?_; rintro e w9 ⟨x, rfl, hx, hb9⟩
   have HX := hid (hx.le hsr)
   have HBF := hid (HB.out.trans (hb9.mono hsr))
   clear hx hb9
   go_wp2_with fail
   go_ret
   exact ⟨_, rfl, by rw [hb0]; exact HX.out, by rw [hb0]; exact HBF.out⟩
end Go.Proofs.Ytahenngmaoellaa
