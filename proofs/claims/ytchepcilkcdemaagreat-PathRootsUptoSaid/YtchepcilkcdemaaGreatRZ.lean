/- What a node on a leaf's way gives, by the program: path.give. No condition. -/
import Derived.Test.YtchepcilkcdemaaGreatR36
import Derived.Test.YtchepcilkcdemaaGreatR38
import Derived.Test.YtchepcilkcdemaaGreatR04
import Derived.Test.YtchepcilkcdemaaGreatR41
import Derived.Deep.DeepCutAuto
import Derived.Test.YtchepcilkcdemaaGreatR42
import Derived.Test.YtchepcilkcdemaaGreatR43
import Derived.Test.YtchepcilkcdemaaGreatR44
import Derived.Test.YtchepcilkcdemaaGreatR45
import Derived.Test.YtchepcilkcdemaaGreatR46
import Derived.Deep.CondSized
import Derived.JoinedCond
set_option linter.all false
set_option maxRecDepth 100000
set_option maxHeartbeats 8000000
namespace Go.Proofs.YtchepcilkcdemaaGreat
open Go.ChangeShapes Go.WideShapes Go.ChangeAt Go.RowKit Go.Joins Go.Shelf Go.Maps
open Go.Lib (hid)
attribute [local go_sem] Oper.semAt_some
theorem TreeV.parOk2 {t : TreeV} (h : t.validE = 0) (hl : 0 ≤ t.l ∧ t.l ≤ 4294967295) {row at_ : Nat} (hr : row ≤ 255) (ha : at_ < 18446744073709551616) (hs : t.k = 2 → at_ < 281474976710656) : ParOk t.big (t.vN row at_) := by
 obtain ⟨h1, h2, h3, h4, h5, h6, h7, h8, h9, h10, -, -⟩ := TreeV.valid_facts h
 obtain ⟨hm, -⟩ := TreeV.mB_big h
 have hb : t.big = false → at_ < 281474976710656 := fun e => hs (by
  have : t.k ≠ 1 := of_decide_eq_false e
  omega)
 refine ⟨⟨?_, ?_, ?_, ?_, ⟨?_, fun e => ?_⟩, ?_, ?_⟩, ?_, ?_, rfl⟩
 case refine_6 => have := hb e; simp only [TreeV.vN, if_true, if_false, Nat.reduceEqDiff]; omega
 all_goals simp only [TreeV.vN, if_true, if_false, Nat.reduceEqDiff]
 all_goals omega
theorem rows_first {f p total l : Nat} {L : List Nat} (h : RowsIs f p (lvs total l) L) : ∀ k, k < L.length → nth L k ≤ lvs total l
 | 0, _ => Nat.le_of_eq h.first
 | k + 1, hk => by
  have ih := rows_first h k (by omega)
  have h0 : 1 ≤ lvs total l := by unfold lvs; omega
  by_cases h1 : nth L (k + 1) = 1
  ·omega
  ·obtain ⟨e, hf⟩ := h.next_or hk h1
   rw [e]
   exact Nat.le_trans (cdiv_le (by omega)) ih
/-- A node that is there has a number that its parameters can bear. -/
theorem TreeV.parOk3 {t : TreeV} (hl : 0 ≤ t.l ∧ t.l ≤ 4294967295) {total row at_ : Nat} (ht : (total : Int) ≤ 18446744073709551615) (he : t.err total = 0) (hk : row < (t.rowsOf total).length) (ha : at_ < nth (t.rowsOf total) row) : ParOk t.big (t.vN row at_) ∧ row ≤ 255 := by
 obtain ⟨hl1, hl2, hln, h0⟩ := TreeV.ok_facts hl he
 have hR := TreeV.rows_is he
 have hvf := TreeV.valid_facts h0
 have hlen := hR.most
 have hpn : (t.pn : Int) ≤ 255 := by have := hvf.2.2.2.2.2.2.1; have := hvf.2.2.2.2.2.2.2.1; unfold TreeV.pn; omega
 have h3 := rows_le hl1 ht hR row hk
 have hr : row ≤ 255 := by omega
 refine ⟨TreeV.parOk2 h0 hl hr (by omega) (fun e => ?_), hr⟩
 have h4 := rows_first hR row hk
 have h5 : cdiv total t.ln ≤ 281474976710656 := by
  by_cases hc : 281474976710656 < cdiv total t.ln
  ·unfold TreeV.err at he
   rw [if_neg (by simp [h0]), if_pos ⟨e, hc⟩] at he
   omega
  ·omega
 unfold lvs at h4
 omega
theorem encodeS_any (big : Bool) (v : Nat → Nat) (z1 z2 : List Int) (sa pe : Value) (b : Nat) (w : World) (hP : ParOk big v) (h1 : SideIs b w z1 sa) (h2 : SideIs b w z2 pe) (hz1 : ∀ a ∈ z1, 0 ≤ a ∧ a ≤ 255) (hz2 : ∀ a ∈ z2, 0 ≤ a ∧ a ≤ 255) (hl1 : z1.length ≤ sB big) (hl2 : z2.length ≤ sB big) :
  Calls Tryz.prog 86 #[.int .i64 (kB big), parN v sa pe] w fun e w' => (∃ r, e = .returned (.tuple #[r, .int .i64 0]) ∧ w'.ownsRow w.heap.size 5 1 r (mB big) ((blkP big v z1 z2).map encB)) ∧ Below w.heap.size w w' := by
 obtain ⟨y1, k1, m1, e1⟩ := side_use h1 hz1
 obtain ⟨y2, k2, m2, e2⟩ := side_use h2 hz2
 rw [← blkP_side hl1 hl2 e1 e2]
 exact encode_ok big v y1 y2 sa pe w hP k1 k2 (Nat.le_trans m1 hl1) (Nat.le_trans m2 hl2)
theorem TreeOk.okD2 {t : TreeV} {kz z1 z2 : List Int} {w : World} (h : TreeOk t kz z1 z2 w) {row at_ : Nat} (hP : ParOk t.big (t.vN row at_)) :
  Go.Proofs.YtchepcilkcdemaaGreat.okD t.big false (t.blk z1 z2 row at_) ∧ keyBad (t.blk z1 z2 row at_) (keyL row kz) = false ∧ (∀ z ∈ t.blk z1 z2 row at_, 0 ≤ z ∧ z ≤ 255) ∧ ∀ rt : Bool, 1 ≤ t.outN rt ∧ t.outN rt ≤ (mB t.big : Nat) := by
 have hvf := TreeV.valid_facts h.v
 have hmb := TreeV.mB_big h.v
 have e1 := hold_len h.s
 have e2 := hold_len h.p
 have e3 := hold_len h.k
 obtain ⟨h1, h2⟩ := okD_blk (z1 := z1) (z2 := z2) hP (by omega) (by omega)
 refine ⟨h1, ?_, blkP_bounds h.s.1 h.p.1, fun rt => ?_⟩
 ·have h3 : nthz (t.blk z1 z2 row at_) 1 = (t.kl : Int) := h2
  unfold keyBad keyL
  rw [h3]
  refine decide_eq_false ?_
  split
  ·omega
  ·simp
 ·obtain ⟨-, d1, d2, d3, d4, -⟩ := hvf
  cases rt
  ·show 1 ≤ t.i ∧ t.i ≤ _; omega
  ·show 1 ≤ t.d ∧ t.d ≤ _; omega
theorem node_ok2 {t : TreeV} {kz z1 z2 : List Int} {w : World} (h : TreeOk t kz z1 z2 w) {row at_ : Nat} (hP : ParOk t.big (t.vN row at_)) (la rt : Bool) (ds : List Int) (dv bv kv : Value) (W : World) (b : Nat)
  (ho : W.ownsRow b 5 1 bv (mB t.big) ((t.blk z1 z2 row at_).map encB)) (hk : Hold W kv (keyL row kz)) (hd : Hold W dv ds) (hl : ds.length ≤ 1073741824) :
  Calls Tryz.prog 49 #[.agg (callC t.k bv kv la (t.outN rt) dv)] W fun e w' => ∃ u, e = .returned (.tuple #[u, .int .i64 0]) ∧ OwnB W.heap.size w' u (t.node kz z1 z2 row at_ la rt ds) ∧ Below W.heap.size W w' := by
 obtain ⟨h1, h2, h3, h4⟩ := h.okD2 hP
 rw [← TreeV.kB_big h.v]
 refine (nodeCall_any t.big _ _ ds la _ bv kv dv W (hold_of_own ho h3) hk hd (by omega) h1 h2 (h4 rt)).mono ?_
 rintro e w' ⟨⟨u, rfl, hu⟩, hb⟩
 exact ⟨u, rfl, ⟨TreeV.node_bounds t kz z1 z2 row at_ la rt ds, hu⟩, hb⟩
theorem give_ok (t : TreeV) (kz z1 z2 ds : List Int) (total : Nat) (ht : (total : Int) ≤ 18446744073709551615) (row at_ q2 q3 : Nat) (q4 q5 : Bool) (da : Option Addr) (dc : Nat) (w : World) (h : TreeOk t kz z1 z2 w) (hP : ParOk t.big (t.vN row at_)) (hr : row ≤ 255)
  (hsp : t.spotE total (row : Nat) at_ = 0) (hsr : t.spotR total (row : Nat) at_ = ⟨row, at_, q2, q3, q4, q5⟩) (hd : Hold w (.slice da ds.length dc) ds) (hdl : ds.length ≤ 1073741824) :
  Calls Tryz.prog 61 #[t.val, .int .u64 total, .agg #[.int .i64 (row : Nat), .int .u64 (at_ : Nat), .int .u64 (q2 : Nat), .int .u64 (q3 : Nat), .bool q4, .bool q5], .slice da ds.length dc] w fun e w' => ∃ u, e = .returned u ∧ OwnB w.heap.size w' u (t.node kz z1 z2 row at_ q4 q5 ds) ∧ Below w.heap.size w w' := by
 obtain ⟨b0, hb0⟩ : ∃ b0, w.heap.size = b0 := ⟨_, rfl⟩
 have e1 := hold_len h.s
 have e2 := hold_len h.p
 have e3 := hold_len h.k
 have hvf := TreeV.valid_facts h.v
 have hmb := TreeV.mB_big h.v
 have hs16 : sB t.big ≤ 16 := by cases t.big <;> decide
 have hspo := fun (W : World) => spot_any t h.l total ht (row : Nat) at_ W
 rw [hsr, hsp] at hspo
 unfold SpotV.val at hspo
 simp only at hspo
 have HSP := hid hspo
 have HPA := hid (fun (W : World) (hb : Below b0 w W) => params_ok t total (row : Nat) at_ HSP W (hid (h.s.below (hb0 ▸ hb)).holds8) (hid (h.p.below (hb0 ▸ hb)).holds8) (hid h.s.1) (hid h.p.1) (hid (by omega)) (hid (by omega)))
 have hen := fun (W : World) (b : Nat) (s p : Value) (hs1 : SideIs b W z1 s) (hs2 : SideIs b W z2 p) => encodeS_any t.big (t.vN row at_) z1 z2 s p b W hP hs1 hs2 h.s.1 h.p.1 (by omega) (by omega)
 simp only [TreeV.parN h.v h.l, TreeV.kB_big h.v] at hen
 have HEN := hid hen
 have HNO := hid (fun (W : World) (hb : Below b0 w W) (bv kv : Value) (B : Nat) (ho : W.ownsRow B 5 1 bv (mB t.big) ((blkP t.big (t.vN row at_) z1 z2).map encB)) (hk : Hold W kv (keyL row kz)) => node_ok2 (h.below (hb0 ▸ hb)) hP q4 q5 ds (.slice da ds.length dc) bv kv W B ho hk (hd.below (hb0 ▸ hb)) hdl)
 have HKZ := hid h.k
 clear hvf hmb hspo hen hsp hsr hP hd hdl hs16 e1 e2 e3 h
 unfold TreeV.val parVal at *
 go_enter Tryz.func61, Tryz.ntmps61
 go_upto_region 1 with (fail)
 refine letterW ?_
 intro wA hwA
 have hrT : wA.heap[b0]? = some (.cells #[.int .i64 t.k, .int .i64 t.d, .int .i64 t.f, .int .i64 t.p, .int .u32 t.l, .int .i64 t.i, .slice t.ka t.kl t.kc, .slice t.sa t.sl t.sc, .slice t.pa t.pl t.pc] 26 (0, 0)) := by rw [hwA]; exact (Below.heap_alloc _ _ _ (by simp; omega)).trans (World.alloc_new_at _ _ hb0.symm)
 have hrS : wA.heap[b0 + 1]? = some (.cells #[.int .i64 (row : Nat), .int .u64 (at_ : Nat), .int .u64 (q2 : Nat), .int .u64 (q3 : Nat), .bool q4, .bool q5] 111 (0, 0)) := by rw [hwA]; exact World.alloc_new_at _ _ (by simp; omega)
 have hbA : Below b0 w wA := by rw [hwA, ← hb0]; exact ((Below.refl _ _).alloc (Nat.le_refl _) _).alloc (by simp) _
 have hsA : b0 + 1 < wA.heap.size := (Array.getElem?_eq_some_iff.1 hrS).1
 clear hwA
 have k0 : wA.cell? ⟨b0 + 1, 0, none⟩ = some (.int .i64 (row : Nat)) := cell_of_heap hrS 0
 have k1 : wA.cell? ⟨b0 + 1, 1, none⟩ = some (.int .u64 (at_ : Nat)) := cell_of_heap hrS 1
 go_wp2_with ((with_reducible show wpList _ _ _ (Oper.mk _ (Op.load 26 _) _ _ _ _ :: _) _ _); refine wpList_load_row rfl 26 _ rfl b0 rfl _ _ _ _ hrT Tryz.underlying26 rfl (by kernel_rfl) ?_)
 refine (HPA.out wA hbA).mono ?_; rintro e w2 ⟨sv, pv, rfl, hsv, hpv, hb2⟩
 have HRT := hid (rowStay hrT hb2)
 have HRS := hid (rowStay hrS hb2)
 have HB2 := hid (hbA.trans (hb2.mono (by omega)))
 have hs2 := hb2.size
 have HSV := hid hsv
 have HPV := hid hpv
 obtain ⟨sv1, sv2, sv3, rfl⟩ : ∃ a n c, sv = .slice a n c := by
  rcases hsv with ⟨rfl, -⟩ | ⟨-, ho⟩
  ·exact ⟨_, _, _, rfl⟩
  ·exact own_slice ho
 obtain ⟨pv1, pv2, pv3, rfl⟩ : ∃ a n c, pv = .slice a n c := by
  rcases hpv with ⟨rfl, -⟩ | ⟨-, ho⟩
  ·exact ⟨_, _, _, rfl⟩
  ·exact own_slice ho
 clear hsv hpv hb2 hrT hrS hbA k0 k1 HPA HSP
 go_upto_region 2 with ((with_reducible show wpList _ _ _ (Oper.mk none (Op.store 149 _ _) _ _ _ _ :: _) _ _); refine wpList_store_row rfl 149 _ _ rfl w2.heap.size #[.int .i64 t.d, .int .i64 (t.kl : Nat), .int .i64 t.f, .int .i64 t.p, .int .u32 t.l, .int .u64 (at_ : Nat), .int .u32 0, .int .i64 (row : Nat), .int .i64 t.i, .slice sv1 sv2 sv3, .slice pv1 pv2 pv3] rfl rfl 149 _ (World.alloc_heap_new _ _) (by kernel_rfl) rfl (by simp [Value.oneCell']) ?_)
 refine letterW ?_
 intro V hV
 obtain ⟨b3, hb3⟩ : ∃ b3, w2.heap.size = b3 := ⟨_, rfl⟩
 have hrP : V.heap[b3]? = some (.cells #[.int .i64 t.d, .int .i64 (t.kl : Nat), .int .i64 t.f, .int .i64 t.p, .int .u32 t.l, .int .u64 (at_ : Nat), .int .u32 0, .int .i64 (row : Nat), .int .i64 t.i, .slice sv1 sv2 sv3, .slice pv1 pv2 pv3] 149 (0, 0)) := by rw [hV, ← hb3]; exact setRow_heap _ _ _ _ _ _ (World.alloc_heap_new _ _)
 have hbV : Below b3 w2 V := by rw [hV, ← hb3]; exact below_setRow ((Below.refl _ _).alloc (Nat.le_refl _) _) (Nat.le_refl _) _
 have HBV := hid (show Below b0 w V from HB2.out.trans (hbV.mono (by omega)))
 have HRT3 := hid ((hbV.block b0 (by omega)).trans HRT.out)
 have HRS3 := hid ((hbV.block (b0 + 1) (by omega)).trans HRS.out)
 have HEV := hid (HEN.out V wA.heap.size (.slice sv1 sv2 sv3) (.slice pv1 pv2 pv3) (side_below HSV.out (hb3 ▸ hbV)) (side_below HPV.out (hb3 ▸ hbV)))
 have hVs : b3 < V.heap.size := (Array.getElem?_eq_some_iff.1 hrP).1
 have hVs0 : b0 + 1 < V.heap.size := by omega
 have hVs1 : b0 < V.heap.size := by omega
 rw [hb3]
 have c0 : V.cell? ⟨b0, 0, none⟩ = some (.int .i64 t.k) := cell_of_heap HRT3.out 0
 clear hV hbV HB2 HRT HRS hb3 HEN HSV HPV
 go_wp2_with ((with_reducible show wpList _ _ _ (Oper.mk _ (Op.load 149 _) _ _ _ _ :: _) _ _); refine wpList_load_row rfl 149 _ rfl b3 rfl _ _ _ _ hrP Tryz.underlying149 rfl (by kernel_rfl) ?_)
 refine HEV.out.mono ?_; rintro e w4 ⟨⟨bv, rfl, hbo⟩, hb4⟩
 obtain ⟨a5, n5, k5, rfl⟩ := own_slice hbo
 have hrT4 := rowStay HRT3.out hb4
 have hrS4 := rowStay HRS3.out hb4
 have HRT4 := hid hrT4
 have HRS4 := hid hrS4
 have hs4 := hb4.size
 have HBO := hid hbo
 have HB4 := hid (show Below b0 w w4 from HBV.out.trans (hb4.mono (by omega)))
 have c0 : w4.cell? ⟨b0, 0, none⟩ = some (.int .i64 t.k) := cell_of_heap hrT4 0
 have c5 : w4.cell? ⟨b0, 5, none⟩ = some (.int .i64 t.i) := cell_of_heap hrT4 5
 have d4 : w4.cell? ⟨b0 + 1, 4, none⟩ = some (.bool q4) := cell_of_heap hrS4 4
 have hb0w : b0 + 1 < w4.heap.size ∧ b0 < w4.heap.size := by omega
 clear hb4 hbo hrT4 hrS4 hrP HEV HBV HRT3 HRS3 hVs
 go_upto_region 4 with ((with_reducible show wpList _ _ _ (Oper.mk none (Op.store 94 _ _) _ _ _ _ :: _) _ _); refine wpList_store_row rfl 94 _ _ rfl w4.heap.size #[.int .i64 t.k, .slice a5 n5 k5, .slice none 0 0, .bool q4, .int .i64 t.i, .slice da ds.length dc] rfl rfl 94 _ (World.alloc_heap_new _ _) (by kernel_rfl) rfl (by simp [Value.oneCell']) ?_)
 refine letterW ?_
 intro U hU
 obtain ⟨b4, hb4⟩ : ∃ b4, w4.heap.size = b4 := ⟨_, rfl⟩
 have hrV : U.heap[b4]? = some (.cells #[.int .i64 t.k, .slice a5 n5 k5, .slice none 0 0, .bool q4, .int .i64 t.i, .slice da ds.length dc] 94 (0, 0)) := by rw [hU, ← hb4]; exact setRow_heap _ _ _ _ _ _ (World.alloc_heap_new _ _)
 have hbU : Below b4 w4 U := by rw [hU, ← hb4]; exact below_setRow ((Below.refl _ _).alloc (Nat.le_refl _) _) (Nat.le_refl _) _
 rw [hb4]
 have HG0 := hid (show U.heap[b4]? = some (.cells #[.int .i64 t.k, .slice a5 n5 k5, .slice none 0 0, .bool q4, .int .i64 t.i, .slice da ds.length dc] 94 (0, 0)) ∧ U.heap[b0]? = some (.cells #[.int .i64 t.k, .int .i64 t.d, .int .i64 t.f, .int .i64 t.p, .int .u32 t.l, .int .i64 t.i, .slice t.ka t.kl t.kc, .slice t.sa t.sl t.sc, .slice t.pa t.pl t.pc] 26 (0, 0)) ∧ U.heap[b0 + 1]? = some (.cells #[.int .i64 (row : Nat), .int .u64 (at_ : Nat), .int .u64 (q2 : Nat), .int .u64 (q3 : Nat), .bool q4, .bool q5] 111 (0, 0)) ∧ Below b0 w U ∧ U.ownsRow b0 5 1 (.slice a5 n5 k5) (mB t.big) ((blkP t.big (t.vN row at_) z1 z2).map encB) from ⟨hrV, (hbU.block b0 (by omega)).trans HRT4.out, (hbU.block (b0 + 1) (by omega)).trans HRS4.out, HB4.out.trans (hbU.mono (by omega)), ownsRow_le (ownsRow_same' HBO.out (fun g _ g2 => hbU.block g (by omega))) (by omega)⟩)
 have hlt : b0 + 1 < b4 := by omega
 clear hU hb4 hrV hbU HRT4 HRS4 HB4 HBO c0 c5 d4 hb0w hs4 hVs0 hVs1 hs2 hsA
 have d5 : U.cell? ⟨b0 + 1, 5, none⟩ = some (.bool q5) := cell_of_heap HG0.out.2.2.1 5
 have hsU : b4 < U.heap.size ∧ b0 < U.heap.size ∧ b0 + 1 < U.heap.size := by have := (Array.getElem?_eq_some_iff.1 HG0.out.1).1; omega
 obtain ⟨hsU, hsU0, hsU1⟩ := hsU
 have c1 : U.cell? ⟨b0, 1, none⟩ = some (.int .i64 t.d) := cell_of_heap HG0.out.2.1 1
 have c4 : U.cell? ⟨b4, 4, none⟩ = some (.int .i64 t.i) := cell_of_heap HG0.out.1 4
 have f4 := frozen_of_row U b4 4 _ _ HG0.out.1
 go_upto_if 43 with (fail)
 go_cut [13] (fun u W => u = .pointer (some ⟨b4, 0, none⟩) ∧ W.heap[b4]? = some (.cells #[.int .i64 t.k, .slice a5 n5 k5, .slice none 0 0, .bool q4, .int .i64 (t.outN q5), .slice da ds.length dc] 94 (0, 0)) ∧ W.heap[b0]? = some (.cells #[.int .i64 t.k, .int .i64 t.d, .int .i64 t.f, .int .i64 t.p, .int .u32 t.l, .int .i64 t.i, .slice t.ka t.kl t.kc, .slice t.sa t.sl t.sc, .slice t.pa t.pl t.pc] 26 (0, 0)) ∧ W.heap[b0 + 1]? = some (.cells #[.int .i64 (row : Nat), .int .u64 (at_ : Nat), .int .u64 (q2 : Nat), .int .u64 (q3 : Nat), .bool q4, .bool q5] 111 (0, 0)) ∧ Below b0 w W ∧ W.ownsRow b0 5 1 (.slice a5 n5 k5) (mB t.big) ((blkP t.big (t.vN row at_) z1 z2).map encB))
 case first =>
  cases q5
  ·go_wp2_with fail
   go_meet
   case rel => exact ⟨rfl, HG0.out⟩
  ·go_wp2_with fail
   go_meet
   case rel =>
    obtain ⟨r1, r2, r3, r4, r5⟩ := HG0.out
    exact ⟨rfl, heap_setCell_same U b4 4 _ _ (.int .i64 t.d) r1, (heap_setCell_other U ⟨b4, 4, none⟩ b0 (.int .i64 t.d) (show b0 ≠ b4 by omega)).trans r2, (heap_setCell_other U ⟨b4, 4, none⟩ (b0 + 1) (.int .i64 t.d) (show b0 + 1 ≠ b4 by omega)).trans r3, r4.setCell (show b0 ≤ b4 by omega) _, ownsRow_setCell_ty r5 r1 4 (.int .i64 t.d) (by decide)⟩
 case rest =>
  obtain ⟨rfl, hg1⟩ := hcut
  have HG1 := hid hg1
  clear hg1 HG0 d5 hsU hsU0 hsU1 c1 c4 f4
  clear U
  have hsU : b4 < wc.heap.size ∧ b0 < wc.heap.size ∧ b0 + 1 < wc.heap.size := by have := (Array.getElem?_eq_some_iff.1 HG1.out.1).1; omega
  obtain ⟨hsU, hsU0, hsU1⟩ := hsU
  have d0 : wc.cell? ⟨b0 + 1, 0, none⟩ = some (.int .i64 (row : Nat)) := cell_of_heap HG1.out.2.2.1 0
  have c6 : wc.cell? ⟨b0, 6, none⟩ = some (.slice t.ka t.kl t.kc) := cell_of_heap HG1.out.2.1 6
  have c2 : wc.cell? ⟨b4, 2, none⟩ = some (.slice none 0 0) := cell_of_heap HG1.out.1 2
  have f2 := frozen_of_row wc b4 2 _ _ HG1.out.1
  obtain ⟨U, rfl⟩ : ∃ U, U = wc := ⟨_, rfl⟩
  go_upto_if 49 with (fail)
  go_cut [13] (fun u W => u = .pointer (some ⟨b4, 0, none⟩) ∧ ∃ a6 n6 c6, Hold W (.slice a6 n6 c6) (keyL row kz) ∧ W.heap[b4]? = some (.cells #[.int .i64 t.k, .slice a5 n5 k5, .slice a6 n6 c6, .bool q4, .int .i64 (t.outN q5), .slice da ds.length dc] 94 (0, 0)) ∧ W.heap[b0]? = some (.cells #[.int .i64 t.k, .int .i64 t.d, .int .i64 t.f, .int .i64 t.p, .int .u32 t.l, .int .i64 t.i, .slice t.ka t.kl t.kc, .slice t.sa t.sl t.sc, .slice t.pa t.pl t.pc] 26 (0, 0)) ∧ W.heap[b0 + 1]? = some (.cells #[.int .i64 (row : Nat), .int .u64 (at_ : Nat), .int .u64 (q2 : Nat), .int .u64 (q3 : Nat), .bool q4, .bool q5] 111 (0, 0)) ∧ Below b0 w W ∧ W.ownsRow b0 5 1 (.slice a5 n5 k5) (mB t.big) ((blkP t.big (t.vN row at_) z1 z2).map encB))
  case first =>
   by_cases hrow : row = 0
   ·have hq : (row : Int) = 0 := by omega
    go_wp2_with fail
    go_meet
    case rel =>
     obtain ⟨r1, r2, r3, r4, r5⟩ := HG1.out
     have hb9 : Below b0 w (U.setCell ⟨b4, 2, none⟩ (.slice t.ka t.kl t.kc)) := r4.setCell (show b0 ≤ b4 by omega) _
     exact ⟨rfl, _, _, _, (by unfold keyL; rw [if_pos hrow]; exact HKZ.out.below (hb0 ▸ hb9)), heap_setCell_same U b4 2 _ _ _ r1, (heap_setCell_other U ⟨b4, 2, none⟩ b0 _ (show b0 ≠ b4 by omega)).trans r2, (heap_setCell_other U ⟨b4, 2, none⟩ (b0 + 1) _ (show b0 + 1 ≠ b4 by omega)).trans r3, hb9, ownsRow_setCell_ty r5 r1 2 _ (by decide)⟩
   ·have hq : ¬ ((row : Int) = 0) := by omega
    go_wp2_with fail
    go_meet
    case rel => exact ⟨rfl, none, 0, 0, (by unfold keyL; rw [if_neg hrow]; exact Hold.nil _), HG1.out⟩
  case rest =>
   obtain ⟨rfl, a6, n6, c6', hk, r1, r2, r3, r4, r5⟩ := hcut
   have HR1 := hid r1
   have HCALL := hid (HNO.out wc r4 (.slice a5 n5 k5) (.slice a6 n6 c6') b0 r5 hk)
   have HB9 := hid r4
   have hs9 : b4 < wc.heap.size := (Array.getElem?_eq_some_iff.1 r1).1
   clear hk r1 r2 r3 r4 r5 HG1 HNO d0 c6 c2 f2 hsU hsU0 hsU1
   go_wp2_with ((with_reducible show wpList _ _ _ (Oper.mk _ (Op.load 94 _) _ _ _ _ :: _) _ _); refine wpList_load_row rfl 94 _ rfl b4 rfl _ _ _ _ HR1.out Tryz.underlying94 rfl (by kernel_rfl) ?_)
   refine HCALL.out.mono ?_; rintro e w9 ⟨u, rfl, hu, hb9⟩
   have HU := hid (hu.le (show b0 ≤ wc.heap.size by omega))
   have HBF := hid (HB9.out.trans (hb9.mono (show b0 ≤ wc.heap.size by omega)))
   clear hu hb9
   go_wp2_with fail
   go_ret
   exact ⟨_, rfl, by rw [hb0]; exact HU.out, by rw [hb0]; exact HBF.out⟩
theorem refHashS_any {t : TreeV} {kz z1 z2 : List Int} {w0 : World} (h : TreeOk t kz z1 z2 w0) {row at_ : Nat} (hP : ParOk t.big (t.vN row at_)) (la rt : Bool) (ds : List Int) (dv sa pe kv : Value) (w : World) (b : Nat)
  (h1 : SideIs b w z1 sa) (h2 : SideIs b w z2 pe) (hK : Hold w kv (keyL row kz)) (hD : Hold w dv ds) (hdl : ds.length ≤ 1073741824) :
  Calls Tryz.prog 99 #[.int .i64 (kB t.big), parN (t.vN row at_) sa pe, kv, .bool la, .int .i64 (t.outN rt), dv] w fun e w' => (∃ u, e = .returned (.tuple #[u, .int .i64 0]) ∧ OwnB w.heap.size w' u (t.node kz z1 z2 row at_ la rt ds)) ∧ Below w.heap.size w w' := by
 have hvf := TreeV.valid_facts h.v
 have hmb := TreeV.mB_big h.v
 have e1 := hold_len h.s
 have e2 := hold_len h.p
 have e3 := hold_len h.k
 obtain ⟨y1, k1, m1, f1⟩ := side_use h1 h.s.1
 obtain ⟨y2, k2, m2, f2⟩ := side_use h2 h.p.1
 obtain ⟨-, -, -, h4⟩ := h.okD2 hP
 have hkl : (keyL row kz).length ≤ mB t.big := by
  unfold keyL
  split
  ·omega
  ·simp
 have hk2 : (keyL row kz).length = 0 ∨ (keyL row kz).length = t.vN row at_ 2 := by
  unfold keyL
  split
  ·exact .inr e3
  ·exact .inl rfl
 refine (refHash_ok t.big (t.vN row at_) y1 y2 (keyL row kz) ds la (t.outN rt) sa pe kv dv w hP k1 k2 (by omega) (by omega) hK hkl hk2 hD (by omega) (by have := h4 rt; omega)).mono ?_
 rintro e w' ⟨⟨u, rfl, hu⟩, hb⟩
 rw [blkP_side (by omega) (by omega) f1 f2] at hu
 exact ⟨⟨u, rfl, ⟨TreeV.node_bounds t kz z1 z2 row at_ la rt ds, hu⟩⟩, hb⟩
theorem refGive_ok (t : TreeV) (kz z1 z2 ds : List Int) (total : Nat) (ht : (total : Int) ≤ 18446744073709551615) (row at_ q2 q3 : Nat) (q4 q5 : Bool) (da : Option Addr) (dc : Nat) (w : World) (h : TreeOk t kz z1 z2 w) (hP : ParOk t.big (t.vN row at_)) (hr : row ≤ 255)
  (hsp : t.spotE total (row : Nat) at_ = 0) (hsr : t.spotR total (row : Nat) at_ = ⟨row, at_, q2, q3, q4, q5⟩) (hd : Hold w (.slice da ds.length dc) ds) (hdl : ds.length ≤ 1073741824) :
  Calls Tryz.prog 65 #[t.val, .int .u64 total, .agg #[.int .i64 (row : Nat), .int .u64 (at_ : Nat), .int .u64 (q2 : Nat), .int .u64 (q3 : Nat), .bool q4, .bool q5], .slice da ds.length dc] w fun e w' => ∃ u, e = .returned u ∧ OwnB w.heap.size w' u (t.node kz z1 z2 row at_ q4 q5 ds) ∧ Below w.heap.size w w' := by
 obtain ⟨b0, hb0⟩ : ∃ b0, w.heap.size = b0 := ⟨_, rfl⟩
 have e1 := hold_len h.s
 have e2 := hold_len h.p
 have e3 := hold_len h.k
 have hvf := TreeV.valid_facts h.v
 have hmb := TreeV.mB_big h.v
 have hs16 : sB t.big ≤ 16 := by cases t.big <;> decide
 have hspo := fun (W : World) => refSpot_any t h.l total ht (row : Nat) at_ W
 rw [hsr, hsp] at hspo
 unfold SpotV.val at hspo
 simp only at hspo
 have HSP := hid hspo
 have HPA := hid (fun (W : World) (hb : Below b0 w W) => refParams_ok t total (row : Nat) at_ HSP W (hid (h.s.below (hb0 ▸ hb)).holds8) (hid (h.p.below (hb0 ▸ hb)).holds8) (hid h.s.1) (hid h.p.1) (hid (by omega)) (hid (by omega)))
 have hha := fun (W : World) (hb : Below b0 w W) (b : Nat) (s p kv : Value) (hs1 : SideIs b W z1 s) (hs2 : SideIs b W z2 p) (hk : Hold W kv (keyL row kz)) => refHashS_any h hP q4 q5 ds (.slice da ds.length dc) s p kv W b hs1 hs2 hk (hd.below (hb0 ▸ hb)) hdl
 simp only [TreeV.parN h.v h.l, TreeV.kB_big h.v] at hha
 have HHA := hid hha
 have HKZ := hid h.k
 clear hvf hmb hspo hha hsp hsr hP hd hdl hs16 e1 e2 e3 h
 unfold TreeV.val parVal at *
 go_enter Tryz.func65, Tryz.ntmps65
 go_upto_region 1 with (fail)
 refine letterW ?_
 intro wA hwA
 have hrT : wA.heap[b0]? = some (.cells #[.int .i64 t.k, .int .i64 t.d, .int .i64 t.f, .int .i64 t.p, .int .u32 t.l, .int .i64 t.i, .slice t.ka t.kl t.kc, .slice t.sa t.sl t.sc, .slice t.pa t.pl t.pc] 26 (0, 0)) := by rw [hwA]; exact (Below.heap_alloc _ _ _ (by simp; omega)).trans (World.alloc_new_at _ _ hb0.symm)
 have hrS : wA.heap[b0 + 1]? = some (.cells #[.int .i64 (row : Nat), .int .u64 (at_ : Nat), .int .u64 (q2 : Nat), .int .u64 (q3 : Nat), .bool q4, .bool q5] 111 (0, 0)) := by rw [hwA]; exact World.alloc_new_at _ _ (by simp; omega)
 have hbA : Below b0 w wA := by rw [hwA, ← hb0]; exact ((Below.refl _ _).alloc (Nat.le_refl _) _).alloc (by simp) _
 have hsA : b0 + 1 < wA.heap.size := (Array.getElem?_eq_some_iff.1 hrS).1
 clear hwA
 have k0 : wA.cell? ⟨b0 + 1, 0, none⟩ = some (.int .i64 (row : Nat)) := cell_of_heap hrS 0
 have k1 : wA.cell? ⟨b0 + 1, 1, none⟩ = some (.int .u64 (at_ : Nat)) := cell_of_heap hrS 1
 go_wp2_with ((with_reducible show wpList _ _ _ (Oper.mk _ (Op.load 26 _) _ _ _ _ :: _) _ _); refine wpList_load_row rfl 26 _ rfl b0 rfl _ _ _ _ hrT Tryz.underlying26 rfl (by kernel_rfl) ?_)
 refine (HPA.out wA hbA).mono ?_; rintro e w2 ⟨sv, pv, rfl, hsv, hpv, hb2⟩
 have HRT := hid (rowStay hrT hb2)
 have HRS := hid (rowStay hrS hb2)
 have HB2 := hid (hbA.trans (hb2.mono (by omega)))
 have hs2 := hb2.size
 have HSV := hid hsv
 have HPV := hid hpv
 obtain ⟨sv1, sv2, sv3, rfl⟩ : ∃ a n c, sv = .slice a n c := by
  rcases hsv with ⟨rfl, -⟩ | ⟨-, ho⟩
  ·exact ⟨_, _, _, rfl⟩
  ·exact own_slice ho
 obtain ⟨pv1, pv2, pv3, rfl⟩ : ∃ a n c, pv = .slice a n c := by
  rcases hpv with ⟨rfl, -⟩ | ⟨-, ho⟩
  ·exact ⟨_, _, _, rfl⟩
  ·exact own_slice ho
 clear hsv hpv hb2 hrT hrS hbA k0 k1 HPA HSP
 go_upto_region 2 with ((with_reducible show wpList _ _ _ (Oper.mk none (Op.store 149 _ _) _ _ _ _ :: _) _ _); refine wpList_store_row rfl 149 _ _ rfl w2.heap.size #[.int .i64 t.d, .int .i64 (t.kl : Nat), .int .i64 t.f, .int .i64 t.p, .int .u32 t.l, .int .u64 (at_ : Nat), .int .u32 0, .int .i64 (row : Nat), .int .i64 t.i, .slice sv1 sv2 sv3, .slice pv1 pv2 pv3] rfl rfl 149 _ (World.alloc_heap_new _ _) (by kernel_rfl) rfl (by simp [Value.oneCell']) ?_)
 refine letterW ?_
 intro V hV
 obtain ⟨b3, hb3⟩ : ∃ b3, w2.heap.size = b3 := ⟨_, rfl⟩
 have hrP : V.heap[b3]? = some (.cells #[.int .i64 t.d, .int .i64 (t.kl : Nat), .int .i64 t.f, .int .i64 t.p, .int .u32 t.l, .int .u64 (at_ : Nat), .int .u32 0, .int .i64 (row : Nat), .int .i64 t.i, .slice sv1 sv2 sv3, .slice pv1 pv2 pv3] 149 (0, 0)) := by rw [hV, ← hb3]; exact setRow_heap _ _ _ _ _ _ (World.alloc_heap_new _ _)
 have hbV : Below b3 w2 V := by rw [hV, ← hb3]; exact below_setRow ((Below.refl _ _).alloc (Nat.le_refl _) _) (Nat.le_refl _) _
 have HBV := hid (show Below b0 w V from HB2.out.trans (hbV.mono (by omega)))
 have HRT3 := hid ((hbV.block b0 (by omega)).trans HRT.out)
 have HRS3 := hid ((hbV.block (b0 + 1) (by omega)).trans HRS.out)
 have HEV := hid (fun (W : World) (hb : Below V.heap.size V W) (kv : Value) (hk : Hold W kv (keyL row kz)) => HHA.out W (HBV.out.trans (hb.mono (by have := hbV.size; omega))) wA.heap.size (.slice sv1 sv2 sv3) (.slice pv1 pv2 pv3) kv (side_below (side_below HSV.out (hb3 ▸ hbV)) hb) (side_below (side_below HPV.out (hb3 ▸ hbV)) hb) hk)
 have hVs : b3 < V.heap.size := (Array.getElem?_eq_some_iff.1 hrP).1
 have hVs0 : b0 + 1 < V.heap.size := by omega
 have hVs1 : b0 < V.heap.size := by omega
 rw [hb3]
 have c6 : V.cell? ⟨b0, 6, none⟩ = some (.slice t.ka t.kl t.kc) := cell_of_heap HRT3.out 6
 have c5 : V.cell? ⟨b0, 5, none⟩ = some (.int .i64 t.i) := cell_of_heap HRT3.out 5
 have c1 : V.cell? ⟨b0, 1, none⟩ = some (.int .i64 t.d) := cell_of_heap HRT3.out 1
 have c0 : V.cell? ⟨b0, 0, none⟩ = some (.int .i64 t.k) := cell_of_heap HRT3.out 0
 have d0 : V.cell? ⟨b0 + 1, 0, none⟩ = some (.int .i64 (row : Nat)) := cell_of_heap HRS3.out 0
 have d4 : V.cell? ⟨b0 + 1, 4, none⟩ = some (.bool q4) := cell_of_heap HRS3.out 4
 have d5 : V.cell? ⟨b0 + 1, 5, none⟩ = some (.bool q5) := cell_of_heap HRS3.out 5
 have HRP := hid hrP
 clear hV hbV HB2 HRT HRS hb3 HHA HSV HPV hrP
 go_upto_if 27 with (fail)
 go_cut [11] (fun u W => W = V ∧ ∃ a6 n6 c6, u = .slice a6 n6 c6 ∧ Hold V (.slice a6 n6 c6) (keyL row kz))
 case first =>
  by_cases hrow : row = 0
  ·have hq : (row : Int) = 0 := by omega
   go_wp2_with fail
   go_meet
   case rel => exact ⟨rfl, _, _, _, rfl, (by unfold keyL; rw [if_pos hrow]; exact HKZ.out.below (hb0 ▸ HBV.out))⟩
  ·have hq : ¬ ((row : Int) = 0) := by omega
   go_wp2_with fail
   go_meet
   case rel => exact ⟨rfl, none, 0, 0, rfl, (by unfold keyL; rw [if_neg hrow]; exact Hold.nil _)⟩
 case rest =>
  obtain ⟨hww, a6, n6, c6', rfl, hk⟩ := hcut
  obtain rfl : V = wc := hww.symm
  have HCALL := hid (HEV.out V (Below.refl _ _) (.slice a6 n6 c6') hk)
  clear hk HEV
  go_upto_if 33 with (fail)
  go_cut [12] (fun u W => W = V ∧ u = .int .i64 (t.outN q5))
  case first =>
   cases q5
   ·go_wp2_with fail
    go_meet
    case rel => exact ⟨rfl, rfl⟩
   ·go_wp2_with fail
    go_meet
    case rel => exact ⟨rfl, rfl⟩
  case rest =>
   obtain ⟨hww, rfl⟩ := hcut
   obtain rfl : V = wc := hww.symm
   obtain ⟨O, hO⟩ : ∃ O, t.outN q5 = O := ⟨_, rfl⟩
   have hcall := HCALL.out
   rw [hO] at hcall ⊢
   have HCALL := hid hcall
   clear hcall hO
   have hsV := HBV.out.size
   go_wp2_with ((with_reducible show wpList _ _ _ (Oper.mk _ (Op.load 149 _) _ _ _ _ :: _) _ _); refine wpList_load_row rfl 149 _ rfl b3 rfl _ _ _ _ HRP.out Tryz.underlying149 rfl (by kernel_rfl) ?_)
   refine HCALL.out.mono ?_; rintro e w9 ⟨⟨u, rfl, hu⟩, hb9⟩
   have HU := hid (hu.le (show b0 ≤ V.heap.size by omega))
   have HBF := hid (HBV.out.trans (hb9.mono (show b0 ≤ V.heap.size by omega)))
   clear hu hb9
   go_wp2_with fail
   go_ret
   exact ⟨_, rfl, by rw [hb0]; exact HU.out, by rw [hb0]; exact HBF.out⟩
/-- A node of a way that is there, and may be hashed. -/
structure SpotOk (t : TreeV) (total : Nat) (S : SpotV) : Prop where
 p : ParOk t.big (t.vN S.row S.at_)
 r : S.row ≤ 255
 e : t.spotE total (S.row : Nat) S.at_ = 0
 s : t.spotR total (S.row : Nat) S.at_ = S
def TreeV.giveZ (t : TreeV) (kz z1 z2 : List Int) (S : SpotV) (ds : List Int) : List Int := t.node kz z1 z2 S.row S.at_ S.last S.root ds
theorem giveS_ok (t : TreeV) (kz z1 z2 ds : List Int) (total : Nat) (ht : (total : Int) ≤ 18446744073709551615) (S : SpotV) (da : Option Addr) (dc : Nat) (w : World) (h : TreeOk t kz z1 z2 w) (hS : SpotOk t total S) (hd : Hold w (.slice da ds.length dc) ds) (hdl : ds.length ≤ 1073741824) :
  Calls Tryz.prog 61 #[t.val, .int .u64 total, .agg #[.int .i64 (S.row : Nat), .int .u64 (S.at_ : Nat), .int .u64 (S.frm : Nat), .int .u64 (S.to_ : Nat), .bool S.last, .bool S.root], .slice da ds.length dc] w fun e w' => ∃ u, e = .returned u ∧ OwnB w.heap.size w' u (t.giveZ kz z1 z2 S ds) ∧ Below w.heap.size w w' :=
 give_ok t kz z1 z2 ds total ht S.row S.at_ S.frm S.to_ S.last S.root da dc w h hS.p hS.r hS.e hS.s hd hdl
theorem root1_ok (t : TreeV) (kz z1 z2 ds : List Int) (total : Nat) (ht : (total : Int) ≤ 18446744073709551615) (S : SpotV) (bt bp bl : Nat) (leaf : Nat) (u : Value) (da : Option Addr) (dc : Nat) (w : World) (h : TreeOk t kz z1 z2 w) (hS : SpotOk t total S) (hd : Hold w (.slice da ds.length dc) ds) (hdl : ds.length ≤ 1073741824)
  (hT : w.heap[bt]? = some (.cells #[.int .i64 t.k, .int .i64 t.d, .int .i64 t.f, .int .i64 t.p, .int .u32 t.l, .int .i64 t.i, .slice t.ka t.kl t.kc, .slice t.sa t.sl t.sc, .slice t.pa t.pl t.pc] 26 (0, 0))) (hp : w.heap[bp]? = some (.cells #[.int .u64 total, .int .u64 leaf, u] 55 (0, 0))) (hs : w.heap[bl]? = some (.cells #[.int .i64 (S.row : Nat), .int .u64 (S.at_ : Nat), .int .u64 (S.frm : Nat), .int .u64 (S.to_ : Nat), .bool S.last, .bool S.root] 111 (0, 0))) :
  Calls Tryz.prog 60 #[.slice da ds.length dc, .pointer (some ⟨bt, 0, none⟩), .pointer (some ⟨bp, 0, none⟩), .pointer (some ⟨bl, 0, none⟩)] w fun e w' => ∃ u, e = .returned u ∧ OwnB w.heap.size w' u (t.giveZ kz z1 z2 S ds) ∧ Below w.heap.size w w' := by
 have HG := hid (giveS_ok t kz z1 z2 ds total ht S da dc w h hS hd hdl)
 have c0 : w.cell? ⟨bp, 0, none⟩ = some (.int .u64 total) := cell_of_heap hp 0
 have hpl := (Array.getElem?_eq_some_iff.1 hp).1
 clear h hS hd hdl ht
 unfold TreeV.val at HG
 go_enter Tryz.func60, Tryz.ntmps60
 go_wp2_with (first | ((with_reducible show wpList _ _ _ (Oper.mk _ (Op.load 26 _) _ _ _ _ :: _) _ _); refine wpList_load_row rfl 26 _ rfl bt rfl _ _ _ _ hT Tryz.underlying26 rfl (by kernel_rfl) ?_) | ((with_reducible show wpList _ _ _ (Oper.mk _ (Op.load 111 _) _ _ _ _ :: _) _ _); refine wpList_load_row rfl 111 _ rfl bl rfl _ _ _ _ hs Tryz.underlying111 rfl (by kernel_rfl) ?_))
 refine HG.out.mono ?_; rintro e w2 ⟨x, rfl, hx, hb2⟩
 have HX := hid hx
 have HB := hid hb2
 clear hx hb2
 go_wp2_with fail
 go_ret
 exact ⟨_, rfl, HX.out, HB.out⟩
/-- What a node above hashes: the digests before, what came up, the digests behind. -/
def midL (st : StepV) (D : List Int) : List Int := rowL st.1 st.1.length ++ D ++ rowL st.2 st.2.length
theorem rowL_le {m : Nat} {ds : List (List Int)} (h : ∀ d ∈ ds, d.length ≤ m) : ∀ k, k ≤ ds.length → (rowL ds k).length ≤ k * m
 | 0, _ => Nat.zero_le _
 | k + 1, hk => by
  have h1 := rowL_le h k (by omega)
  have h2 := h _ (nthd_mem (k := k) (by omega))
  simp only [rowL, List.length_append, Nat.add_mul, Nat.one_mul]
  omega
theorem root2_ok (t : TreeV) (kz z1 z2 D : List Int) (total : Nat) (ht : (total : Int) ≤ 18446744073709551615) (S : SpotV) (ch : Value) (st : StepV) (bt bp bi bg bu ou k n uc leaf : Nat) (U V da : Value) (w : World) (h : TreeOk t kz z1 z2 w) (hS : SpotOk t total S) (hd : Hold w da D) (hD1 : D ≠ []) (hdl : D.length ≤ 64) (hi1 : 1 ≤ t.i ∧ t.i ≤ 64)
  (hT : w.heap[bt]? = some (.cells #[.int .i64 t.k, .int .i64 t.d, .int .i64 t.f, .int .i64 t.p, .int .u32 t.l, .int .i64 t.i, .slice t.ka t.kl t.kc, .slice t.sa t.sl t.sc, .slice t.pa t.pl t.pc] 26 (0, 0))) (hp : w.heap[bp]? = some (.cells #[.int .u64 total, .int .u64 leaf, .slice (some ⟨bu, ou, none⟩) n uc] 55 (0, 0))) (hi : w.heap[bi]? = some (.cells #[.int .i64 (k : Nat)] 3 (0, 0))) (hg : w.heap[bg]? = some (.cells #[.int .i64 (S.row : Nat), .int .u64 (S.at_ : Nat), .int .u64 (S.frm : Nat), .int .u64 (S.to_ : Nat), .bool S.last, .bool S.root, ch] 118 (0, 0)))
  (hk : k < n) (hU : w.cell? ⟨bu, ou + k * 2, none⟩ = some U) (hV : w.cell? ⟨bu, ou + k * 2 + 1, none⟩ = some V) (hbu : bu < w.heap.size) (hRU : pRowsAt w U st.1) (hRV : pRowsAt w V st.2) (hok : RowOk 1048576 st.1 ∧ RowOk 1048576 st.2) (hlen : ∀ d ∈ st.1 ++ st.2, (d.length : Int) = t.i) :
  Calls Tryz.prog 62 #[da, .pointer (some ⟨bp, 0, none⟩), .pointer (some ⟨bi, 0, none⟩), .pointer (some ⟨bt, 0, none⟩), .pointer (some ⟨bg, 0, none⟩)] w fun e w' => ∃ u, e = .returned u ∧ OwnB w.heap.size w' u (t.giveZ kz z1 z2 S (midL st D)) ∧ Below w.heap.size w w' := by
 obtain ⟨b0, hb0⟩ : ∃ b0, w.heap.size = b0 := ⟨_, rfl⟩
 obtain ⟨a0, c0, rfl, -, -⟩ := id hd.slice
 have HD := hid hd
 have c2 : w.cell? ⟨bp, 2, none⟩ = some (.slice (some ⟨bu, ou, none⟩) n uc) := cell_of_heap hp 2
 have ci : w.cell? ⟨bi, 0, none⟩ = some (.int .i64 (k : Nat)) := cell_of_heap hi 0
 have hpl := (Array.getElem?_eq_some_iff.1 hp).1
 have hil := (Array.getElem?_eq_some_iff.1 hi).1
 have hki : (k : Int) < (n : Int) := by omega
 have HT := hid hT
 have HP := hid hp
 have HI := hid hi
 have HGG := hid hg
 have HRU := hid hRU
 have HRV := hid hRV
 obtain ⟨au, ku, VU, eu, -, -⟩ := id hRU
 obtain ⟨av, kv, VV, ev, -, -⟩ := id hRV
 rw [eu] at hU HRU
 rw [ev] at hV HRV
 have hl1 : ∀ d ∈ st.1, d.length = t.i.toNat := fun d hd => by have := hlen d (List.mem_append_left _ hd); omega
 have hl2 : ∀ d ∈ st.2, d.length = t.i.toNat := fun d hd => by have := hlen d (List.mem_append_right _ hd); omega
 have HR1 := hid (rowL_le (m := 64) (fun d hd => by have := hl1 d hd; omega))
 have HR2 := hid (rowL_le (m := 64) (fun d hd => by have := hl2 d hd; omega))
 have HL1 := hid hl1
 have HL2 := hid hl2
 have HA1 := hid (fun d hd => (hok.1.2 d hd).2)
 have HA2 := hid (fun d hd => (hok.2.2 d hd).2)
 obtain ⟨nb, hnb⟩ : ∃ nb, st.1.length = nb := ⟨_, rfl⟩
 obtain ⟨na, hna⟩ : ∃ na, st.2.length = na := ⟨_, rfl⟩
 have hnb1 : nb ≤ 1048576 := by rw [← hnb]; exact hok.1.1
 have hna1 : na ≤ 1048576 := by rw [← hna]; exact hok.2.1
 rw [hnb] at hU HRU HR1
 rw [hna] at hV HRV HR2
 have HNB := hid hnb
 have HNA := hid hna
 have HMID := hid (show midL st D = rowL st.1 nb ++ D ++ rowL st.2 na by unfold midL; rw [hnb, hna])
 have HGV := hid (fun (W : World) (hb : Below b0 w W) (xa : Option Addr) (xc : Nat) (hx : Hold W (.slice xa (rowL st.1 nb ++ D ++ rowL st.2 na).length xc) (rowL st.1 nb ++ D ++ rowL st.2 na)) (hxl : (rowL st.1 nb ++ D ++ rowL st.2 na).length ≤ 1073741824) => giveS_ok t kz z1 z2 (rowL st.1 nb ++ D ++ rowL st.2 na) total ht S xa xc W (h.below (hb0 ▸ hb)) hS hx hxl)
 clear h hS hd hT hp hi hg hRU hRV hok hlen hl1 hl2 hnb hna eu ev ht
 go_enter Tryz.func62, Tryz.ntmps62
 go_wp2_with fail
 go_loopw [19, 7] (fun i o wr => ∃ (j : Nat) (v : Value), i = .int .i64 j ∧ o = v ∧ j ≤ nb ∧ wr.ownsRow b0 5 1 v (rowL st.1 j).length ((rowL st.1 j).map encB) ∧ Below b0 w wr) (fun i _ _ => nb - (intOf i).toNat)
 case atStart => exact ⟨0, _, rfl, rfl, Nat.zero_le _, World.ownsRow_nil _ _ _ _, Below.refl _ _⟩
 case round =>
  obtain ⟨j, v, rfl, rfl, hj, hown, hb⟩ := hrel
  have hsr : b0 ≤ wr.heap.size := by have := hb.size; omega
  by_cases hlt : j < nb
  case pos =>
   have hlt2 : (j : Int) < (nb : Int) := by omega
   obtain ⟨-, b', o', x, cx, rfl, hb', hcell, hh8⟩ := pRowsAt.elem (HRU.out.below (hb0 ▸ hb)) hlt
   have hlz : (nthd st.1 j).length = t.i.toNat := HL1.out _ (nthd_mem (by have := HNB.out; omega))
   have hne : nthd st.1 j ≠ [] := fun e => by rw [e] at hlz; simp at hlz; omega
   have hln : (rowL st.1 j).length + (nthd st.1 j).length ≤ 1099511627776 := by
    have := HR1.out j (by omega)
    omega
   have HOW := hid hown
   have HB := hid hb
   clear hown hb hlz
   go_wp2_with (at_builtin; refine append_bytes rfl _ _ rfl b0 (rowL st.1 j) _ rfl HOW.out _ (nthd st.1 j) rfl hh8 hne hln hsr ?_; intro v' w' hown' hgrow)
   refine ⟨⟨j + 1, v', by go_num, rfl, by omega, by rw [rowL]; exact hown', HB.out.grown hgrow hsr (fun k e => (HOW.out.lt k e).1)⟩, by simp [intOf] <;> omega⟩
  obtain rfl : j = nb := by omega
  have hlD : (rowL st.1 j).length + D.length ≤ 1099511627776 := by
   have := HR1.out j (by omega)
   omega
  have hD8 := (HD.out.below (hb0 ▸ hb)).holds8
  have HOW := hid hown
  have HB := hid hb
  have c2r : wr.cell? ⟨bp, 2, none⟩ = some (.slice (some ⟨bu, ou, none⟩) n uc) := cell_of_heap (rowStay HP.out (hb0 ▸ hb)) 2
  have cir : wr.cell? ⟨bi, 0, none⟩ = some (.int .i64 (k : Nat)) := cell_of_heap (rowStay HI.out (hb0 ▸ hb)) 0
  clear hown hb
  go_upto_region 8 with (at_builtin; refine append_bytes rfl _ _ rfl b0 (rowL st.1 j) _ rfl HOW.out _ D rfl hD8 hD1 hlD hsr ?_; intro v' w' hown' hgrow)
  have hb2 := HB.out.grown hgrow hsr (fun k e => (HOW.out.lt k e).1)
  have HO2 := hid hown'
  have HB2 := hid hb2
  have hs2 : b0 ≤ w'.heap.size := by have := hb2.size; omega
  have c2q : w'.cell? ⟨bp, 2, none⟩ = some (.slice (some ⟨bu, ou, none⟩) n uc) := cell_of_heap (rowStay HP.out (hb0 ▸ hb2)) 2
  have ciq : w'.cell? ⟨bi, 0, none⟩ = some (.int .i64 (k : Nat)) := cell_of_heap (rowStay HI.out (hb0 ▸ hb2)) 0
  have hplq : bp < w'.heap.size := by omega
  have hilq : bi < w'.heap.size := by omega
  have cVq : w'.cell? ⟨bu, ou + k * 2 + 1, none⟩ = some (.slice av na kv) := ((hb0 ▸ hb2 : Below w.heap.size w w').cell (p := ⟨bu, ou + k * 2 + 1, none⟩) hbu).trans hV
  have hbuq : bu < w'.heap.size := by omega
  clear HOW HB hown' hgrow hb2 hD8 c2r cir hsr
  clear wr
  go_wp2_with fail
  go_loopw [37, 7] (fun i o wr => ∃ (j2 : Nat) (v : Value), i = .int .i64 j2 ∧ o = v ∧ j2 ≤ na ∧ wr.ownsRow b0 5 1 v (rowL st.1 j ++ D ++ rowL st.2 j2).length ((rowL st.1 j ++ D ++ rowL st.2 j2).map encB) ∧ Below b0 w wr) (fun i _ _ => na - (intOf i).toNat)
  case atStart => exact ⟨0, _, rfl, rfl, Nat.zero_le _, by rw [show rowL st.2 0 = [] from rfl, List.append_nil]; exact HO2.out, HB2.out⟩
  case round =>
   clear HO2 HB2 hs2 c2q ciq hplq hilq cVq hbuq
   obtain ⟨j2, v, rfl, rfl, hj2, hown, hb⟩ := hrel
   have hsr : b0 ≤ wr.heap.size := by have := hb.size; omega
   have hl0 := HR1.out j (by omega)
   have hl2 := HR2.out j2 (by omega)
   by_cases hlt : j2 < na
   case pos =>
    have hlt2 : (j2 : Int) < (na : Int) := by omega
    obtain ⟨-, b', o', x, cx, rfl, hb', hcell, hh8⟩ := pRowsAt.elem (HRV.out.below (hb0 ▸ hb)) hlt
    have hlz : (nthd st.2 j2).length = t.i.toNat := HL2.out _ (nthd_mem (by have := HNA.out; omega))
    have hne : nthd st.2 j2 ≠ [] := fun e => by rw [e] at hlz; simp at hlz; omega
    have hln : (rowL st.1 j ++ D ++ rowL st.2 j2).length + (nthd st.2 j2).length ≤ 1099511627776 := by
     rw [List.length_append, List.length_append]
     omega
    have HOW := hid hown
    have HB := hid hb
    clear hown hb hlz hl0 hl2
    go_wp2_with (at_builtin; refine append_bytes rfl _ _ rfl b0 (rowL st.1 j ++ D ++ rowL st.2 j2) _ rfl HOW.out _ (nthd st.2 j2) rfl hh8 hne hln hsr ?_; intro v' w' hown' hgrow)
    refine ⟨⟨j2 + 1, v', by go_num, rfl, by omega, by rw [show rowL st.1 j ++ D ++ rowL st.2 (j2 + 1) = rowL st.1 j ++ D ++ rowL st.2 j2 ++ nthd st.2 j2 by simp [rowL]]; exact hown', HB.out.grown hgrow hsr (fun k e => (HOW.out.lt k e).1)⟩, by simp [intOf] <;> omega⟩
   obtain rfl : j2 = na := by omega
   obtain ⟨va, vn, vc, rfl⟩ := own_slice hown
   obtain rfl := own_len hown
   have hbz : ∀ z ∈ rowL st.1 j ++ D ++ rowL st.2 j2, 0 ≤ z ∧ z ≤ 255 := by
    have key : ∀ (ds : List (List Int)) (h : ∀ d ∈ ds, AllBytes d) (q : Nat), q ≤ ds.length → ∀ z ∈ rowL ds q, 0 ≤ z ∧ z ≤ 255 := by
     intro ds h q
     induction q with
     | zero => intro _ z hz; cases hz
     | succ q ih =>
      intro hq z hz
      rcases List.mem_append.1 hz with h8 | h8
      ·exact ih (by omega) z h8
      ·exact h _ (nthd_mem (by omega)) z h8
    intro z hz
    rcases List.mem_append.1 hz with h8 | h8
    ·rcases List.mem_append.1 h8 with h9 | h9
     ·exact key _ HA1.out _ (by have := HNB.out; omega) z h9
     ·exact HD.out.1 z h9
    ·exact key _ HA2.out _ (by have := HNA.out; omega) z h8
   have hgv := HGV.out wr hb va vc (hold_of_own hown hbz) (by rw [List.length_append, List.length_append]; omega)
   rw [← HMID.out] at hgv hown ⊢
   have HGV2 := hid hgv
   have HB := hid hb
   have hTr := rowStay HT.out (hb0 ▸ hb)
   have hGr := rowStay HGG.out (hb0 ▸ hb)
   have c0r : wr.cell? ⟨bp, 0, none⟩ = some (.int .u64 total) := cell_of_heap (rowStay HP.out (hb0 ▸ hb)) 0
   have hplr : bp < wr.heap.size := by omega
   clear hgv hown hb hbz HGV hl0 hl2
   unfold TreeV.val at HGV2
   have gc0 : wr.cell? ⟨bg, 0, none⟩ = some (.int .i64 (S.row : Nat)) := cell_of_heap hGr 0
   have gc1 : wr.cell? ⟨bg, 1, none⟩ = some (.int .u64 (S.at_ : Nat)) := cell_of_heap hGr 1
   have gc2 : wr.cell? ⟨bg, 2, none⟩ = some (.int .u64 (S.frm : Nat)) := cell_of_heap hGr 2
   have gc3 : wr.cell? ⟨bg, 3, none⟩ = some (.int .u64 (S.to_ : Nat)) := cell_of_heap hGr 3
   have gc4 : wr.cell? ⟨bg, 4, none⟩ = some (.bool S.last) := cell_of_heap hGr 4
   have gc5 : wr.cell? ⟨bg, 5, none⟩ = some (.bool S.root) := cell_of_heap hGr 5
   have hgr : bg < wr.heap.size := (Array.getElem?_eq_some_iff.1 hGr).1
   go_wp2_with ((with_reducible show wpList _ _ _ (Oper.mk _ (Op.load 26 _) _ _ _ _ :: _) _ _); refine wpList_load_row rfl 26 _ rfl bt rfl _ _ _ _ hTr Tryz.underlying26 rfl (by kernel_rfl) ?_)
   refine HGV2.out.mono ?_; rintro e w9 ⟨x, rfl, hx, hb9⟩
   have HX := hid (hx.le hsr)
   have HBF := hid (HB.out.trans (hb9.mono hsr))
   clear hx hb9
   go_wp2_with fail
   go_ret
   exact ⟨_, rfl, by rw [hb0]; exact HX.out, by rw [hb0]; exact HBF.out⟩
/-- What comes up a way. -/
def TreeV.pathR (t : TreeV) (kz z1 z2 : List Int) (total leaf : Nat) (ss : List StepV) (piece : List Int) : Nat → List Int
 | 0 => t.giveZ kz z1 z2 (wayS t total leaf 0) piece
 | k + 1 => t.giveZ kz z1 z2 (wayS t total leaf (k + 1)) (midL (nths ss k) (t.pathR kz z1 z2 total leaf ss piece k))
/-- What a node of the way is handed. -/
def pathD (t : TreeV) (kz z1 z2 : List Int) (total leaf : Nat) (ss : List StepV) (piece : List Int) : Nat → List Int
 | 0 => piece
 | k + 1 => t.pathR kz z1 z2 total leaf ss piece k
theorem spotOk_way {t : TreeV} (hl : 0 ≤ t.l ∧ t.l ≤ 4294967295) {total leaf : Nat} (ht : (total : Int) ≤ 18446744073709551615) (h : t.spotE total 0 leaf = 0) {k : Nat} (hk : k < (t.rowsOf total).length) : SpotOk t total (wayS t total leaf k) := by
 have her : t.err total = 0 := by
  by_cases h' : t.err total = 0
  ·exact h'
  ·unfold TreeV.spotE at h; rw [if_pos h'] at h; exact absurd h h'
 have hleaf : leaf < nth (t.rowsOf total) 0 := by
  unfold TreeV.spotE at h
  rw [if_neg (by simp [her])] at h
  by_cases hth : t.there total 0 leaf
  ·exact hth.2.2
  ·rw [if_neg hth] at h; omega
 have hR := TreeV.rows_is her
 obtain ⟨q1, q2, q3, q4, -⟩ := way_step her hleaf hk
 have hP := TreeV.parOk3 hl ht her hk (wayA_lt hR hleaf k hk)
 refine ⟨by rw [q3, q4]; exact hP.1, by rw [q3]; exact hP.2, by rw [q3, q4]; exact q1, by rw [q3, q4]; exact q2⟩
theorem TreeV.giveZ_len {t : TreeV} (h : t.validE = 0) (kz z1 z2 : List Int) (S : SpotV) (ds : List Int) : (t.giveZ kz z1 z2 S ds).length ≤ 64 ∧ t.giveZ kz z1 z2 S ds ≠ [] := by
 have h1 := TreeV.node_lenE h kz z1 z2 S.row S.at_ S.last S.root ds
 have h2 := TreeV.outN_ok h S.root
 have h3 : mB t.big ≤ 64 := by cases t.big <;> decide
 refine ⟨?_, fun e => ?_⟩
 ·show (t.node _ _ _ _ _ _ _ _).length ≤ 64; omega
 ·have : (t.node kz z1 z2 S.row S.at_ S.last S.root ds).length = 0 := by
   have e2 : t.node kz z1 z2 S.row S.at_ S.last S.root ds = [] := e
   rw [e2]; rfl
  omega
theorem TreeV.pathR_len {t : TreeV} (h : t.validE = 0) (kz z1 z2 : List Int) (total leaf : Nat) (ss : List StepV) (piece : List Int) (k : Nat) : (t.pathR kz z1 z2 total leaf ss piece k).length ≤ 64 ∧ t.pathR kz z1 z2 total leaf ss piece k ≠ [] := by
 cases k <;> exact TreeV.giveZ_len h ..
theorem info_fn : (Tryz.prog.info? 37).map (fun i => (i.zero, i.size, i.bytes)) = some (some .nilFunc, 1, 8) := by kernel_rfl
/-- The functions, the first j + 1. -/
def fnsL (bt bp bl : Nat) (BI BG : Nat → Nat) (j : Nat) : List Value := .func (.func 60) #[] #[.pointer (some ⟨bt, 0, none⟩), .pointer (some ⟨bp, 0, none⟩), .pointer (some ⟨bl, 0, none⟩)] :: (List.range j).map fun i => .func (.func 62) #[] #[.pointer (some ⟨bp, 0, none⟩), .pointer (some ⟨BI i, 0, none⟩), .pointer (some ⟨bt, 0, none⟩), .pointer (some ⟨BG i, 0, none⟩)]
theorem fnsL_succ (bt bp bl : Nat) (BI BG : Nat → Nat) (j x y : Nat) : fnsL bt bp bl (fun i => if i = j then x else BI i) (fun i => if i = j then y else BG i) (j + 1) = fnsL bt bp bl BI BG j ++ [.func (.func 62) #[] #[.pointer (some ⟨bp, 0, none⟩), .pointer (some ⟨x, 0, none⟩), .pointer (some ⟨bt, 0, none⟩), .pointer (some ⟨y, 0, none⟩)]] := by
 unfold fnsL
 rw [List.range_succ, List.map_append, List.cons_append]
 congr 2
 ·refine List.map_congr_left fun i hi => ?_
  have := List.mem_range.1 hi
  show Value.func _ _ #[_, .pointer (some ⟨if i = j then x else BI i, 0, none⟩), _, .pointer (some ⟨if i = j then y else BG i, 0, none⟩)] = _
  rw [if_neg (by omega), if_neg (by omega)]
 ·simp
def stageC (t : TreeV) (total leaf j : Nat) : Array Value := #[.int .i64 ((wayS t total leaf (j + 1)).row : Nat), .int .u64 ((wayS t total leaf (j + 1)).at_ : Nat), .int .u64 ((wayS t total leaf (j + 1)).frm : Nat), .int .u64 ((wayS t total leaf (j + 1)).to_ : Nat), .bool (wayS t total leaf (j + 1)).last, .bool (wayS t total leaf (j + 1)).root, .int .u64 (chI t total leaf j)]
/-- What Root answers. -/
def RootSays (t : TreeV) (kz z1 z2 : List Int) (total leaf : Nat) (ss : List StepV) (piece : List Int) (b : Nat) (w : World) (v : Value) (e : Int) : Prop :=
 (t.spotE total 0 leaf ≠ 0 ∧ e = t.spotE total 0 leaf ∧ v = .slice none 0 0) ∨
 (t.spotE total 0 leaf = 0 ∧ ¬ ((piece.length : Int) = ((wayS t total leaf 0).to_ : Int) - ((wayS t total leaf 0).frm : Int) ∧ FitsP t.i ((t.rowsOf total).length - 1) (chI t total leaf) (afI t total leaf) ss) ∧ e = 4 ∧ v = .slice none 0 0) ∨
 (t.spotE total 0 leaf = 0 ∧ ((piece.length : Int) = ((wayS t total leaf 0).to_ : Int) - ((wayS t total leaf 0).frm : Int) ∧ FitsP t.i ((t.rowsOf total).length - 1) (chI t total leaf) (afI t total leaf) ss) ∧ e = 0 ∧ OwnB b w v (t.pathR kz z1 z2 total leaf ss piece ((t.rowsOf total).length - 1)))
theorem leaf_span {t : TreeV} (hl : 0 ≤ t.l ∧ t.l ≤ 4294967295) {total leaf : Nat} (h : t.spotE total 0 leaf = 0) : (wayS t total leaf 0).frm ≤ (wayS t total leaf 0).to_ ∧ (wayS t total leaf 0).to_ ≤ total ∧ (wayS t total leaf 0).frm = leaf * t.ln ∧ leaf < nth (t.rowsOf total) 0 := by
 have her : t.err total = 0 := by
  by_cases h' : t.err total = 0
  ·exact h'
  ·unfold TreeV.spotE at h; rw [if_pos h'] at h; exact absurd h h'
 have hleaf : leaf < nth (t.rowsOf total) 0 := by
  unfold TreeV.spotE at h
  rw [if_neg (by simp [her])] at h
  by_cases hth : t.there total 0 leaf
  ·exact hth.2.2
  ·rw [if_neg hth] at h; omega
 obtain ⟨hl1, hl2, hln, h0⟩ := TreeV.ok_facts hl her
 have hR := TreeV.rows_is her
 have hn : ¬ (1 ≤ 0 ∧ nth (t.rowsOf total) 0 = 1) := by omega
 unfold wayS wayA
 by_cases h2 : leaf = nth (t.rowsOf total) 0 - 1
 ·rw [spotIn_last' hn h2]
  rw [hR.first] at hleaf
  have := lvs_lt hl1 hleaf
  exact ⟨by simpa using this, by simp, by simp, by rw [hR.first]; exact hleaf⟩
 ·rw [spotIn_mid' hn h2]
  rw [hR.first] at hleaf h2
  have := lvs_lt (total := total) (l := t.ln) (k := leaf + 1) hl1 (by omega)
  refine ⟨?_, by simpa using this, by simp, by rw [hR.first]; exact hleaf⟩
  simp only [if_true]
  exact Nat.mul_le_mul_right _ (by omega)
theorem root_err (t : TreeV) (hl : 0 ≤ t.l ∧ t.l ≤ 4294967295) (total leaf : Nat) (ht : (total : Int) ≤ 18446744073709551615) (he : t.spotE total 0 leaf ≠ 0) (u v : Value) (w : World) :
  Calls Tryz.prog 26 #[t.val, .agg #[.int .u64 total, .int .u64 leaf, u], v] w fun r w' => r = .returned (.tuple #[.slice none 0 0, .int .i64 (t.spotE total 0 leaf)]) ∧ Below w.heap.size w w' := by
 obtain ⟨b0, hb0⟩ : ∃ b0, w.heap.size = b0 := ⟨_, rfl⟩
 have HW := hid (way_errs t hl total ht leaf he)
 have hq : (t.spotE total 0 leaf != 0) = true := by rw [bne_iff_ne]; exact he
 generalize t.spotE total 0 leaf = ev at *
 clear he
 unfold TreeV.val at *
 go_enter Tryz.func26, Tryz.ntmps26
 go_upto_region 1 with (fail)
 refine letterW ?_
 intro wA hwA
 have hrT : wA.heap[b0]? = some (.cells #[.int .i64 t.k, .int .i64 t.d, .int .i64 t.f, .int .i64 t.p, .int .u32 t.l, .int .i64 t.i, .slice t.ka t.kl t.kc, .slice t.sa t.sl t.sc, .slice t.pa t.pl t.pc] 26 (0, 0)) := by rw [hwA]; exact (Below.heap_alloc _ _ _ (by simp; omega)).trans (World.alloc_new_at _ _ hb0.symm)
 have hrP : wA.heap[b0 + 1]? = some (.cells #[.int .u64 total, .int .u64 leaf, u] 55 (0, 0)) := by rw [hwA]; exact World.alloc_new_at _ _ (by simp; omega)
 have hbA : Below b0 w wA := by rw [hwA, ← hb0]; exact ((Below.refl _ _).alloc (Nat.le_refl _) _).alloc (by simp) _
 have hsA : b0 + 1 < wA.heap.size := (Array.getElem?_eq_some_iff.1 hrP).1
 have k0 : wA.cell? ⟨b0 + 1, 0, none⟩ = some (.int .u64 total) := cell_of_heap hrP 0
 have k1 : wA.cell? ⟨b0 + 1, 1, none⟩ = some (.int .u64 leaf) := cell_of_heap hrP 1
 clear hwA
 go_wp2_with ((with_reducible show wpList _ _ _ (Oper.mk _ (Op.load 26 _) _ _ _ _ :: _) _ _); refine wpList_load_row rfl 26 _ rfl b0 rfl _ _ _ _ hrT Tryz.underlying26 rfl (by kernel_rfl) ?_)
 refine (HW.out wA).mono ?_; rintro e w2 ⟨rfl, hb2⟩
 have HB := hid (hbA.trans (hb2.mono (show b0 ≤ wA.heap.size by omega)))
 clear hb2 hbA
 go_wp2_with fail
 go_ret2
 exact ⟨rfl, by rw [hb0]; exact HB.out⟩
theorem root_ok (t : TreeV) (kz z1 z2 piece : List Int) (total leaf : Nat) (ht : (total : Int) ≤ 18446744073709551615) (hleaf : (leaf : Int) ≤ 18446744073709551615) (he : t.spotE total 0 leaf = 0) (u pv : Value) (ss : List StepV) (w : World) (h : TreeOk t kz z1 z2 w) (hs : StepsAt w u ss) (ho : StepsOk 1048576 ss) (hp : Hold w pv piece) (hpl : piece.length ≤ 1048576) :
  Calls Tryz.prog 26 #[t.val, .agg #[.int .u64 total, .int .u64 leaf, u], pv] w fun r w' => ∃ v e, r = .returned (.tuple #[v, .int .i64 e]) ∧ RootSays t kz z1 z2 total leaf ss piece w.heap.size w' v e ∧ Below w.heap.size w w' := by
 obtain ⟨b0, hb0⟩ : ∃ b0, w.heap.size = b0 := ⟨_, rfl⟩
 obtain ⟨i0, hi, hz0, hz1, hz2⟩ := info_parts info_fn
 have F := way_facts h.l ht he
 obtain ⟨hkf, h00, i1, i2, hv0⟩ := way_kids h.l ht he
 obtain ⟨m, hm⟩ : ∃ m, (t.rowsOf total).length - 1 = m := ⟨_, rfl⟩
 have hm1 : 1 ≤ m := by have := F.two; omega
 have hm2 : m ≤ 255 := by have := F.most; omega
 have hml : (t.rowsOf total).length = m + 1 := by have := F.two; omega
 have hway := way_stages t h.l total ht leaf he
 rw [hm] at hway
 have HW := hid hway
 have HKI := hid (kid_ints hkf)
 rw [hm] at HKI
 have HSPK := hid (fun (k : Nat) (hk : k ≤ m) => spotOk_way h.l ht he (k := k) (by rw [hml]; omega))
 obtain ⟨S0, hS0⟩ : ∃ S, wayS t total leaf 0 = S := ⟨_, rfl⟩
 have hsp0 := HSPK.out 0 (by omega)
 have hrow0 : (wayS t total leaf 0).row = 0 ∧ (wayS t total leaf 0).at_ = leaf := ⟨(spotIn_rowat _ _ _ _ _ _).1, (spotIn_rowat _ _ _ _ _ _).2.1⟩
 rw [hS0] at hsp0 hrow0
 have hspot := fun (W : World) => spot_any t h.l total ht ((0 : Nat) : Int) leaf W
 rw [show t.spotR total ((0 : Nat) : Int) leaf = S0 by have := hsp0.s; rw [hrow0.1, hrow0.2] at this; exact this, show t.spotE total ((0 : Nat) : Int) leaf = 0 from he] at hspot
 unfold SpotV.val at hspot
 have HSP0 := hid hspot
 have hsp1 := leaf_span h.l he
 rw [hS0] at hsp1
 have h0t : (S0.frm : Int) ≤ S0.to_ ∧ (S0.to_ : Int) ≤ 18446744073709551615 := by omega
 obtain ⟨h0t1, h0t2⟩ := h0t
 have hju : IntKind.u64.wrap (piece.length : Int) = (piece.length : Int) := u64_wrap_id _ (by omega) (by omega)
 have hjs : IntKind.u64.wrap ((S0.to_ : Int) - (S0.frm : Int)) = (S0.to_ : Int) - (S0.frm : Int) := u64_wrap_id _ (by omega) (by omega)
 have HFIT := hid (fun (W : World) (g cap : Nat) (h1 : StepsAt W u ss) (hst : StagesIs W g m (fun j => ((wayS t total leaf (j + 1)).row : Int)) (fun j => ((wayS t total leaf (j + 1)).at_ : Int)) (fun j => ((wayS t total leaf (j + 1)).frm : Int)) (fun j => ((wayS t total leaf (j + 1)).to_ : Int)) (chI t total leaf) (fun j => (wayS t total leaf (j + 1)).last) (fun j => (wayS t total leaf (j + 1)).root)) => fits_any t total leaf u ss W h1 ho g cap m hst.1 hm2 hm1 _ _ _ _ (chI t total leaf) (afI t total leaf) _ _ hst.2 HKI.out)
 have HSAY : Hid (∀ (W : World) (v : Value) (e : Int), RootSays t kz z1 z2 total leaf ss piece b0 W v e ↔ ((t.spotE total 0 leaf ≠ 0 ∧ e = t.spotE total 0 leaf ∧ v = .slice none 0 0) ∨ (t.spotE total 0 leaf = 0 ∧ ¬ ((piece.length : Int) = (S0.to_ : Int) - (S0.frm : Int) ∧ FitsP t.i m (chI t total leaf) (afI t total leaf) ss) ∧ e = 4 ∧ v = .slice none 0 0) ∨ (t.spotE total 0 leaf = 0 ∧ ((piece.length : Int) = (S0.to_ : Int) - (S0.frm : Int) ∧ FitsP t.i m (chI t total leaf) (afI t total leaf) ss) ∧ e = 0 ∧ OwnB b0 W v (t.pathR kz z1 z2 total leaf ss piece m)))) := hid (fun W v e => by unfold RootSays; rw [hS0, hm])
 have HE := hid he
 have HT0 := hid h
 have HS := hid hs
 have HO := hid ho
 have HP := hid hp
 obtain ⟨pa, pc, rfl, -, -⟩ := id hp.slice
 obtain ⟨ua, uc, UU, VV, rfl, hun, -⟩ := id hs
 have HPD : Hid (t.pathR kz z1 z2 total leaf ss piece 0 = t.giveZ kz z1 z2 S0 piece) := hid (by unfold TreeV.pathR; rw [hS0])
 have HS0 := hid hsp0
 have HI12 := hid (⟨i1, i2⟩ : 1 ≤ t.i ∧ t.i ≤ 64)
 have HV0 := hid hv0
 have HR0 := hid hrow0
 clear F hkf h00 i1 i2 hv0 hm hml hway hsp0 hrow0 hspot hsp1 he h hs ho hp hS0 hleaf
 unfold TreeV.val at *
 go_enter Tryz.func26, Tryz.ntmps26
 go_upto_region 1 with (fail)
 refine letterW ?_
 intro wA hwA
 have hrT : wA.heap[b0]? = some (.cells #[.int .i64 t.k, .int .i64 t.d, .int .i64 t.f, .int .i64 t.p, .int .u32 t.l, .int .i64 t.i, .slice t.ka t.kl t.kc, .slice t.sa t.sl t.sc, .slice t.pa t.pl t.pc] 26 (0, 0)) := by rw [hwA]; exact (Below.heap_alloc _ _ _ (by simp; omega)).trans (World.alloc_new_at _ _ hb0.symm)
 have hrP : wA.heap[b0 + 1]? = some (.cells #[.int .u64 total, .int .u64 leaf, .slice ua ss.length uc] 55 (0, 0)) := by rw [hwA]; exact World.alloc_new_at _ _ (by simp; omega)
 have hbA : Below b0 w wA := by rw [hwA, ← hb0]; exact ((Below.refl _ _).alloc (Nat.le_refl _) _).alloc (by simp) _
 have hsA : b0 + 1 < wA.heap.size := (Array.getElem?_eq_some_iff.1 hrP).1
 have k0 : wA.cell? ⟨b0 + 1, 0, none⟩ = some (.int .u64 total) := cell_of_heap hrP 0
 have k1 : wA.cell? ⟨b0 + 1, 1, none⟩ = some (.int .u64 leaf) := cell_of_heap hrP 1
 clear hwA
 go_wp2_with ((with_reducible show wpList _ _ _ (Oper.mk _ (Op.load 26 _) _ _ _ _ :: _) _ _); refine wpList_load_row rfl 26 _ rfl b0 rfl _ _ _ _ hrT Tryz.underlying26 rfl (by kernel_rfl) ?_)
 refine (HW.out wA).mono ?_; rintro e w2 ⟨g, cap, rfl, hst, hb2⟩
 clear k0 k1
 have hrT2 := rowStay hrT hb2
 have hrP2 := rowStay hrP hb2
 have HB2 := hid (hbA.trans (hb2.mono (show b0 ≤ wA.heap.size by omega)))
 have HST := hid hst
 have hs2 : b0 + 1 < w2.heap.size := by have := hb2.size; omega
 have k0 : w2.cell? ⟨b0 + 1, 0, none⟩ = some (.int .u64 total) := cell_of_heap hrP2 0
 have k1 : w2.cell? ⟨b0 + 1, 1, none⟩ = some (.int .u64 leaf) := cell_of_heap hrP2 1
 have HRT2 := hid hrT2
 have HRP2 := hid hrP2
 clear hst hb2 hbA hrT hrP HW hsA
 clear wA
 go_upto_region 4 with (fail)
 go_wp2_with ((with_reducible show wpList _ _ _ (Oper.mk _ (Op.load 26 _) _ _ _ _ :: _) _ _); refine wpList_load_row rfl 26 _ rfl b0 rfl _ _ _ _ hrT2 Tryz.underlying26 rfl (by kernel_rfl) ?_)
 refine (HSP0.out w2).mono ?_; rintro e w3 ⟨rfl, hb3⟩
 have HRT3 := hid (rowStay HRT2.out hb3)
 have HRP3 := hid (rowStay HRP2.out hb3)
 have HB3 := hid (HB2.out.trans (hb3.mono (show b0 ≤ w2.heap.size by omega)))
 have HST3 := hid (HST.out.below hb3)
 have hs3 : b0 + 1 < w3.heap.size := by have := hb3.size; omega
 clear hb3 hrT2 hrP2 k0 k1 HRT2 HRP2 HB2 HST hs2
 go_upto_region 5 with ((with_reducible show wpList _ _ _ (Oper.mk none (Op.store 111 _ _) _ _ _ _ :: _) _ _); refine wpList_store_row rfl 111 _ _ rfl w3.heap.size #[.int .i64 (S0.row : Nat), .int .u64 (S0.at_ : Nat), .int .u64 (S0.frm : Nat), .int .u64 (S0.to_ : Nat), .bool S0.last, .bool S0.root] rfl rfl 111 _ (World.alloc_heap_new _ _) (by kernel_rfl) rfl (by simp [Value.oneCell']) ?_)
 refine letterW ?_
 intro V hV
 obtain ⟨b3, hb3⟩ : ∃ b3, w3.heap.size = b3 := ⟨_, rfl⟩
 have hrL : V.heap[b3]? = some (.cells #[.int .i64 (S0.row : Nat), .int .u64 (S0.at_ : Nat), .int .u64 (S0.frm : Nat), .int .u64 (S0.to_ : Nat), .bool S0.last, .bool S0.root] 111 (0, 0)) := by rw [hV, ← hb3]; exact setRow_heap _ _ _ _ _ _ (World.alloc_heap_new _ _)
 have hbV : Below b3 w3 V := by rw [hV, ← hb3]; exact below_setRow ((Below.refl _ _).alloc (Nat.le_refl _) _) (Nat.le_refl _) _
 have HRT := hid ((hbV.block b0 (by omega)).trans HRT3.out)
 have HRP := hid ((hbV.block (b0 + 1) (by omega)).trans HRP3.out)
 have HBV := hid (HB3.out.trans (hbV.mono (show b0 ≤ b3 by omega)))
 have HSTV := hid (HST3.out.below (hb3 ▸ hbV))
 have HRL := hid hrL
 rw [hb3]
 have hlt : b0 + 1 < b3 ∧ b3 < V.heap.size := by have := (Array.getElem?_eq_some_iff.1 hrL).1; omega
 obtain ⟨hlt, hVs⟩ := hlt
 have c2 : V.cell? ⟨b3, 2, none⟩ = some (.int .u64 (S0.frm : Nat)) := cell_of_heap hrL 2
 have c3 : V.cell? ⟨b3, 3, none⟩ = some (.int .u64 (S0.to_ : Nat)) := cell_of_heap hrL 3
 have hVs0 : b0 < V.heap.size ∧ b0 + 1 < V.heap.size := by omega
 obtain ⟨hVs0, hVs1⟩ := hVs0
 clear hV hbV hrL hb3 HRT3 HRP3 HB3 HST3 hs3 HSP0
 by_cases hlen : (piece.length : Int) = (S0.to_ : Int) - (S0.frm : Int)
 case neg =>
  have hq : ((piece.length : Int) != (S0.to_ : Int) - (S0.frm : Int)) = true := by rw [bne_iff_ne]; exact hlen
  have HLEN := hid hlen
  clear hlen
  go_wp2_with fail
  go_ret2
  exact ⟨_, _, rfl, by rw [hb0]; exact (HSAY.out _ _ _).2 (.inr (.inl ⟨HE.out, fun h => HLEN.out h.1, rfl, rfl⟩)), by rw [hb0]; exact HBV.out⟩
 have hq : ((piece.length : Int) != (S0.to_ : Int) - (S0.frm : Int)) = false := by rw [hlen]; simp
 have HLEN := hid hlen
 clear hlen
 have tc0 : V.cell? ⟨b0, 0, none⟩ = some (.int .i64 t.k) := cell_of_heap HRT.out 0
 have tc1 : V.cell? ⟨b0, 1, none⟩ = some (.int .i64 t.d) := cell_of_heap HRT.out 1
 have tc2 : V.cell? ⟨b0, 2, none⟩ = some (.int .i64 t.f) := cell_of_heap HRT.out 2
 have tc3 : V.cell? ⟨b0, 3, none⟩ = some (.int .i64 t.p) := cell_of_heap HRT.out 3
 have tc4 : V.cell? ⟨b0, 4, none⟩ = some (.int .u32 t.l) := cell_of_heap HRT.out 4
 have tc5 : V.cell? ⟨b0, 5, none⟩ = some (.int .i64 t.i) := cell_of_heap HRT.out 5
 have tc6 : V.cell? ⟨b0, 6, none⟩ = some (.slice t.ka t.kl t.kc) := cell_of_heap HRT.out 6
 have tc7 : V.cell? ⟨b0, 7, none⟩ = some (.slice t.sa t.sl t.sc) := cell_of_heap HRT.out 7
 have tc8 : V.cell? ⟨b0, 8, none⟩ = some (.slice t.pa t.pl t.pc) := cell_of_heap HRT.out 8
 have pc0 : V.cell? ⟨b0 + 1, 0, none⟩ = some (.int .u64 total) := cell_of_heap HRP.out 0
 have pc1 : V.cell? ⟨b0 + 1, 1, none⟩ = some (.int .u64 leaf) := cell_of_heap HRP.out 1
 have pc2 : V.cell? ⟨b0 + 1, 2, none⟩ = some (.slice ua ss.length uc) := cell_of_heap HRP.out 2
 go_wp2_with fail
 refine (HFIT.out V g cap (HS.out.below (hb0 ▸ HBV.out)) HSTV.out).mono ?_; rintro e w5 ⟨bb, rfl, hbf, hb5⟩
 have HBF := hid hbf
 have HRT5 := hid (rowStay HRT.out hb5)
 have HRP5 := hid (rowStay HRP.out hb5)
 have HRL5 := hid (rowStay HRL.out hb5)
 have HB5 := hid (HBV.out.trans (hb5.mono (show b0 ≤ V.heap.size by omega)))
 have HST5 := hid (HSTV.out.below hb5)
 have hs5 : b3 < w5.heap.size := by have := hb5.size; omega
 clear hbf hb5 HRT HRP HRL HBV HSTV c2 c3 hVs hVs0 hVs1 HFIT tc0 tc1 tc2 tc3 tc4 tc5 tc6 tc7 tc8 pc0 pc1 pc2
 clear V
 cases bb
 case false =>
  go_wp2_with fail
  go_ret2
  exact ⟨_, _, rfl, by rw [hb0]; exact (HSAY.out _ _ _).2 (.inr (.inl ⟨HE.out, fun h => absurd (HBF.out.2 h.2) (by decide), rfl, rfl⟩)), by rw [hb0]; exact HB5.out⟩
 go_upto_region 8 with (fail)
 go_upto_region 9 with (at_builtin; refine wpList_push rfl _ _ _ rfl w5.heap.size 37 (by decide) i0 .nilFunc 1 8 Tryz.underlying115 hi hz0 hz1 hz2 rfl (by decide) (.slice none 0 0) 0 [] [.func (.func 60) #[] #[.pointer (some ⟨b0, 0, none⟩), .pointer (some ⟨b0 + 1, 0, none⟩), .pointer (some ⟨b3, 0, none⟩)]] _ rfl (World.ownsRow_nil _ _ _ _) rfl rfl (by simp [Value.oneCell']) (by unfold maxLen; omega) (by omega) (Nat.le_refl _) ?_; intro v' w' hown' hkb' hsp')
 have HOWN := hid hown'
 have hbW : Below w5.heap.size w5 w' := ⟨hkb'.os, hkb'.tape, hkb'.output, hkb'.size, fun k hk => hkb'.block k hk⟩
 have HBW := hid hbW
 have hmI : (m : Int) ≤ 255 := by omega
 have hgl5 : g < w5.heap.size := HST5.out.1
 clear hown' hkb' hsp' hbW
 go_wp2_with fail
 go_loopw [61, 12] (fun i v wr => ∃ (j : Nat) (BI BG : Nat → Nat), i = .int .i64 (j : Nat) ∧ j ≤ m ∧ wr.ownsRow w5.heap.size 37 1 v (j + 1) (fnsL b0 (b0 + 1) b3 BI BG j) ∧ (∀ q, q < j → wr.heap[BI q]? = some (.cells #[.int .i64 (q : Nat)] 3 (0, 0)) ∧ wr.heap[BG q]? = some (.cells (stageC t total leaf q) 118 (0, 0))) ∧ Below w5.heap.size w5 wr) (fun i _ _ => m - (intOf i).toNat)
 case atStart => exact ⟨0, fun _ => 0, fun _ => 0, rfl, Nat.zero_le _, HOWN.out, fun q hq => absurd hq (by omega), HBW.out⟩
 case round =>
  clear HOWN HBW
  obtain ⟨j, BI, BG, rfl, hj, hown, hbx, hb⟩ := hrel
  by_cases hlt : j < m
  case pos =>
   have hlt2 : (j : Int) < (m : Int) := by omega
   obtain ⟨s0, s1, s2, s3, s4, s5, s6⟩ := HST5.out.2 j hlt
   have hcl : ∀ o, wr.cell? ⟨g, o, none⟩ = w5.cell? ⟨g, o, none⟩ := fun o => hb.cell (p := ⟨g, o, none⟩) hgl5
   have z0 := (hcl _).trans s0
   have z1 := (hcl _).trans s1
   have z2 := (hcl _).trans s2
   have z3 := (hcl _).trans s3
   have z4 := (hcl _).trans s4
   have z5 := (hcl _).trans s5
   have z6 := (hcl _).trans s6
   have hglr : g < wr.heap.size := by have := hb.size; omega
   obtain ⟨va, vn, vc, rfl⟩ := own_slice hown
   obtain rfl : j + 1 = vn := (own_len hown).symm
   have HOW := hid hown
   have HBX := hid hbx
   have HB := hid hb
   have hwr : w5.heap.size ≤ wr.heap.size := hb.size
   clear s0 s1 s2 s3 s4 s5 s6 hcl hown hbx hb
   go_upto_region 12 with ((with_reducible show wpList _ _ _ (Oper.mk none (Op.store 118 _ _) _ _ _ _ :: _) _ _); refine wpList_store_row rfl 118 _ _ rfl (wr.heap.size + 1) (stageC t total leaf j) rfl rfl 118 _ (World.alloc_new_at _ _ (by simp)) (by kernel_rfl) rfl (by simp [Value.oneCell', stageC]) ?_)
   refine letterW ?_
   intro Y hY
   obtain ⟨bw, hbw⟩ : ∃ bw, wr.heap.size = bw := ⟨_, rfl⟩
   have hrG : Y.heap[bw + 1]? = some (.cells (stageC t total leaf j) 118 (0, 0)) := by rw [hY, ← hbw]; exact setRow_heap _ _ _ _ _ _ (World.alloc_new_at _ _ (by simp))
   have hrI : Y.heap[bw]? = some (.cells #[.int .i64 (j : Nat)] 3 (0, 0)) := by rw [hY, ← hbw]; exact ((below_setRow ((Below.refl _ _).alloc (by simp) _) (Nat.le_refl (wr.heap.size + 1)) _).block wr.heap.size (by omega)).trans (World.alloc_heap_new _ _)
   have hbY : Below bw wr Y := by rw [hY, ← hbw]; exact below_setRow (((Below.refl _ _).alloc (Nat.le_refl _) _).alloc (by simp) _) (by omega) _
   have hownY : Y.ownsRow w5.heap.size 37 1 (.slice va (j + 1) vc) (j + 1) (fnsL b0 (b0 + 1) b3 BI BG j) := pOwnsRow_same' HOW.out (fun g2 _ h2 => hbY.block g2 (by omega))
   have HOY := hid hownY
   have HRI := hid hrI
   have HRG := hid hrG
   have hsY : bw + 1 < Y.heap.size := (Array.getElem?_eq_some_iff.1 hrG).1
   have HBY := hid (HB.out.trans (hbY.mono (show w5.heap.size ≤ bw by omega)))
   have HBXY : Hid (∀ q, q < j → Y.heap[BI q]? = some (.cells #[.int .i64 (q : Nat)] 3 (0, 0)) ∧ Y.heap[BG q]? = some (.cells (stageC t total leaf q) 118 (0, 0))) := hid (fun q hq => ⟨rowStay (HBX.out q hq).1 (hbw ▸ hbY), rowStay (HBX.out q hq).2 (hbw ▸ hbY)⟩)
   rw [hbw]
   have hgY : g < Y.heap.size := by omega
   have hwY : w5.heap.size ≤ Y.heap.size := by omega
   clear hY hrG hrI hbY hownY HOW HBX HB hbw z0 z1 z2 z3 z4 z5 z6 hglr hwr
   clear wr
   go_wp2_with (at_builtin; refine wpList_push rfl _ _ _ rfl w5.heap.size 37 (by decide) i0 .nilFunc 1 8 Tryz.underlying115 hi hz0 hz1 hz2 rfl (by decide) (.slice va (j + 1) vc) (j + 1) (fnsL b0 (b0 + 1) b3 BI BG j) [.func (.func 62) #[] #[.pointer (some ⟨b0 + 1, 0, none⟩), .pointer (some ⟨bw, 0, none⟩), .pointer (some ⟨b0, 0, none⟩), .pointer (some ⟨bw + 1, 0, none⟩)]] _ rfl HOY.out rfl rfl (by simp [Value.oneCell']) (by unfold maxLen; omega) (by omega) hwY ?_; intro v' w' hown' hkb' hsp')
   have hbZ : Below w5.heap.size Y w' := ⟨hkb'.os, hkb'.tape, hkb'.output, hkb'.size, fun k hk => hkb'.block k hk⟩
   have stay : ∀ (p : Nat) (c : Array Value) (T : TypeId), T ≠ 37 → Y.heap[p]? = some (.cells c T (0, 0)) → w'.heap[p]? = some (.cells c T (0, 0)) := fun p c T hT hp => (hsp'.block p (Array.getElem?_eq_some_iff.1 hp).1 (fun e => pOwn_ne HOY.out hp hT e.symm)).trans hp
   refine ⟨⟨j + 1, fun i => if i = j then bw else BI i, fun i => if i = j then bw + 1 else BG i, by go_num, by omega, by rw [fnsL_succ]; exact hown', fun q hq => ?_, HBY.out.trans hbZ⟩, by simp [intOf] <;> omega⟩
   by_cases hqj : q = j
   ·subst hqj
    simp only [if_true]
    exact ⟨stay _ _ _ (by decide) HRI.out, stay _ _ _ (by decide) HRG.out⟩
   ·simp only [if_neg hqj]
    exact ⟨stay _ _ _ (by decide) (HBXY.out q (by omega)).1, stay _ _ _ (by decide) (HBXY.out q (by omega)).2⟩
  obtain rfl : m = j := by omega
  obtain ⟨wm, rfl⟩ : ∃ wm, wm = wr := ⟨_, rfl⟩
  obtain ⟨gf, cf, rfl⟩ := ownsRow_form hown (by omega)
  have hfc : ∀ i u, (fnsL b0 (b0 + 1) b3 BI BG m)[i]? = some u → wm.cell? ⟨gf, i, none⟩ = some u := by
   obtain ⟨cur, e1, e2, e3, -⟩ := own_row hown
   intro i u hi
   rw [cell_of_heap e1 i]
   have h8 : (cur.toList.take (m + 1))[i]? = some u := by rw [e3]; exact hi
   rw [List.getElem?_take] at h8
   split at h8
   ·rw [← Array.getElem?_toList]; exact h8
   ·cases h8
  have hgf : gf < wm.heap.size := by obtain ⟨cur, e1, -⟩ := own_row hown; exact (Array.getElem?_eq_some_iff.1 e1).1
  have HF0 := hid (hfc 0 _ rfl)
  have HFK : Hid (∀ k, k < m → wm.cell? ⟨gf, k + 1, none⟩ = some (.func (.func 62) #[] #[.pointer (some ⟨b0 + 1, 0, none⟩), .pointer (some ⟨BI k, 0, none⟩), .pointer (some ⟨b0, 0, none⟩), .pointer (some ⟨BG k, 0, none⟩)])) := hid (fun k hk => hfc (k + 1) _ (by simp [fnsL, hk]))
  have HBX := hid hbx
  have HRT6 := hid (rowStay HRT5.out hb)
  have HRP6 := hid (rowStay HRP5.out hb)
  have HRL6 := hid (rowStay HRL5.out hb)
  have HB6 := hid (HB5.out.trans (hb.mono (show b0 ≤ w5.heap.size by omega)))
  have hs6 : b3 < wm.heap.size := by have := hb.size; omega
  have hfit := HBF.out.1 (by first | rfl | trivial)
  have HTW := hid (HT0.out.below (hb0 ▸ HB6.out))
  have HPW := hid (HP.out.below (hb0 ▸ HB6.out))
  have hsW := HS.out.below (hb0 ▸ HB6.out)
  clear hown hfc hb hbx HRT5 HRP5 HRL5 HB5 HST5 hgl5 hs5
  obtain ⟨a', uc', UU, VV, eqs, -, hrows⟩ := hsW
  simp only [Value.slice.injEq, true_and] at eqs
  obtain ⟨rfl, rfl⟩ := eqs
  rcases hrows with h8 | ⟨bu, ou, rfl, hbu, hUV⟩
  ·have := hfit.1; rw [h8] at this; simp at this; omega
  have HUV := hid hUV
  have HFIT := hid hfit
  have HSL := hid hfit.1
  clear hUV hfit
  have hDL : ∀ q, (pathD t kz z1 z2 total leaf ss piece q).length ≤ 1048576 := by
   intro q
   cases q with
   | zero => exact hpl
   | succ q => have := (TreeV.pathR_len HV0.out kz z1 z2 total leaf ss piece q).1; show (t.pathR kz z1 z2 total leaf ss piece q).length ≤ _; omega
  have HDL := hid hDL
  have hmw : m + 1 ≤ 256 := by omega
  clear hDL
  go_wp2_with fail
  go_loopw [74, 15] (fun i d W => ∃ q : Nat, i = .int .i64 (q : Nat) ∧ q ≤ m + 1 ∧ Hold W d (pathD t kz z1 z2 total leaf ss piece q) ∧ (1 ≤ q → OwnB b0 W d (pathD t kz z1 z2 total leaf ss piece q)) ∧ Below wm.heap.size wm W) (fun i _ _ => m + 1 - (intOf i).toNat)
  case atStart => exact ⟨0, rfl, Nat.zero_le _, HPW.out, fun h => absurd h (by decide), Below.refl _ _⟩
  case round =>
   obtain ⟨q, rfl, hqm, hD, hO, hb⟩ := hrel
   clear HPW
   have hgr : gf < wr.heap.size := by have := hb.size; omega
   have HB := hid (HB6.out.trans (hb.mono (show b0 ≤ wm.heap.size by omega)))
   by_cases hlt : q < m + 1
   case pos =>
    have hlt2 : (q : Int) < (m : Int) + 1 := by omega
    by_cases hq0 : q = 0
    case pos =>
     have c0 : wr.cell? ⟨gf, q, none⟩ = some (.func (.func 60) #[] #[.pointer (some ⟨b0, 0, none⟩), .pointer (some ⟨b0 + 1, 0, none⟩), .pointer (some ⟨b3, 0, none⟩)]) := by rw [hq0]; exact (hb.cell (p := ⟨gf, 0, none⟩) hgf).trans HF0.out
     have hrt := rowStay HRT6.out hb
     have hrp := rowStay HRP6.out hb
     have hrl := rowStay HRL6.out hb
     have hD1 := hD
     rw [hq0] at hD1
     obtain ⟨da, dc, rfl, -, -⟩ := id hD1.slice
     change Hold wr (.slice da piece.length dc) piece at hD1
     have hG := root1_ok t kz z1 z2 piece total ht S0 b0 (b0 + 1) b3 leaf _ da dc wr (HTW.out.below hb) HS0.out hD1 (by omega) hrt hrp hrl
     have HG := hid hG
     have HQ := hid hq0
     have hsr : b0 ≤ wr.heap.size := by have := hb.size; omega
     clear hD hO hrt hrp hrl hD1 hG hq0
     have HB0 := hid hb
     clear hb
     go_wp2_with fail
     refine HG.out.mono ?_; rintro e w9 ⟨x, rfl, hx, hb9⟩
     have HX := hid hx
     have HB9 := hid hb9
     clear hx hb9
     go_wp2_with fail
     have hp1 : pathD t kz z1 z2 total leaf ss piece (q + 1) = t.giveZ kz z1 z2 S0 piece := by rw [HQ.out]; exact HPD.out
     exact ⟨⟨q + 1, by go_num, by omega, by rw [hp1]; exact HX.out.hold, fun _ => by rw [hp1]; exact HX.out.le hsr, HB0.out.trans (HB9.out.mono (show wm.heap.size ≤ wr.heap.size from HB0.out.size))⟩, by simp [intOf] <;> omega⟩
    case neg =>
     obtain ⟨k, hk⟩ : ∃ k, q = k + 1 := ⟨q - 1, by omega⟩
     have hkm : k < m := by omega
     have c0 : wr.cell? ⟨gf, q, none⟩ = some (.func (.func 62) #[] #[.pointer (some ⟨b0 + 1, 0, none⟩), .pointer (some ⟨BI k, 0, none⟩), .pointer (some ⟨b0, 0, none⟩), .pointer (some ⟨BG k, 0, none⟩)]) := by rw [hk]; exact (hb.cell (p := ⟨gf, k + 1, none⟩) hgf).trans (HFK.out k hkm)
     have hrt := rowStay HRT6.out hb
     have hrp := rowStay HRP6.out hb
     obtain ⟨hri, hrg⟩ := HBX.out k hkm
     have hri := rowStay hri hb
     have hrg := rowStay hrg hb
     unfold stageC at hrg
     obtain ⟨hu1, hu2, hu3, hu4⟩ := HUV.out k (by have := HSL.out; omega)
     have hD1 := hD
     rw [hk] at hD1
     obtain ⟨da, dc, rfl, -, -⟩ := id hD1.slice
     change Hold wr (.slice da (t.pathR kz z1 z2 total leaf ss piece k).length dc) (t.pathR kz z1 z2 total leaf ss piece k) at hD1
     have hl := TreeV.pathR_len HV0.out kz z1 z2 total leaf ss piece k
     have hG := root2_ok t kz z1 z2 (t.pathR kz z1 z2 total leaf ss piece k) total ht (wayS t total leaf (k + 1)) _ (nths ss k) b0 (b0 + 1) (BI k) (BG k) bu ou k ss.length uc leaf (UU k) (VV k) (.slice da (t.pathR kz z1 z2 total leaf ss piece k).length dc) wr (HTW.out.below hb) (HSPK.out (k + 1) (by omega)) hD1 hl.2 hl.1 HI12.out hrt hrp hri hrg (by have := HSL.out; omega) ((hb.cell (p := ⟨bu, ou + k * 2, none⟩) hbu).trans hu1) ((hb.cell (p := ⟨bu, ou + k * 2 + 1, none⟩) hbu).trans hu2) (by have := hb.size; omega) (hu3.below hb) (hu4.below hb) (HO.out.2 _ (nths_mem (by have := HSL.out; omega))) (HFIT.out.2 k hkm).2.2
     have HG := hid hG
     have hsr : b0 ≤ wr.heap.size := by have := hb.size; omega
     have HK := hid hk
     clear hD hO hrt hrp hri hrg hu1 hu2 hu3 hu4 hl hD1 hG hk
     have HB0 := hid hb
     clear hb
     go_wp2_with fail
     refine HG.out.mono ?_; rintro e w9 ⟨x, rfl, hx, hb9⟩
     have HX := hid hx
     have HB9 := hid hb9
     clear hx hb9
     go_wp2_with fail
     have hp1 : pathD t kz z1 z2 total leaf ss piece (q + 1) = t.giveZ kz z1 z2 (wayS t total leaf (k + 1)) (midL (nths ss k) (t.pathR kz z1 z2 total leaf ss piece k)) := by rw [HK.out]; rfl
     exact ⟨⟨q + 1, by go_num, by omega, by rw [hp1]; exact HX.out.hold, fun _ => by rw [hp1]; exact HX.out.le hsr, HB0.out.trans (HB9.out.mono (show wm.heap.size ≤ wr.heap.size from HB0.out.size))⟩, by simp [intOf] <;> omega⟩
   obtain rfl : q = m + 1 := by omega
   have HX := hid (hO (by omega))
   clear hD hO hb
   go_wp2_with fail
   go_ret2
   exact ⟨_, _, rfl, by rw [hb0]; exact (HSAY.out _ _ _).2 (.inr (.inr ⟨HE.out, ⟨HLEN.out, HFIT.out⟩, rfl, HX.out⟩)), by rw [hb0]; exact HB.out⟩
theorem refGiveS_ok (t : TreeV) (kz z1 z2 ds : List Int) (total : Nat) (ht : (total : Int) ≤ 18446744073709551615) (S : SpotV) (da : Option Addr) (dc : Nat) (w : World) (h : TreeOk t kz z1 z2 w) (hS : SpotOk t total S) (hd : Hold w (.slice da ds.length dc) ds) (hdl : ds.length ≤ 1073741824) :
  Calls Tryz.prog 65 #[t.val, .int .u64 total, .agg #[.int .i64 (S.row : Nat), .int .u64 (S.at_ : Nat), .int .u64 (S.frm : Nat), .int .u64 (S.to_ : Nat), .bool S.last, .bool S.root], .slice da ds.length dc] w fun e w' => ∃ u, e = .returned u ∧ OwnB w.heap.size w' u (t.giveZ kz z1 z2 S ds) ∧ Below w.heap.size w w' :=
 refGive_ok t kz z1 z2 ds total ht S.row S.at_ S.frm S.to_ S.last S.root da dc w h hS.p hS.r hS.e hS.s hd hdl
/-- A spot's cells, all of them. -/
def SpotAll (w : World) (g : Nat) (S : SpotV) (j : Nat) : Prop :=
 w.cell? ⟨g, j * 6, none⟩ = some (.int .i64 (S.row : Nat)) ∧ w.cell? ⟨g, j * 6 + 1, none⟩ = some (.int .u64 (S.at_ : Nat)) ∧ w.cell? ⟨g, j * 6 + 2, none⟩ = some (.int .u64 (S.frm : Nat)) ∧ w.cell? ⟨g, j * 6 + 3, none⟩ = some (.int .u64 (S.to_ : Nat)) ∧ w.cell? ⟨g, j * 6 + 4, none⟩ = some (.bool S.last) ∧ w.cell? ⟨g, j * 6 + 5, none⟩ = some (.bool S.root)
theorem SpotAll.below {w w' : World} {g : Nat} {S : SpotV} {j : Nat} (h : SpotAll w g S j) (hg : g < w.heap.size) (hb : Below w.heap.size w w') : SpotAll w' g S j := by
 obtain ⟨h1, h2, h3, h4, h5, h6⟩ := h
 exact ⟨(hb.cell (p := ⟨g, _, none⟩) hg).trans h1, (hb.cell (p := ⟨g, _, none⟩) hg).trans h2, (hb.cell (p := ⟨g, _, none⟩) hg).trans h3, (hb.cell (p := ⟨g, _, none⟩) hg).trans h4, (hb.cell (p := ⟨g, _, none⟩) hg).trans h5, (hb.cell (p := ⟨g, _, none⟩) hg).trans h6⟩
theorem spots_all {t : TreeV} {total leaf : Nat} {w : World} {b g m cap : Nat} (h : w.ownsRow b 111 6 (.slice (some ⟨g, 0, none⟩) (m + 1) cap) (m + 1) (spotsL t total leaf (m + 1))) :
  g < w.heap.size ∧ ∀ j, j < m + 1 → SpotAll w g (wayS t total leaf j) j := by
 refine ⟨(h.lt g (by simp [Value.ownBlock])).2, fun j hj => ⟨?_, ?_, ?_, ?_, ?_, ?_⟩⟩
 · rw [show j * 6 = 6 * j + 0 by omega]; exact (h.cellAt (6 * j + 0) (by omega)).trans (spotsL_get t total leaf (m + 1) j 0 hj (by omega))
 · rw [show j * 6 + 1 = 6 * j + 1 by omega]; exact (h.cellAt (6 * j + 1) (by omega)).trans (spotsL_get t total leaf (m + 1) j 1 hj (by omega))
 · rw [show j * 6 + 2 = 6 * j + 2 by omega]; exact (h.cellAt (6 * j + 2) (by omega)).trans (spotsL_get t total leaf (m + 1) j 2 hj (by omega))
 · rw [show j * 6 + 3 = 6 * j + 3 by omega]; exact (h.cellAt (6 * j + 3) (by omega)).trans (spotsL_get t total leaf (m + 1) j 3 hj (by omega))
 · rw [show j * 6 + 4 = 6 * j + 4 by omega]; exact (h.cellAt (6 * j + 4) (by omega)).trans (spotsL_get t total leaf (m + 1) j 4 hj (by omega))
 · rw [show j * 6 + 5 = 6 * j + 5 by omega]; exact (h.cellAt (6 * j + 5) (by omega)).trans (spotsL_get t total leaf (m + 1) j 5 hj (by omega))
theorem refWay_all (t : TreeV) (hl : 0 ≤ t.l ∧ t.l ≤ 4294967295) (total : Nat) (ht : (total : Int) ≤ 18446744073709551615) (leaf : Nat) (he : t.spotE total 0 leaf = 0) (w : World) :
  Calls Tryz.prog 63 #[t.val, .int .u64 total, .int .u64 leaf] w fun e w' => ∃ g cap, e = .returned (.tuple #[.slice (some ⟨g, 0, none⟩) ((t.rowsOf total).length - 1 + 1) cap, .int .i64 0]) ∧
   g < w'.heap.size ∧ (∀ j, j < (t.rowsOf total).length - 1 + 1 → SpotAll w' g (wayS t total leaf j) j) ∧ Below w.heap.size w w' := by
 have F := way_facts hl ht he
 have e1 : (t.rowsOf total).length - 1 + 1 = (t.rowsOf total).length := by have := F.two; omega
 refine (refWay_ok t total leaf F.two F.most (hid fun k hk w => ?_) (hid fun k hk w => ?_) (hid F.cells) w).mono ?_
 · have := refSpot_any t hl total ht (k : Nat) (wayA t.fn (t.rowsOf total) leaf k) w
   rw [(F.spot k hk).1, (F.spot k hk).2] at this
   exact this
 · have := refParent_any t hl total ht (k : Nat) (wayA t.fn (t.rowsOf total) leaf k) (F.at_ k (by omega)) w
   rw [(F.par k hk).1, (F.par k hk).2] at this
   exact this
 · rintro e w' ⟨v, rfl, hown, hb⟩
   obtain ⟨g, cap, rfl⟩ := ownsRow_form hown (by have := F.two; omega)
   rw [← e1] at hown ⊢
   exact ⟨g, cap, rfl, (spots_all hown).1, (spots_all hown).2, hb⟩
theorem refRoot_err (t : TreeV) (hl : 0 ≤ t.l ∧ t.l ≤ 4294967295) (total leaf : Nat) (ht : (total : Int) ≤ 18446744073709551615) (he : t.spotE total 0 leaf ≠ 0) (u v : Value) (w : World) :
  Calls Tryz.prog 27 #[t.val, .agg #[.int .u64 total, .int .u64 leaf, u], v] w fun r w' => r = .returned (.tuple #[.slice none 0 0, .int .i64 (t.spotE total 0 leaf)]) ∧ Below w.heap.size w w' := by
 obtain ⟨b0, hb0⟩ : ∃ b0, w.heap.size = b0 := ⟨_, rfl⟩
 have HW := hid (refWay_errs t hl total ht leaf he)
 have hq : (t.spotE total 0 leaf != 0) = true := by rw [bne_iff_ne]; exact he
 generalize t.spotE total 0 leaf = ev at *
 clear he
 unfold TreeV.val at *
 go_enter Tryz.func27, Tryz.ntmps27
 go_upto_region 1 with (fail)
 refine letterW ?_
 intro wA hwA
 have hrT : wA.heap[b0]? = some (.cells #[.int .i64 t.k, .int .i64 t.d, .int .i64 t.f, .int .i64 t.p, .int .u32 t.l, .int .i64 t.i, .slice t.ka t.kl t.kc, .slice t.sa t.sl t.sc, .slice t.pa t.pl t.pc] 26 (0, 0)) := by rw [hwA]; exact (Below.heap_alloc _ _ _ (by simp; omega)).trans (World.alloc_new_at _ _ hb0.symm)
 have hrP : wA.heap[b0 + 1]? = some (.cells #[.int .u64 total, .int .u64 leaf, u] 55 (0, 0)) := by rw [hwA]; exact World.alloc_new_at _ _ (by simp; omega)
 have hbA : Below b0 w wA := by rw [hwA, ← hb0]; exact ((Below.refl _ _).alloc (Nat.le_refl _) _).alloc (by simp) _
 have hsA : b0 + 1 < wA.heap.size := (Array.getElem?_eq_some_iff.1 hrP).1
 have k0 : wA.cell? ⟨b0 + 1, 0, none⟩ = some (.int .u64 total) := cell_of_heap hrP 0
 have k1 : wA.cell? ⟨b0 + 1, 1, none⟩ = some (.int .u64 leaf) := cell_of_heap hrP 1
 clear hwA
 go_wp2_with ((with_reducible show wpList _ _ _ (Oper.mk _ (Op.load 26 _) _ _ _ _ :: _) _ _); refine wpList_load_row rfl 26 _ rfl b0 rfl _ _ _ _ hrT Tryz.underlying26 rfl (by kernel_rfl) ?_)
 refine (HW.out wA).mono ?_; rintro e w2 ⟨rfl, hb2⟩
 have HB := hid (hbA.trans (hb2.mono (show b0 ≤ wA.heap.size by omega)))
 clear hb2 hbA
 go_wp2_with fail
 go_ret2
 exact ⟨rfl, by rw [hb0]; exact HB.out⟩
theorem refRoot_ok (t : TreeV) (kz z1 z2 piece : List Int) (total leaf : Nat) (ht : (total : Int) ≤ 18446744073709551615) (hleaf : (leaf : Int) ≤ 18446744073709551615) (he : t.spotE total 0 leaf = 0) (u pv : Value) (ss : List StepV) (w : World) (h : TreeOk t kz z1 z2 w) (hs : StepsAt w u ss) (ho : StepsOk 1048576 ss) (hp : Hold w pv piece) (hpl : piece.length ≤ 1048576) :
  Calls Tryz.prog 27 #[t.val, .agg #[.int .u64 total, .int .u64 leaf, u], pv] w fun r w' => ∃ v e, r = .returned (.tuple #[v, .int .i64 e]) ∧ RootSays t kz z1 z2 total leaf ss piece w.heap.size w' v e ∧ Below w.heap.size w w' := by
 obtain ⟨b0, hb0⟩ : ∃ b0, w.heap.size = b0 := ⟨_, rfl⟩
 have F := way_facts h.l ht he
 obtain ⟨hkf, h00, i1, i2, hv0⟩ := way_kids h.l ht he
 obtain ⟨m, hm⟩ : ∃ m, (t.rowsOf total).length - 1 = m := ⟨_, rfl⟩
 have hm1 : 1 ≤ m := by have := F.two; omega
 have hm2 : m ≤ 255 := by have := F.most; omega
 have hml : (t.rowsOf total).length = m + 1 := by have := F.two; omega
 have hway := refWay_all t h.l total ht leaf he
 rw [hm] at hway
 have HW := hid hway
 have HKI := hid (kid_ints' hkf)
 rw [hm] at HKI
 have HSPK := hid (fun (k : Nat) (hk : k ≤ m) => spotOk_way h.l ht he (k := k) (by rw [hml]; omega))
 obtain ⟨S0, hS0⟩ : ∃ S, wayS t total leaf 0 = S := ⟨_, rfl⟩
 have hsp0 := HSPK.out 0 (by omega)
 rw [hS0] at hsp0
 have hsp1 := leaf_span h.l he
 rw [hS0] at hsp1
 have h0t : (S0.frm : Int) ≤ S0.to_ ∧ (S0.to_ : Int) ≤ 18446744073709551615 := by omega
 obtain ⟨h0t1, h0t2⟩ := h0t
 have hju : IntKind.u64.wrap (piece.length : Int) = (piece.length : Int) := u64_wrap_id _ (by omega) (by omega)
 have hjs : IntKind.u64.wrap ((S0.to_ : Int) - (S0.frm : Int)) = (S0.to_ : Int) - (S0.frm : Int) := u64_wrap_id _ (by omega) (by omega)
 obtain ⟨bb, hbb⟩ : ∃ bb : Bool, (bb = true ↔ FitsP t.i m (chI t total leaf) (afI t total leaf) ss) := by
  by_cases h8 : FitsP t.i m (chI t total leaf) (afI t total leaf) ss
  ·exact ⟨true, iff_of_true rfl h8⟩
  ·exact ⟨false, iff_of_false (by decide) h8⟩
 have hfit : ∀ (W : World) (g cap : Nat), StepsAt W u ss → g < W.heap.size → (∀ j, j < m + 1 → SpotAll W g (wayS t total leaf j) j) → Calls Tryz.prog 64 #[t.val, .agg #[.int .u64 total, .int .u64 leaf, u], .slice (some ⟨g, 0, none⟩) (m + 1) cap] W fun e w' => e = .returned (.bool bb) ∧ Below W.heap.size W w' := by
  intro W g cap h1 hg hst
  refine (refFits_any t total leaf u ss W h1 ho g cap m hg hm2 hm1 (fun j => ((wayS t total leaf j).at_ : Int)) (fun j => ((wayS t total leaf j).frm : Int)) (fun j => ((wayS t total leaf j).to_ : Int)) (chI t total leaf) (afI t total leaf) (fun j hj => ⟨(hst j hj).2.1, (hst j hj).2.2.1, (hst j hj).2.2.2.1⟩) HKI.out).mono ?_
  rintro e w' ⟨b, rfl, hb, hbl⟩
  have : b = bb := by rw [Bool.eq_iff_iff, hb, hbb]
  rw [this]; exact ⟨rfl, hbl⟩
 have HFIT := hid hfit
 clear hfit
 have HBF := hid hbb
 have HSAY : Hid (∀ (W : World) (v : Value) (e : Int), RootSays t kz z1 z2 total leaf ss piece b0 W v e ↔ ((t.spotE total 0 leaf ≠ 0 ∧ e = t.spotE total 0 leaf ∧ v = .slice none 0 0) ∨ (t.spotE total 0 leaf = 0 ∧ ¬ ((piece.length : Int) = (S0.to_ : Int) - (S0.frm : Int) ∧ FitsP t.i m (chI t total leaf) (afI t total leaf) ss) ∧ e = 4 ∧ v = .slice none 0 0) ∨ (t.spotE total 0 leaf = 0 ∧ ((piece.length : Int) = (S0.to_ : Int) - (S0.frm : Int) ∧ FitsP t.i m (chI t total leaf) (afI t total leaf) ss) ∧ e = 0 ∧ OwnB b0 W v (t.pathR kz z1 z2 total leaf ss piece m)))) := hid (fun W v e => by unfold RootSays; rw [hS0, hm])
 have HE := hid he
 have HT0 := hid h
 have HS := hid hs
 have HO := hid ho
 have HP := hid hp
 obtain ⟨pa, pc, rfl, -, -⟩ := id hp.slice
 obtain ⟨ua, uc, UU, VV, rfl, hun, -⟩ := id hs
 have HPD : Hid (t.pathR kz z1 z2 total leaf ss piece 0 = t.giveZ kz z1 z2 S0 piece) := hid (by unfold TreeV.pathR; rw [hS0])
 have HS0 := hid hsp0
 have HI12 := hid (⟨i1, i2⟩ : 1 ≤ t.i ∧ t.i ≤ 64)
 have HV0 := hid hv0
 have HS0E := hid hS0
 have HGV := hid (fun (W : World) (S : SpotV) (ds : List Int) (da : Option Addr) (dc : Nat) (hT : TreeOk t kz z1 z2 W) (hS : SpotOk t total S) (hd : Hold W (.slice da ds.length dc) ds) (hdl : ds.length ≤ 1073741824) => refGiveS_ok t kz z1 z2 ds total ht S da dc W hT hS hd hdl)
 clear F hkf h00 i1 i2 hv0 hm hml hway hsp1 hsp0 he h hs ho hp hS0 hleaf hbb
 unfold TreeV.val at *
 go_enter Tryz.func27, Tryz.ntmps27
 go_upto_region 1 with (fail)
 refine letterW ?_
 intro wA hwA
 have hrT : wA.heap[b0]? = some (.cells #[.int .i64 t.k, .int .i64 t.d, .int .i64 t.f, .int .i64 t.p, .int .u32 t.l, .int .i64 t.i, .slice t.ka t.kl t.kc, .slice t.sa t.sl t.sc, .slice t.pa t.pl t.pc] 26 (0, 0)) := by rw [hwA]; exact (Below.heap_alloc _ _ _ (by simp; omega)).trans (World.alloc_new_at _ _ hb0.symm)
 have hrP : wA.heap[b0 + 1]? = some (.cells #[.int .u64 total, .int .u64 leaf, .slice ua ss.length uc] 55 (0, 0)) := by rw [hwA]; exact World.alloc_new_at _ _ (by simp; omega)
 have hbA : Below b0 w wA := by rw [hwA, ← hb0]; exact ((Below.refl _ _).alloc (Nat.le_refl _) _).alloc (by simp) _
 have hsA : b0 + 1 < wA.heap.size := (Array.getElem?_eq_some_iff.1 hrP).1
 have k0 : wA.cell? ⟨b0 + 1, 0, none⟩ = some (.int .u64 total) := cell_of_heap hrP 0
 have k1 : wA.cell? ⟨b0 + 1, 1, none⟩ = some (.int .u64 leaf) := cell_of_heap hrP 1
 clear hwA
 go_wp2_with ((with_reducible show wpList _ _ _ (Oper.mk _ (Op.load 26 _) _ _ _ _ :: _) _ _); refine wpList_load_row rfl 26 _ rfl b0 rfl _ _ _ _ hrT Tryz.underlying26 rfl (by kernel_rfl) ?_)
 refine (HW.out wA).mono ?_; rintro e w2 ⟨g, cap, rfl, hg2, hst, hb2⟩
 clear k0 k1
 have HRT := hid (rowStay hrT hb2)
 have HRP := hid (rowStay hrP hb2)
 have HB2 := hid (hbA.trans (hb2.mono (show b0 ≤ wA.heap.size by omega)))
 have HST := hid hst
 have hs2 : b0 + 1 < w2.heap.size := by have := hb2.size; omega
 clear hst hb2 hbA hrT hrP HW hsA
 clear wA
 have hx0 := HST.out 0 (by omega)
 rw [HS0E.out] at hx0
 obtain ⟨x0, x1, x2, x3, x4, x5⟩ := hx0
 simp only [Nat.zero_mul, Nat.zero_add] at x0 x1 x2 x3 x4 x5
 go_upto_region 4 with (fail)
 by_cases hlen : (piece.length : Int) = (S0.to_ : Int) - (S0.frm : Int)
 case neg =>
  have hq : ((piece.length : Int) != (S0.to_ : Int) - (S0.frm : Int)) = true := by rw [bne_iff_ne]; exact hlen
  have HLEN := hid hlen
  clear hlen
  go_quiet (fail)
  go_wp2_with fail
  go_ret2
  exact ⟨_, _, rfl, by rw [hb0]; exact (HSAY.out _ _ _).2 (.inr (.inl ⟨HE.out, fun h => HLEN.out h.1, rfl, rfl⟩)), by rw [hb0]; exact HB2.out.trans (below_draws _ _ _)⟩
 have hq : ((piece.length : Int) != (S0.to_ : Int) - (S0.frm : Int)) = false := by rw [hlen]; simp
 have HLEN := hid hlen
 clear hlen
 refine wp_region_ac (n := 20) (fun _ W => Below w2.heap.size w2 W) 0 [.v 27 (.slice pa piece.length pc), .v 28 (.int .i64 (piece.length : Nat)), .v 29 (.int .u64 (piece.length : Nat)), .v 30 (.slice (some ⟨g, 0, none⟩) (m + 1) cap), .v 31 (.pointer (some ⟨g, 0, none⟩)), .v 32 (.pointer (some ⟨g, 3, none⟩)), .v 33 (.int .u64 (S0.to_ : Nat)), .v 34 (.slice (some ⟨g, 0, none⟩) (m + 1) cap), .v 35 (.pointer (some ⟨g, 0, none⟩)), .v 36 (.pointer (some ⟨g, 2, none⟩)), .v 37 (.int .u64 (S0.frm : Nat)), .v 38 (.int .u64 ((S0.to_ : Int) - (S0.frm : Int))), .v 39 (.bool false), .v 40 (.bool false), .v 41 (.agg #[.int .i64 t.k, .int .i64 t.d, .int .i64 t.f, .int .i64 t.p, .int .u32 t.l, .int .i64 t.i, .slice t.ka t.kl t.kc, .slice t.sa t.sl t.sc, .slice t.pa t.pl t.pc]), .v 42 (.agg #[.int .u64 total, .int .u64 leaf, .slice ua ss.length uc]), .v 43 (.slice (some ⟨g, 0, none⟩) (m + 1) cap), .v 44 (.bool bb), .v 45 (.bool (!bb)), .v 46 (.bool (!bb))] (by exact trivial) (Below.refl _ _).drew (fun f W W' h hb => h.trans (hb.mono h.size)) ?_ ?_ ?_
 ·repeat' (with_reducible first | exact eachO_nil | refine eachO_cons ?_ ?_)
  all_goals try
   refine .inr ?_
   intro A x W f hA hR hf hf2 hx hdep D K hK
   have a2 := hA.2 2 (by decide)
   conv at a2 => rhs; whnf
   have a3 := hA.2 3 (by decide)
   conv at a3 => rhs; whnf
   have a4 := hA.2 4 (by decide)
   conv at a4 => rhs; whnf
   have a8 := hA.2 8 (by decide)
   conv at a8 => rhs; whnf
   have hgW : g < W.heap.size := Nat.lt_of_lt_of_le hg2 hR.size
   have y2 : W.cell? ⟨g, 2, none⟩ = some (.int .u64 (S0.frm : Nat)) := (hR.cell (p := ⟨g, 2, none⟩) hg2).trans x2
   have y3 : W.cell? ⟨g, 3, none⟩ = some (.int .u64 (S0.to_ : Nat)) := (hR.cell (p := ⟨g, 3, none⟩) hg2).trans x3
   simp only [DepF, nthF] at D
   clear hdep hA
   go_simp
   exact hK _ _ BR rfl
  try any_goals exact .inl rfl
  all_goals refine .inr ?_
  ·intro A x W f hA hR hf hf2 hx hdep D K hK
   have a3 := hA.2 3 (by decide)
   conv at a3 => rhs; whnf
   exact wp_load_row 26 _ rfl b0 a3 _ _ _ _ (rowStay HRT.out hR) Tryz.underlying26 rfl (by kernel_rfl) (hK _ _ BR rfl)
  ·intro A x W f hA hR hf hf2 hx hdep D K hK
   have a4 := hA.2 4 (by decide)
   conv at a4 => rhs; whnf
   exact wp_load_row 55 _ rfl (b0 + 1) a4 _ _ _ _ (rowStay HRP.out hR) Tryz.underlying55 rfl (by kernel_rfl) (hK _ _ BR rfl)
  ·intro A x W f hA hR hf hf2 hx hdep D K hK
   have g41 := gw hA hdep 14 41
   have g42 := gw hA hdep 15 42
   have g43 := gw hA hdep 16 43
   clear hdep hA D
   go_simp
   refine (HFIT.out W g cap (HS.out.below (hb0 ▸ HB2.out.trans (hR.mono (by omega)))) (Nat.lt_of_lt_of_le hg2 hR.size) (fun j hj => (HST.out j hj).below hg2 hR)).mono ?_; rintro e w5 ⟨rfl, hb5⟩
   exact hK _ _ hb5 rfl
 ·intro A x W hA hR hx hdep K hK
  have a2 := hA.2 2 (by decide)
  conv at a2 => rhs; whnf
  clear hdep hA
  go_simp
  exact hK _ _ (fun h => by cases h) hR ⟨.inl rfl, .inr (.inr (fun _ h => h)), .inr (.inr (fun _ h => h)), .inr (.inr (fun _ h => h)), .inr (.inr (fun _ h => h)), .inr (.inr (fun _ h => h)), .inr (.inr (fun _ h => h)), .inr (.inr (fun _ h => h)), .inr (.inr (fun _ h => h)), .inr (.inr (fun _ h => h)), .inr (.inr (fun _ h => h)), .inr (.inr (fun _ h => h)), .inr (.inr (fun _ h => h)), .inr (.inr (fun _ h => h)), .inr (.inr (fun _ h => h)), .inr (.inr (fun _ h => h)), .inr (.inr (fun _ h => h)), .inr (.inr (fun _ h => h)), .inr (.inr (fun _ h => h)), .inr (.inr (fun _ h => h)), trivial⟩ rfl
 intro x W hR hall
 clear hall
 refine thenTail_nil ?_
 simp only [layS, Act.put, List.setIfInBounds_toArray, List.set_cons_zero, List.set_cons_succ]
 have hR' := hR
 have HRT3 := hid (rowStay HRT.out hR)
 have HRP3 := hid (rowStay HRP.out hR)
 have HB3 := hid (HB2.out.trans (hR.mono (show b0 ≤ w2.heap.size by omega)))
 have HST3 := hid (fun j hj => (HST.out j hj).below hg2 hR)
 have hs3 : b0 + 1 < W.heap.size := by have := hR.size; omega
 have hg3 : g < W.heap.size := by have := hR.size; omega
 obtain ⟨w3, rfl⟩ : ∃ w3, w3 = W := ⟨_, rfl⟩
 clear hR hR' HRT HRP HB2 HST hs2 hg2 x0 x1 x2 x3 x4 x5
 clear w2
 cases bb
 case false =>
  go_wp2_with fail
  go_ret2
  exact ⟨_, _, rfl, by rw [hb0]; exact (HSAY.out _ _ _).2 (.inr (.inl ⟨HE.out, fun h => absurd (HBF.out.2 h.2) (by decide), rfl, rfl⟩)), by rw [hb0]; exact HB3.out⟩
 have hx0 := HST3.out 0 (by omega)
 rw [HS0E.out] at hx0
 obtain ⟨x0, x1, x2, x3, x4, x5⟩ := hx0
 simp only [Nat.zero_mul, Nat.zero_add] at x0 x1 x2 x3 x4 x5
 have d0 : w3.cell? ⟨b0 + 1, 0, none⟩ = some (.int .u64 total) := cell_of_heap HRP3.out 0
 have HTW := hid (HT0.out.below (hb0 ▸ HB3.out))
 have HPW := hid (HP.out.below (hb0 ▸ HB3.out))
 go_upto_region 6 with (fail)
 refine wp_region_c (n := 9) (w0 := w3) (B := w3.heap.size) [.v 47 (.agg #[.int .i64 t.k, .int .i64 t.d, .int .i64 t.f, .int .i64 t.p, .int .u32 t.l, .int .i64 t.i, .slice t.ka t.kl t.kc, .slice t.sa t.sl t.sc, .slice t.pa t.pl t.pc]), .v 48 (.pointer (some ⟨b0 + 1, 0, none⟩)), .v 49 (.int .u64 total), .v 50 (.slice (some ⟨g, 0, none⟩) (m + 1) cap), .v 51 (.pointer (some ⟨g, 0, none⟩)), .v 52 (.agg #[.int .i64 (S0.row : Nat), .int .u64 (S0.at_ : Nat), .int .u64 (S0.frm : Nat), .int .u64 (S0.to_ : Nat), .bool S0.last, .bool S0.root]), .v 53 (.slice pa piece.length pc), .p 54 (fun u W => OwnB w3.heap.size W u (t.giveZ kz z1 z2 S0 piece)), .p 10 (fun u W => OwnB w3.heap.size W u (t.giveZ kz z1 z2 S0 piece))] (by exact ⟨(fun _ _ _ h hb => OwnB.kb h (KB.of_below hb (Nat.zero_le _))), (fun _ _ _ h hb => OwnB.kb h (KB.of_below hb (Nat.zero_le _))), trivial⟩) (Below.refl _ _).drew (Nat.le_refl _) ?_ ?_
 ·repeat' (with_reducible first | exact eachO_nil | refine eachO_cons ?_ ?_)
  all_goals try
   intro A x W hA hW hBW hdep D K hK
   have a2 := hA.2 2 (by decide)
   conv at a2 => rhs; whnf
   have a3 := hA.2 3 (by decide)
   conv at a3 => rhs; whnf
   have a4 := hA.2 4 (by decide)
   conv at a4 => rhs; whnf
   have a8 := hA.2 8 (by decide)
   conv at a8 => rhs; whnf
   have hgW : g < W.heap.size := Nat.lt_of_lt_of_le hg3 hW.size
   have hPW : b0 + 1 < W.heap.size := Nat.lt_of_lt_of_le hs3 hW.size
   have y0 : W.cell? ⟨g, 0, none⟩ = some (.int .i64 (S0.row : Nat)) := (hW.cell (p := ⟨g, 0, none⟩) hg3).trans x0
   have y1 : W.cell? ⟨g, 1, none⟩ = some (.int .u64 (S0.at_ : Nat)) := (hW.cell (p := ⟨g, 1, none⟩) hg3).trans x1
   have y2 : W.cell? ⟨g, 2, none⟩ = some (.int .u64 (S0.frm : Nat)) := (hW.cell (p := ⟨g, 2, none⟩) hg3).trans x2
   have y3 : W.cell? ⟨g, 3, none⟩ = some (.int .u64 (S0.to_ : Nat)) := (hW.cell (p := ⟨g, 3, none⟩) hg3).trans x3
   have y4 : W.cell? ⟨g, 4, none⟩ = some (.bool S0.last) := (hW.cell (p := ⟨g, 4, none⟩) hg3).trans x4
   have y5 : W.cell? ⟨g, 5, none⟩ = some (.bool S0.root) := (hW.cell (p := ⟨g, 5, none⟩) hg3).trans x5
   have e0 : W.cell? ⟨b0 + 1, 0, none⟩ = some (.int .u64 total) := (hW.cell (p := ⟨b0 + 1, 0, none⟩) hs3).trans d0
   simp only [DepF, nthF] at D
   clear hdep hA
   go_simp
   exact hK _ _ BR rfl
  ·intro A x W hA hW hBW hdep D K hK
   have a3 := hA.2 3 (by decide)
   conv at a3 => rhs; whnf
   exact wp_load_row 26 _ rfl b0 a3 _ _ _ _ (rowStay HRT3.out hW) Tryz.underlying26 rfl (by kernel_rfl) (hK _ _ BR rfl)
  ·intro A x W hA hW hBW hdep D K hK
   have g47 := gv hA hdep 0 47
   have g49 := gv hA hdep 2 49
   have g52 := gv hA hdep 5 52
   have g53 := gv hA hdep 6 53
   clear hdep hA D
   go_simp
   refine (HGV.out W S0 piece pa pc (HTW.out.below hW) HS0.out (HPW.out.below hW) (by omega)).mono ?_; rintro e w5 ⟨u, rfl, hu, hb5⟩
   exact hK _ _ hb5 (hu.le hW.size)
  ·intro A x W hA hW hBW hdep D K hK
   simp only [DepF, nthF] at D
   obtain ⟨ho9, -⟩ := D
   obtain ⟨x9, hx9⟩ : ∃ x9, A.tmps.getD 54 undef = x9 := ⟨_, rfl⟩
   rw [hx9] at ho9
   have g54 : A.tmps[54]?.getD undef = x9 := by rw [← Array.getD_eq_getD_getElem?]; exact hx9
   clear hdep hA hx9
   go_simp
   exact hK _ _ BR ho9
 intro x W hW hBW hall
 obtain ⟨-, e10, -⟩ := hall
 change OwnB w3.heap.size W (x 10) (t.giveZ kz z1 z2 S0 piece) at e10
 refine thenTail_nil ?_
 simp only [layS, Act.put, List.setIfInBounds_toArray, List.set_cons_zero, List.set_cons_succ]
 have E10 := hid e10
 have HW := hid hW
 have hsW := HS.out.below (hb0 ▸ HB3.out)
 obtain ⟨a', uc', UU, VV, eqs, -, hrows⟩ := hsW
 simp only [Value.slice.injEq, true_and] at eqs
 obtain ⟨rfl, rfl⟩ := eqs
 have hfit := HBF.out.1 (by first | rfl | trivial)
 rcases hrows with h8 | ⟨bu, ou, rfl, hbu, hUV⟩
 ·have := hfit.1; rw [h8] at this; simp at this; omega
 have HUV := hid hUV
 have HFT := hid hfit
 have HSL := hid hfit.1
 clear hUV hfit e10 hW hBW x0 x1 x2 x3 x4 x5 d0 hju hjs hq h0t1 h0t2
 go_wp2_with fail
 go_loopw [11, 10] (fun i v W => ∃ k : Nat, i = .int .i64 ((k : Int) + 1) ∧ k ≤ m ∧ OwnB w3.heap.size W v (t.pathR kz z1 z2 total leaf ss piece k) ∧ Below w3.heap.size w3 W) (fun i _ _ => m + 1 - (intOf i).toNat)
 case atStart => exact ⟨0, rfl, Nat.zero_le _, by rw [HPD.out]; exact E10.out, HW.out⟩
 case round =>
  clear E10 HW
  obtain ⟨k, rfl, hk, hO, hb⟩ := hrel
  obtain ⟨wm, rfl⟩ : ∃ wm, wm = wr := ⟨_, rfl⟩
  have hgr : g < wm.heap.size := by have := hb.size; omega
  by_cases hlt : k < m
  case pos =>
   have hlt2 : (k : Int) < (m : Int) := by omega
   have HRTr := hid (rowStay HRT3.out hb)
   have HRPr := hid (rowStay HRP3.out hb)
   obtain ⟨hu1, hu2, hu3, hu4⟩ := HUV.out k (by have := HSL.out; omega)
   obtain ⟨f1, f2, f3⟩ := HFT.out.2 k hlt
   have hok := HO.out.2 _ (nths_mem (ss := ss) (k := k) (by have := HSL.out; omega))
   have hU := (hb.cell (p := ⟨bu, ou + k * 2, none⟩) hbu).trans hu1
   have hV := (hb.cell (p := ⟨bu, ou + k * 2 + 1, none⟩) hbu).trans hu2
   have hRU := hu3.below hb
   have hRV := hu4.below hb
   obtain ⟨au, ku, VU, eu, -, -⟩ := id hRU
   obtain ⟨av, kv, VV2, ev, -, -⟩ := id hRV
   rw [eu] at hU hRU
   rw [ev] at hV hRV
   have hl1 : ∀ d ∈ (nths ss k).1, d.length = t.i.toNat := fun d hd => by have := f3 d (List.mem_append_left _ hd); have := HI12.out; omega
   have hl2 : ∀ d ∈ (nths ss k).2, d.length = t.i.toNat := fun d hd => by have := f3 d (List.mem_append_right _ hd); have := HI12.out; omega
   have HR1 := hid (rowL_le (m := 64) (fun d hd => by have := hl1 d hd; have := HI12.out; omega))
   have HR2 := hid (rowL_le (m := 64) (fun d hd => by have := hl2 d hd; have := HI12.out; omega))
   have HL1 := hid hl1
   have HL2 := hid hl2
   have HA1 := hid (fun d hd => (hok.1.2 d hd).2)
   have HA2 := hid (fun d hd => (hok.2.2 d hd).2)
   obtain ⟨nb, hnb⟩ : ∃ nb, (nths ss k).1.length = nb := ⟨_, rfl⟩
   obtain ⟨na, hna⟩ : ∃ na, (nths ss k).2.length = na := ⟨_, rfl⟩
   have hnb1 : nb ≤ 1048576 := by rw [← hnb]; exact hok.1.1
   have hna1 : na ≤ 1048576 := by rw [← hna]; exact hok.2.1
   rw [hnb] at hU hRU HR1
   rw [hna] at hV hRV HR2
   have HNB := hid hnb
   have HNA := hid hna
   have HRU := hid hRU
   have HRV := hid hRV
   obtain ⟨st, hst⟩ : ∃ st, nths ss k = st := ⟨_, rfl⟩
   obtain ⟨D9, hD⟩ : ∃ D9, t.pathR kz z1 z2 total leaf ss piece k = D9 := ⟨_, rfl⟩
   obtain ⟨hD2, hD1⟩ := TreeV.pathR_len HV0.out kz z1 z2 total leaf ss piece k
   rw [hD] at hO hD1 hD2
   rw [hst] at HR1 HR2 HL1 HL2 HA1 HA2 HNB HNA HRU HRV
   have HNEXT : Hid (t.pathR kz z1 z2 total leaf ss piece (k + 1) = t.giveZ kz z1 z2 (wayS t total leaf (k + 1)) (midL st D9)) := hid (by rw [← hst, ← hD]; rfl)
   have HMID := hid (show midL st D9 = rowL st.1 nb ++ D9 ++ rowL st.2 na by unfold midL; rw [HNB.out, HNA.out])
   have HX0 := hid ((HST3.out (k + 1) (by omega)).below hg3 hb)
   have HTr := hid (HTW.out.below hb)
   obtain ⟨b1, hb1⟩ : ∃ b1, wm.heap.size = b1 := ⟨_, rfl⟩
   have hbur : bu < b1 := by have := hb.size; omega
   have hplr : b0 + 1 < b1 := by have := hb.size; omega
   obtain ⟨va, vc, rfl, -, -⟩ := id hO.hold.slice
   have HD := hid hO
   have HBr := hid hb
   have HUr := hid hU
   have HVr := hid hV
   clear hO hb hu1 hu2 hu3 hu4 f1 f2 f3 hok hU hV hRU hRV eu ev hl1 hl2 hnb hna hst hD
   have HP2 : Hid (∀ (W : World), Below b1 wm W → W.cell? ⟨b0 + 1, 2, none⟩ = some (.slice (some ⟨bu, ou, none⟩) ss.length uc) ∧ W.cell? ⟨b0 + 1, 0, none⟩ = some (.int .u64 total) ∧ W.cell? ⟨bu, ou + k * 2, none⟩ = some (.slice au nb ku) ∧ W.cell? ⟨bu, ou + k * 2 + 1, none⟩ = some (.slice av na kv) ∧ b0 + 1 < W.heap.size ∧ bu < W.heap.size ∧ b1 ≤ W.heap.size) := hid (fun W hb => ⟨cell_of_heap (rowStay HRPr.out (hb1 ▸ hb)) 2, cell_of_heap (rowStay HRPr.out (hb1 ▸ hb)) 0, (hb.cell (p := ⟨bu, ou + k * 2, none⟩) hbur).trans HUr.out, (hb.cell (p := ⟨bu, ou + k * 2 + 1, none⟩) hbur).trans HVr.out, by have := hb.size; omega, by have := hb.size; omega, by have := hb.size; omega⟩)
   have hkss : (k : Int) < (ss.length : Int) := by have := HSL.out; omega
   go_wp2_with fail
   go_loopw [12, 13] (fun o i W => ∃ (j : Nat) (v : Value), i = .int .i64 (j : Nat) ∧ o = v ∧ j ≤ nb ∧ W.ownsRow b1 5 1 v (rowL st.1 j).length ((rowL st.1 j).map encB) ∧ Below b1 wm W) (fun _ i _ => nb - (intOf i).toNat)
   case atStart => exact ⟨0, _, rfl, rfl, Nat.zero_le _, World.ownsRow_nil _ _ _ _, Below.refl _ _⟩
   case round =>
    obtain ⟨j, v, rfl, rfl, hj, hown, hb⟩ := hrel
    obtain ⟨p2, p0, pu, pv, ps, pb, hsr⟩ := HP2.out _ hb
    by_cases hltj : j < nb
    case pos =>
     have hltj2 : (j : Int) < (nb : Int) := by omega
     obtain ⟨-, b', o', x, cx, rfl, hbe, hcell, hh8⟩ := pRowsAt.elem (HRU.out.below (hb1 ▸ hb)) hltj
     have hlz : (nthd st.1 j).length = t.i.toNat := HL1.out _ (nthd_mem (by have := HNB.out; omega))
     have hne : nthd st.1 j ≠ [] := fun e => by rw [e] at hlz; have := HI12.out; simp at hlz; omega
     have hln : (rowL st.1 j).length + (nthd st.1 j).length ≤ 1099511627776 := by
      have := HR1.out j (by omega)
      have := HI12.out
      omega
     have HOW := hid hown
     have HB := hid hb
     clear hown hb hlz
     go_wp2_with (at_builtin; refine append_bytes rfl _ _ rfl b1 (rowL st.1 j) _ rfl HOW.out _ (nthd st.1 j) rfl hh8 hne hln hsr ?_; intro v' w' hown' hgrow)
     refine ⟨⟨j + 1, v', by go_num, rfl, by omega, by rw [rowL]; exact hown', HB.out.grown hgrow hsr (fun k e => (HOW.out.lt k e).1)⟩, by simp [intOf] <;> omega⟩
    obtain rfl : j = nb := by omega
    have hlD : (rowL st.1 j).length + D9.length ≤ 1099511627776 := by
     have := HR1.out j (by omega)
     omega
    have hD8 := ((HD.out.hold.below (hb1 ▸ hb)).holds8)
    have HOW := hid hown
    have HB := hid hb
    clear hown hb
    go_upto_region 16 with (at_builtin; refine append_bytes rfl _ _ rfl b1 (rowL st.1 j) _ rfl HOW.out _ D9 rfl hD8 hD1 hlD hsr ?_; intro v' w' hown' hgrow)
    have hb2 := HB.out.grown hgrow hsr (fun k e => (HOW.out.lt k e).1)
    have HO2 := hid hown'
    have HB2 := hid hb2
    clear HOW HB hown' hgrow hb2 hD8 p2 p0 pu pv ps pb hsr
    go_wp2_with fail
    go_loopw [12, 14] (fun o i W => ∃ (j2 : Nat) (v : Value), i = .int .i64 (j2 : Nat) ∧ o = v ∧ j2 ≤ na ∧ W.ownsRow b1 5 1 v (rowL st.1 j ++ D9 ++ rowL st.2 j2).length ((rowL st.1 j ++ D9 ++ rowL st.2 j2).map encB) ∧ Below b1 wm W) (fun _ i _ => na - (intOf i).toNat)
    case atStart => exact ⟨0, _, rfl, rfl, Nat.zero_le _, by rw [show rowL st.2 0 = [] from rfl, List.append_nil]; exact HO2.out, HB2.out⟩
    case round =>
     clear HO2 HB2
     obtain ⟨j2, v, rfl, rfl, hj2, hown, hb⟩ := hrel
     obtain ⟨p2, p0, pu, pv, ps, pb, hsr⟩ := HP2.out _ hb
     have hl0 := HR1.out j (by omega)
     have hl2 := HR2.out j2 (by omega)
     by_cases hltj : j2 < na
     case pos =>
      have hltj2 : (j2 : Int) < (na : Int) := by omega
      obtain ⟨-, b', o', x, cx, rfl, hbe, hcell, hh8⟩ := pRowsAt.elem (HRV.out.below (hb1 ▸ hb)) hltj
      have hlz : (nthd st.2 j2).length = t.i.toNat := HL2.out _ (nthd_mem (by have := HNA.out; omega))
      have hne : nthd st.2 j2 ≠ [] := fun e => by rw [e] at hlz; have := HI12.out; simp at hlz; omega
      have hln : (rowL st.1 j ++ D9 ++ rowL st.2 j2).length + (nthd st.2 j2).length ≤ 1099511627776 := by
       have := HI12.out
       rw [List.length_append, List.length_append]
       omega
      have HOW := hid hown
      have HB := hid hb
      clear hown hb hlz hl0 hl2
      go_wp2_with (at_builtin; refine append_bytes rfl _ _ rfl b1 (rowL st.1 j ++ D9 ++ rowL st.2 j2) _ rfl HOW.out _ (nthd st.2 j2) rfl hh8 hne hln hsr ?_; intro v' w' hown' hgrow)
      refine ⟨⟨j2 + 1, v', by go_num, rfl, by omega, by rw [show rowL st.1 j ++ D9 ++ rowL st.2 (j2 + 1) = rowL st.1 j ++ D9 ++ rowL st.2 j2 ++ nthd st.2 j2 by simp [rowL]]; exact hown', HB.out.grown hgrow hsr (fun k e => (HOW.out.lt k e).1)⟩, by simp [intOf] <;> omega⟩
     obtain rfl : j2 = na := by omega
     obtain ⟨xa, xn, xc, rfl⟩ := own_slice hown
     obtain rfl := own_len hown
     have hbz : ∀ z ∈ rowL st.1 j ++ D9 ++ rowL st.2 j2, 0 ≤ z ∧ z ≤ 255 := by
      have key : ∀ (ds : List (List Int)) (h : ∀ d ∈ ds, AllBytes d) (q : Nat), q ≤ ds.length → ∀ z ∈ rowL ds q, 0 ≤ z ∧ z ≤ 255 := by
       intro ds h q
       induction q with
       | zero => intro _ z hz; cases hz
       | succ q ih =>
        intro hq z hz
        rcases List.mem_append.1 hz with h8 | h8
        ·exact ih (by omega) z h8
        ·exact h _ (nthd_mem (by omega)) z h8
      intro z hz
      rcases List.mem_append.1 hz with h8 | h8
      ·rcases List.mem_append.1 h8 with h9 | h9
       ·exact key _ HA1.out _ (by have := HNB.out; omega) z h9
       ·exact HD.out.1 z h9
      ·exact key _ HA2.out _ (by have := HNA.out; omega) z h8
     have hxl : (rowL st.1 j ++ D9 ++ rowL st.2 j2).length ≤ 1073741824 := by rw [List.length_append, List.length_append]; omega
     have hh := hold_of_own hown hbz
     rw [← HMID.out] at hh hxl ⊢
     have HH := hid hh
     have HB := hid hb
     have HBW := hid (HBr.out.trans (hb.mono (show w3.heap.size ≤ b1 by have := HBr.out.size; omega)))
     have hrt := rowStay HRTr.out (hb1 ▸ hb)
     have HRTz := hid hrt
     have HTz := hid (HTr.out.below (hb1 ▸ hb))
     have hgz : g < wr.heap.size := by have := hb.size; omega
     obtain ⟨x0, x1, x2, x3, x4, x5⟩ := HX0.out.below hgr (hb1 ▸ hb)
     have HSK := HSPK.out (k + 1) (by omega)
     have HSQ := hid HSK
     have hm63 : (k : Int) + 1 < (m : Int) + 1 := by omega
     clear hown hb hbz hh hl0 hl2 hrt HSK
     obtain ⟨wz, rfl⟩ : ∃ wz, wz = wr := ⟨_, rfl⟩
     go_upto_region 20 with (fail)
     clear pu pv pb p2
     refine wp_region_c (n := 10) (w0 := wz) (B := wz.heap.size) [.v 112 (.agg #[.int .i64 t.k, .int .i64 t.d, .int .i64 t.f, .int .i64 t.p, .int .u32 t.l, .int .i64 t.i, .slice t.ka t.kl t.kc, .slice t.sa t.sl t.sc, .slice t.pa t.pl t.pc]), .v 113 (.pointer (some ⟨b0 + 1, 0, none⟩)), .v 114 (.int .u64 total), .v 115 (.slice (some ⟨g, 0, none⟩) (m + 1) cap), .v 116 (.int .i64 ((k : Int) + 1)), .v 117 (.pointer (some ⟨g, (k + 1) * 6, none⟩)), .v 118 (.agg #[.int .i64 ((wayS t total leaf (k + 1)).row : Nat), .int .u64 ((wayS t total leaf (k + 1)).at_ : Nat), .int .u64 ((wayS t total leaf (k + 1)).frm : Nat), .int .u64 ((wayS t total leaf (k + 1)).to_ : Nat), .bool (wayS t total leaf (k + 1)).last, .bool (wayS t total leaf (k + 1)).root]), .v 119 (.slice xa (midL st D9).length xc), .p 120 (fun u W => OwnB wz.heap.size W u (t.giveZ kz z1 z2 (wayS t total leaf (k + 1)) (midL st D9))), .p 10 (fun u W => OwnB wz.heap.size W u (t.giveZ kz z1 z2 (wayS t total leaf (k + 1)) (midL st D9)))] (by exact ⟨(fun _ _ _ h hb => OwnB.kb h (KB.of_below hb (Nat.zero_le _))), (fun _ _ _ h hb => OwnB.kb h (KB.of_below hb (Nat.zero_le _))), trivial⟩) (Below.refl _ _).drew (Nat.le_refl _) ?_ ?_
     ·repeat' (with_reducible first | exact eachO_nil | refine eachO_cons ?_ ?_)
      all_goals try
       intro A x W hA hW hBW hdep D K hK
       have a3 := hA.2 3 (by decide)
       conv at a3 => rhs; whnf
       have a4 := hA.2 4 (by decide)
       conv at a4 => rhs; whnf
       have a8 := hA.2 8 (by decide)
       conv at a8 => rhs; whnf
       have a11 := hA.2 11 (by decide)
       conv at a11 => rhs; whnf
       have a12 := hA.2 12 (by decide)
       conv at a12 => rhs; whnf
       have hgW : g < W.heap.size := Nat.lt_of_lt_of_le hgz hW.size
       have hPW : b0 + 1 < W.heap.size := Nat.lt_of_lt_of_le ps hW.size
       have y0 := (hW.cell (p := ⟨g, (k + 1) * 6, none⟩) hgz).trans x0
       have y1 := (hW.cell (p := ⟨g, (k + 1) * 6 + 1, none⟩) hgz).trans x1
       have y2 := (hW.cell (p := ⟨g, (k + 1) * 6 + 2, none⟩) hgz).trans x2
       have y3 := (hW.cell (p := ⟨g, (k + 1) * 6 + 3, none⟩) hgz).trans x3
       have y4 := (hW.cell (p := ⟨g, (k + 1) * 6 + 4, none⟩) hgz).trans x4
       have y5 := (hW.cell (p := ⟨g, (k + 1) * 6 + 5, none⟩) hgz).trans x5
       have e0 : W.cell? ⟨b0 + 1, 0, none⟩ = some (.int .u64 total) := (hW.cell (p := ⟨b0 + 1, 0, none⟩) ps).trans p0
       simp only [DepF, nthF] at D
       clear hdep hA
       go_simp
       exact hK _ _ BR rfl
      ·intro A x W hA hW hBW hdep D K hK
       have a3 := hA.2 3 (by decide)
       conv at a3 => rhs; whnf
       exact wp_load_row 26 _ rfl b0 a3 _ _ _ _ (rowStay HRTz.out hW) Tryz.underlying26 rfl (by kernel_rfl) (hK _ _ BR rfl)
      ·intro A x W hA hW hBW hdep D K hK
       have g112 := gv hA hdep 0 112
       have g114 := gv hA hdep 2 114
       have g118 := gv hA hdep 6 118
       have g119 := gv hA hdep 7 119
       clear hdep hA D
       go_simp
       refine (HGV.out W (wayS t total leaf (k + 1)) (midL st D9) xa xc (HTz.out.below hW) HSQ.out (HH.out.below hW) hxl).mono ?_; rintro e w5 ⟨u, rfl, hu, hb5⟩
       exact hK _ _ hb5 (hu.le hW.size)
      ·intro A x W hA hW hBW hdep D K hK
       simp only [DepF, nthF] at D
       obtain ⟨ho9, -⟩ := D
       obtain ⟨x9, hx9⟩ : ∃ x9, A.tmps.getD 120 undef = x9 := ⟨_, rfl⟩
       rw [hx9] at ho9
       have g120 : A.tmps[120]?.getD undef = x9 := by rw [← Array.getD_eq_getD_getElem?]; exact hx9
       clear hdep hA hx9
       go_simp
       exact hK _ _ BR ho9
     intro x W hW hBW hall
     obtain ⟨-, e10, -⟩ := hall
     change OwnB wz.heap.size W (x 10) (t.giveZ kz z1 z2 (wayS t total leaf (k + 1)) (midL st D9)) at e10
     refine thenTail_nil ?_
     simp only [layS, Act.put, List.setIfInBounds_toArray, List.set_cons_zero, List.set_cons_succ]
     have E10 := hid e10
     have HWF := hid (HBW.out.trans (hW.mono (show w3.heap.size ≤ wz.heap.size by have := HBW.out.size; omega)))
     have hw3 : w3.heap.size ≤ wz.heap.size := HBW.out.size
     clear e10 hW hBW x0 x1 x2 x3 x4 x5
     go_wp2_with fail
     exact ⟨⟨k + 1, by simp, by omega, by rw [HNEXT.out]; exact E10.out.le hw3, HWF.out⟩, by simp [intOf] <;> omega⟩
  obtain rfl : k = m := by omega
  have HX := hid hO
  have HB9 := hid (HB3.out.trans (hb.mono (show b0 ≤ w3.heap.size by omega)))
  clear hO hb
  go_wp2_with fail
  go_ret2
  exact ⟨_, _, rfl, by rw [hb0]; exact (HSAY.out _ _ _).2 (.inr (.inr ⟨HE.out, ⟨HLEN.out, HFT.out⟩, rfl, HX.out.le (by omega)⟩)), by rw [hb0]; exact HB9.out⟩
theorem TreeH.below {w w' : World} {t : TreeV} {kz z1 z2 : List Int} (h : TreeH w t kz z1 z2) (hb : Below w.heap.size w w') : TreeH w' t kz z1 z2 := ⟨h.k.below hb, h.s.below hb, h.p.below hb⟩
/-- Does the piece, does the path fit? -/
def TreeV.fitsQ (t : TreeV) (total leaf : Nat) (ss : List StepV) (piece : List Int) : Prop := (piece.length : Int) = ((wayS t total leaf 0).to_ : Int) - ((wayS t total leaf 0).frm : Int) ∧ FitsP t.i ((t.rowsOf total).length - 1) (chI t total leaf) (afI t total leaf) ss
open Classical in
noncomputable def TreeV.rootE (t : TreeV) (total leaf : Nat) (ss : List StepV) (piece : List Int) : Int :=
 if t.spotE total 0 leaf ≠ 0 then t.spotE total 0 leaf else if t.fitsQ total leaf ss piece then 0 else 4
open Classical in
noncomputable def TreeV.rootD (t : TreeV) (kz z1 z2 : List Int) (total leaf : Nat) (ss : List StepV) (piece : List Int) : List Int :=
 if t.spotE total 0 leaf = 0 ∧ t.fitsQ total leaf ss piece then t.pathR kz z1 z2 total leaf ss piece ((t.rowsOf total).length - 1) else []
noncomputable def TreeV.checkE (t : TreeV) (kz z1 z2 : List Int) (total leaf : Nat) (ss : List StepV) (piece root : List Int) : Int :=
 if t.rootE total leaf ss piece ≠ 0 then t.rootE total leaf ss piece else if t.rootD kz z1 z2 total leaf ss piece = root then 0 else 110
theorem ownB_nil (b : Nat) (w : World) : OwnB b w (.slice none 0 0) [] := ⟨(fun a ha => by cases ha), .inl ⟨rfl, rfl⟩⟩
theorem rootSays_is {t : TreeV} {kz z1 z2 : List Int} {total leaf : Nat} {ss : List StepV} {piece : List Int} {b : Nat} {w : World} {v : Value} {e : Int} (h : RootSays t kz z1 z2 total leaf ss piece b w v e) : e = t.rootE total leaf ss piece ∧ OwnB b w v (t.rootD kz z1 z2 total leaf ss piece) := by
 unfold TreeV.rootE TreeV.rootD TreeV.fitsQ
 rcases h with ⟨h1, rfl, rfl⟩ | ⟨h1, h2, rfl, rfl⟩ | ⟨h1, h2, rfl, h3⟩
 ·rw [if_pos h1, if_neg (fun h => h1 h.1)]; exact ⟨rfl, ownB_nil _ _⟩
 ·rw [if_neg (by simp [h1]), if_neg h2, if_neg (fun h => h2 h.2)]; exact ⟨rfl, ownB_nil _ _⟩
 ·rw [if_neg (by simp [h1]), if_pos h2, if_pos ⟨h1, h2⟩]; exact ⟨rfl, h3⟩
theorem TreeV.rootD_len (t : TreeV) (hl : 0 ≤ t.l ∧ t.l ≤ 4294967295) (kz z1 z2 : List Int) {total : Nat} (ht : (total : Int) ≤ 18446744073709551615) (leaf : Nat) (ss : List StepV) (piece : List Int) : (t.rootD kz z1 z2 total leaf ss piece).length ≤ 64 := by
 unfold TreeV.rootD
 split
 ·rename_i h
  exact (TreeV.pathR_len (way_kids hl ht h.1).2.2.2.2 kz z1 z2 total leaf ss piece _).1
 ·exact Nat.zero_le _
theorem root_any (t : TreeV) (kz z1 z2 piece : List Int) (total leaf : Nat) (ht : (total : Int) ≤ 18446744073709551615) (hleaf : (leaf : Int) ≤ 18446744073709551615) (hl : 0 ≤ t.l ∧ t.l ≤ 4294967295) (u pv : Value) (ss : List StepV) (w : World) (h : TreeH w t kz z1 z2) (hs : StepsAt w u ss) (ho : StepsOk 1048576 ss) (hp : Hold w pv piece) (hpl : piece.length ≤ 1048576) :
  Calls Tryz.prog 26 #[t.val, .agg #[.int .u64 total, .int .u64 leaf, u], pv] w fun r w' => ∃ v, r = .returned (.tuple #[v, .int .i64 (t.rootE total leaf ss piece)]) ∧ OwnB w.heap.size w' v (t.rootD kz z1 z2 total leaf ss piece) ∧ Below w.heap.size w w' := by
 by_cases he : t.spotE total 0 leaf = 0
 ·have hv : t.validE = 0 := (way_kids hl ht he).2.2.2.2
  refine (root_ok t kz z1 z2 piece total leaf ht hleaf he u pv ss w ⟨hv, hl, h.k, h.s, h.p⟩ hs ho hp hpl).mono ?_
  rintro r w' ⟨v, e, rfl, hsay, hb⟩
  obtain ⟨rfl, ho⟩ := rootSays_is hsay
  exact ⟨v, rfl, ho, hb⟩
 ·refine (root_err t hl total leaf ht he u pv w).mono ?_
  rintro r w' ⟨rfl, hb⟩
  obtain ⟨e, ho⟩ := rootSays_is (kz := kz) (z1 := z1) (z2 := z2) (ss := ss) (piece := piece) (b := w.heap.size) (w := w') (.inl ⟨he, rfl, rfl⟩)
  exact ⟨_, by rw [← e], ho, hb⟩
theorem refRoot_any (t : TreeV) (kz z1 z2 piece : List Int) (total leaf : Nat) (ht : (total : Int) ≤ 18446744073709551615) (hleaf : (leaf : Int) ≤ 18446744073709551615) (hl : 0 ≤ t.l ∧ t.l ≤ 4294967295) (u pv : Value) (ss : List StepV) (w : World) (h : TreeH w t kz z1 z2) (hs : StepsAt w u ss) (ho : StepsOk 1048576 ss) (hp : Hold w pv piece) (hpl : piece.length ≤ 1048576) :
  Calls Tryz.prog 27 #[t.val, .agg #[.int .u64 total, .int .u64 leaf, u], pv] w fun r w' => ∃ v, r = .returned (.tuple #[v, .int .i64 (t.rootE total leaf ss piece)]) ∧ OwnB w.heap.size w' v (t.rootD kz z1 z2 total leaf ss piece) ∧ Below w.heap.size w w' := by
 by_cases he : t.spotE total 0 leaf = 0
 ·have hv : t.validE = 0 := (way_kids hl ht he).2.2.2.2
  refine (refRoot_ok t kz z1 z2 piece total leaf ht hleaf he u pv ss w ⟨hv, hl, h.k, h.s, h.p⟩ hs ho hp hpl).mono ?_
  rintro r w' ⟨v, e, rfl, hsay, hb⟩
  obtain ⟨rfl, ho⟩ := rootSays_is hsay
  exact ⟨v, rfl, ho, hb⟩
 ·refine (refRoot_err t hl total leaf ht he u pv w).mono ?_
  rintro r w' ⟨rfl, hb⟩
  obtain ⟨e, ho⟩ := rootSays_is (kz := kz) (z1 := z1) (z2 := z2) (ss := ss) (piece := piece) (b := w.heap.size) (w := w') (.inl ⟨he, rfl, rfl⟩)
  exact ⟨_, by rw [← e], ho, hb⟩
theorem check_any (t : TreeV) (kz z1 z2 piece root : List Int) (total leaf : Nat) (ht : (total : Int) ≤ 18446744073709551615) (hleaf : (leaf : Int) ≤ 18446744073709551615) (hl : 0 ≤ t.l ∧ t.l ≤ 4294967295) (u pv rv : Value) (ss : List StepV) (w : World) (h : TreeH w t kz z1 z2) (hs : StepsAt w u ss) (ho : StepsOk 1048576 ss) (hp : Hold w pv piece) (hpl : piece.length ≤ 1048576) (hr : Hold w rv root) :
  Calls Tryz.prog 28 #[t.val, .agg #[.int .u64 total, .int .u64 leaf, u], pv, rv] w fun r w' => r = .returned (.int .i64 (t.checkE kz z1 z2 total leaf ss piece root)) ∧ Below w.heap.size w w' := by
 obtain ⟨b0, hb0⟩ : ∃ b0, w.heap.size = b0 := ⟨_, rfl⟩
 have HRA := hid (fun (W : World) (hb : Below b0 w W) => root_any t kz z1 z2 piece total leaf ht hleaf hl u pv ss W (h.below (hb0 ▸ hb)) (hs.below (hb0 ▸ hb)) ho (hp.below (hb0 ▸ hb)) hpl)
 have HRT := hid hr
 obtain ⟨ra, rc, rfl, -, -⟩ := id hr.slice
 obtain ⟨pa, pc, rfl, -, -⟩ := id hp.slice
 obtain ⟨E, hE⟩ : ∃ E, t.rootE total leaf ss piece = E := ⟨_, rfl⟩
 obtain ⟨D, hD⟩ : ∃ D, t.rootD kz z1 z2 total leaf ss piece = D := ⟨_, rfl⟩
 obtain ⟨C, hC⟩ : ∃ C, t.checkE kz z1 z2 total leaf ss piece root = C := ⟨_, rfl⟩
 have hCC : C = if E ≠ 0 then E else if D = root then 0 else 110 := by rw [← hC]; unfold TreeV.checkE; rw [hE, hD]
 have HC := hid hCC
 rw [hE, hD] at HRA
 rw [hC]
 have hrl : (0 : Int) ≤ root.length := by omega
 clear hE hD hC hCC h hs ho hp hr
 unfold TreeV.val at *
 go_enter Tryz.func28, Tryz.ntmps28
 go_upto_region 1 with (fail)
 refine letterW ?_
 intro wA hwA
 have hrT : wA.heap[b0]? = some (.cells #[.int .i64 t.k, .int .i64 t.d, .int .i64 t.f, .int .i64 t.p, .int .u32 t.l, .int .i64 t.i, .slice t.ka t.kl t.kc, .slice t.sa t.sl t.sc, .slice t.pa t.pl t.pc] 26 (0, 0)) := by rw [hwA]; exact (Below.heap_alloc _ _ _ (by simp; omega)).trans (World.alloc_new_at _ _ hb0.symm)
 have hrP : wA.heap[b0 + 1]? = some (.cells #[.int .u64 total, .int .u64 leaf, u] 55 (0, 0)) := by rw [hwA]; exact World.alloc_new_at _ _ (by simp; omega)
 have hbA : Below b0 w wA := by rw [hwA, ← hb0]; exact ((Below.refl _ _).alloc (Nat.le_refl _) _).alloc (by simp) _
 have hsA : b0 + 1 < wA.heap.size := (Array.getElem?_eq_some_iff.1 hrP).1
 clear hwA
 go_wp2_with (first | ((with_reducible show wpList _ _ _ (Oper.mk _ (Op.load 26 _) _ _ _ _ :: _) _ _); refine wpList_load_row rfl 26 _ rfl b0 rfl _ _ _ _ hrT Tryz.underlying26 rfl (by kernel_rfl) ?_) | ((with_reducible show wpList _ _ _ (Oper.mk _ (Op.load 55 _) _ _ _ _ :: _) _ _); refine wpList_load_row rfl 55 _ rfl (b0 + 1) rfl _ _ _ _ hrP Tryz.underlying55 rfl (by kernel_rfl) ?_))
 refine (HRA.out wA hbA).mono ?_; rintro e w2 ⟨v, rfl, hv, hb2⟩
 have HB := hid (hbA.trans (hb2.mono (show b0 ≤ wA.heap.size by omega)))
 have HV := hid hv
 obtain ⟨va, vc, rfl, -, -⟩ := id hv.hold.slice
 clear hv hb2 hbA hrT hrP
 by_cases hE : E = 0
 case neg =>
  have hq : (E != 0) = true := by rw [bne_iff_ne]; exact hE
  have hCE : C = E := by rw [HC.out, if_pos hE]
  clear hE HC
  go_wp2_with fail
  go_ret
  exact ⟨by rw [hCE]; rfl, by rw [hb0]; exact HB.out⟩
 subst hE
 have HSM := hid (same_ok D root _ _ w2 HV.out.hold (HRT.out.below (hb0 ▸ HB.out)))
 go_wp2_with fail
 refine HSM.out.mono ?_; rintro e w3 ⟨rfl, rfl⟩
 by_cases hdr : D = root
 ·have hd : decide (D = root) = true := decide_eq_true hdr
  have hCE : C = 0 := by rw [HC.out, if_neg (by simp), if_pos hdr]
  rw [hd]
  clear hdr hd HSM HC
  go_wp2_with fail
  go_ret
  exact ⟨by rw [hCE]; rfl, by rw [hb0]; exact HB.out⟩
 ·have hd : decide (D = root) = false := decide_eq_false hdr
  have hCE : C = 110 := by rw [HC.out, if_neg (by simp), if_neg hdr]
  rw [hd]
  clear hdr hd HSM HC
  go_wp2_with fail
  go_ret
  exact ⟨by rw [hCE]; rfl, by rw [hb0]; exact HB.out⟩
theorem refCheck_any (t : TreeV) (kz z1 z2 piece root : List Int) (total leaf : Nat) (ht : (total : Int) ≤ 18446744073709551615) (hleaf : (leaf : Int) ≤ 18446744073709551615) (hl : 0 ≤ t.l ∧ t.l ≤ 4294967295) (u pv rv : Value) (ss : List StepV) (w : World) (h : TreeH w t kz z1 z2) (hs : StepsAt w u ss) (ho : StepsOk 1048576 ss) (hp : Hold w pv piece) (hpl : piece.length ≤ 1048576) (hr : Hold w rv root) :
  Calls Tryz.prog 30 #[t.val, .agg #[.int .u64 total, .int .u64 leaf, u], pv, rv] w fun r w' => r = .returned (.int .i64 (t.checkE kz z1 z2 total leaf ss piece root)) ∧ Below w.heap.size w w' := by
 obtain ⟨b0, hb0⟩ : ∃ b0, w.heap.size = b0 := ⟨_, rfl⟩
 have HRA := hid (fun (W : World) (hb : Below b0 w W) => refRoot_any t kz z1 z2 piece total leaf ht hleaf hl u pv ss W (h.below (hb0 ▸ hb)) (hs.below (hb0 ▸ hb)) ho (hp.below (hb0 ▸ hb)) hpl)
 have HRT := hid hr
 obtain ⟨ra, rc, rfl, -, -⟩ := id hr.slice
 obtain ⟨pa, pc, rfl, -, -⟩ := id hp.slice
 obtain ⟨E, hE⟩ : ∃ E, t.rootE total leaf ss piece = E := ⟨_, rfl⟩
 obtain ⟨D, hD⟩ : ∃ D, t.rootD kz z1 z2 total leaf ss piece = D := ⟨_, rfl⟩
 obtain ⟨C, hC⟩ : ∃ C, t.checkE kz z1 z2 total leaf ss piece root = C := ⟨_, rfl⟩
 have hCC : C = if E ≠ 0 then E else if D = root then 0 else 110 := by rw [← hC]; unfold TreeV.checkE; rw [hE, hD]
 have HC := hid hCC
 rw [hE, hD] at HRA
 rw [hC]
 have hrl : (0 : Int) ≤ root.length := by omega
 clear hE hD hC hCC h hs ho hp hr
 unfold TreeV.val at *
 go_enter Tryz.func30, Tryz.ntmps30
 go_upto_region 1 with (fail)
 refine letterW ?_
 intro wA hwA
 have hrT : wA.heap[b0]? = some (.cells #[.int .i64 t.k, .int .i64 t.d, .int .i64 t.f, .int .i64 t.p, .int .u32 t.l, .int .i64 t.i, .slice t.ka t.kl t.kc, .slice t.sa t.sl t.sc, .slice t.pa t.pl t.pc] 26 (0, 0)) := by rw [hwA]; exact (Below.heap_alloc _ _ _ (by simp; omega)).trans (World.alloc_new_at _ _ hb0.symm)
 have hrP : wA.heap[b0 + 1]? = some (.cells #[.int .u64 total, .int .u64 leaf, u] 55 (0, 0)) := by rw [hwA]; exact World.alloc_new_at _ _ (by simp; omega)
 have hbA : Below b0 w wA := by rw [hwA, ← hb0]; exact ((Below.refl _ _).alloc (Nat.le_refl _) _).alloc (by simp) _
 have hsA : b0 + 1 < wA.heap.size := (Array.getElem?_eq_some_iff.1 hrP).1
 clear hwA
 go_wp2_with (first | ((with_reducible show wpList _ _ _ (Oper.mk _ (Op.load 26 _) _ _ _ _ :: _) _ _); refine wpList_load_row rfl 26 _ rfl b0 rfl _ _ _ _ hrT Tryz.underlying26 rfl (by kernel_rfl) ?_) | ((with_reducible show wpList _ _ _ (Oper.mk _ (Op.load 55 _) _ _ _ _ :: _) _ _); refine wpList_load_row rfl 55 _ rfl (b0 + 1) rfl _ _ _ _ hrP Tryz.underlying55 rfl (by kernel_rfl) ?_))
 refine (HRA.out wA hbA).mono ?_; rintro e w2 ⟨v, rfl, hv, hb2⟩
 have HB := hid (hbA.trans (hb2.mono (show b0 ≤ wA.heap.size by omega)))
 have HV := hid hv
 obtain ⟨va, vc, rfl, -, -⟩ := id hv.hold.slice
 clear hv hb2 hbA hrT hrP
 by_cases hE : E = 0
 case neg =>
  have hq : (E != 0) = true := by rw [bne_iff_ne]; exact hE
  have hCE : C = E := by rw [HC.out, if_pos hE]
  clear hE HC
  go_wp2_with fail
  go_ret
  exact ⟨by rw [hCE]; rfl, by rw [hb0]; exact HB.out⟩
 subst hE
 have HSM := hid (refSame_ok D root _ _ w2 HV.out.hold (HRT.out.below (hb0 ▸ HB.out)))
 go_wp2_with fail
 refine HSM.out.mono ?_; rintro e w3 ⟨rfl, mm, rfl⟩
 by_cases hdr : D = root
 ·have hd : decide (D = root) = true := decide_eq_true hdr
  have hCE : C = 0 := by rw [HC.out, if_neg (by simp), if_pos hdr]
  rw [hd]
  clear hdr hd HSM HC
  go_wp2_with fail
  go_ret
  exact ⟨by rw [hCE]; rfl, by rw [hb0]; exact HB.out.trans (below_draws _ _ _)⟩
 ·have hd : decide (D = root) = false := decide_eq_false hdr
  have hCE : C = 110 := by rw [HC.out, if_neg (by simp), if_neg hdr]
  rw [hd]
  clear hdr hd HSM HC
  go_wp2_with fail
  go_ret
  exact ⟨by rw [hCE]; rfl, by rw [hb0]; exact HB.out.trans (below_draws _ _ _)⟩
theorem TreeV.checkE_self (t : TreeV) (kz z1 z2 : List Int) (total leaf : Nat) (ss : List StepV) (piece : List Int) : t.checkE kz z1 z2 total leaf ss piece (t.rootD kz z1 z2 total leaf ss piece) = t.rootE total leaf ss piece := by
 unfold TreeV.checkE
 by_cases h : t.rootE total leaf ss piece = 0
 ·rw [if_neg (by simp [h]), if_pos rfl, h]
 ·rw [if_pos h]
theorem pathRoots_walk (t : TreeV) (kz z1 z2 piece root : List Int) (total leaf : Nat) (ht : (total : Int) ≤ 18446744073709551615) (hleaf : (leaf : Int) ≤ 18446744073709551615) (hl : 0 ≤ t.l ∧ t.l ≤ 4294967295) (u pv rv : Value) (ss : List StepV) (w : World) (h : TreeH w t kz z1 z2) (hs : StepsAt w u ss) (ho : StepsOk 1048576 ss) (hp : Hold w pv piece) (hpl : piece.length ≤ 1048576) (hr : Hold w rv root) :
  Calls Tryz.prog 4 #[t.val, .agg #[.int .u64 total, .int .u64 leaf, u], pv, rv] w (Trues w) := by
 obtain ⟨b0, hb0⟩ : ∃ b0, w.heap.size = b0 := ⟨_, rfl⟩
 have HRA := hid (fun (W : World) (hb : Below b0 w W) => root_any t kz z1 z2 piece total leaf ht hleaf hl u pv ss W (h.below (hb0 ▸ hb)) (hs.below (hb0 ▸ hb)) ho (hp.below (hb0 ▸ hb)) hpl)
 have HRB := hid (fun (W : World) (hb : Below b0 w W) => refRoot_any t kz z1 z2 piece total leaf ht hleaf hl u pv ss W (h.below (hb0 ▸ hb)) (hs.below (hb0 ▸ hb)) ho (hp.below (hb0 ▸ hb)) hpl)
 have HCA := hid (fun (W : World) (hb : Below b0 w W) (x : Value) (zs : List Int) (hx : Hold W x zs) => check_any t kz z1 z2 piece zs total leaf ht hleaf hl u pv x ss W (h.below (hb0 ▸ hb)) (hs.below (hb0 ▸ hb)) ho (hp.below (hb0 ▸ hb)) hpl hx)
 have HCB := hid (fun (W : World) (hb : Below b0 w W) (x : Value) (zs : List Int) (hx : Hold W x zs) => refCheck_any t kz z1 z2 piece zs total leaf ht hleaf hl u pv x ss W (h.below (hb0 ▸ hb)) (hs.below (hb0 ▸ hb)) ho (hp.below (hb0 ▸ hb)) hpl hx)
 have HRT := hid hr
 have hdl := t.rootD_len hl kz z1 z2 ht leaf ss piece
 have hself := t.checkE_self kz z1 z2 total leaf ss piece
 obtain ⟨ra, rc, rfl, -, -⟩ := id hr.slice
 obtain ⟨pa, pc, rfl, -, -⟩ := id hp.slice
 obtain ⟨E, hE⟩ : ∃ E, t.rootE total leaf ss piece = E := ⟨_, rfl⟩
 obtain ⟨D, hD⟩ : ∃ D, t.rootD kz z1 z2 total leaf ss piece = D := ⟨_, rfl⟩
 obtain ⟨C, hC⟩ : ∃ C, t.checkE kz z1 z2 total leaf ss piece root = C := ⟨_, rfl⟩
 rw [hE, hD] at HRA HRB hself
 rw [hD] at hdl
 have HSELF := hid hself
 have HCC := hid hC
 clear hE hD hC h hs ho hp hr hself
 unfold TreeV.val at *
 go_enter Tryz.func4, Tryz.ntmps4
 go_upto_region 1 with (fail)
 refine letterW ?_
 intro wA hwA
 have hrT : wA.heap[b0]? = some (.cells #[.int .i64 t.k, .int .i64 t.d, .int .i64 t.f, .int .i64 t.p, .int .u32 t.l, .int .i64 t.i, .slice t.ka t.kl t.kc, .slice t.sa t.sl t.sc, .slice t.pa t.pl t.pc] 26 (0, 0)) := by rw [hwA]; exact (Below.heap_alloc _ _ _ (by simp; omega)).trans (World.alloc_new_at _ _ hb0.symm)
 have hrP : wA.heap[b0 + 1]? = some (.cells #[.int .u64 total, .int .u64 leaf, u] 55 (0, 0)) := by rw [hwA]; exact World.alloc_new_at _ _ (by simp; omega)
 have hbA : Below b0 w wA := by rw [hwA, ← hb0]; exact ((Below.refl _ _).alloc (Nat.le_refl _) _).alloc (by simp) _
 have hsA : b0 + 1 < wA.heap.size := (Array.getElem?_eq_some_iff.1 hrP).1
 clear hwA
 go_wp2_with (first | ((with_reducible show wpList _ _ _ (Oper.mk _ (Op.load 26 _) _ _ _ _ :: _) _ _); refine wpList_load_row rfl 26 _ rfl b0 rfl _ _ _ _ hrT Tryz.underlying26 rfl (by kernel_rfl) ?_) | ((with_reducible show wpList _ _ _ (Oper.mk _ (Op.load 55 _) _ _ _ _ :: _) _ _); refine wpList_load_row rfl 55 _ rfl (b0 + 1) rfl _ _ _ _ hrP Tryz.underlying55 rfl (by kernel_rfl) ?_))
 refine (HRA.out wA hbA).mono ?_; rintro e w1 ⟨v1, rfl, hv1, hc1⟩
 have hrT1 := rowStay hrT hc1
 have hrP1 := rowStay hrP hc1
 have HB1 := hid (hbA.trans (hc1.mono (show b0 ≤ wA.heap.size by omega)))
 have hs1 : b0 + 1 < w1.heap.size := by have := hc1.size; omega
 have HV1 := hid hv1
 obtain ⟨va, vc, rfl, -, -⟩ := id hv1.hold.slice
 clear hv1 hc1 hrT hrP hbA hsA
 go_wp2_with (first | ((with_reducible show wpList _ _ _ (Oper.mk _ (Op.load 26 _) _ _ _ _ :: _) _ _); refine wpList_load_row rfl 26 _ rfl b0 rfl _ _ _ _ hrT1 Tryz.underlying26 rfl (by kernel_rfl) ?_) | ((with_reducible show wpList _ _ _ (Oper.mk _ (Op.load 55 _) _ _ _ _ :: _) _ _); refine wpList_load_row rfl 55 _ rfl (b0 + 1) rfl _ _ _ _ hrP1 Tryz.underlying55 rfl (by kernel_rfl) ?_))
 refine (HRB.out w1 HB1.out).mono ?_; rintro e w2 ⟨v2, rfl, hv2, hc2⟩
 have hrT2 := rowStay hrT1 hc2
 have hrP2 := rowStay hrP1 hc2
 have HB2 := hid (HB1.out.trans (hc2.mono (show b0 ≤ w1.heap.size by omega)))
 have hs2 : b0 + 1 < w2.heap.size := by have := hc2.size; omega
 have HVA2 := hid (HV1.out.hold.below hc2)
 have HVB2 := hid hv2.hold
 obtain ⟨xa, xc, rfl, -, -⟩ := id hv2.hold.slice
 clear hv2 hc2 hrT1 hrP1 HB1
 go_wp2_with (first | ((with_reducible show wpList _ _ _ (Oper.mk _ (Op.load 26 _) _ _ _ _ :: _) _ _); refine wpList_load_row rfl 26 _ rfl b0 rfl _ _ _ _ hrT2 Tryz.underlying26 rfl (by kernel_rfl) ?_) | ((with_reducible show wpList _ _ _ (Oper.mk _ (Op.load 55 _) _ _ _ _ :: _) _ _); refine wpList_load_row rfl 55 _ rfl (b0 + 1) rfl _ _ _ _ hrP2 Tryz.underlying55 rfl (by kernel_rfl) ?_))
 refine (HCA.out w2 HB2.out _ root (HRT.out.below (hb0 ▸ HB2.out))).mono ?_; rintro e w3 ⟨rfl, hc3⟩
 rw [HCC.out]
 have hrT3 := rowStay hrT2 hc3
 have hrP3 := rowStay hrP2 hc3
 have HB3 := hid (HB2.out.trans (hc3.mono (show b0 ≤ w2.heap.size by omega)))
 have hs3 : b0 + 1 < w3.heap.size := by have := hc3.size; omega
 have HVA3 := hid (HVA2.out.below hc3)
 have HVB3 := hid (HVB2.out.below hc3)
 clear hc3 hrT2 hrP2 HB2
 go_wp2_with (first | ((with_reducible show wpList _ _ _ (Oper.mk _ (Op.load 26 _) _ _ _ _ :: _) _ _); refine wpList_load_row rfl 26 _ rfl b0 rfl _ _ _ _ hrT3 Tryz.underlying26 rfl (by kernel_rfl) ?_) | ((with_reducible show wpList _ _ _ (Oper.mk _ (Op.load 55 _) _ _ _ _ :: _) _ _); refine wpList_load_row rfl 55 _ rfl (b0 + 1) rfl _ _ _ _ hrP3 Tryz.underlying55 rfl (by kernel_rfl) ?_))
 refine (HCA.out w3 HB3.out _ D HVB3.out).mono ?_; rintro e w4 ⟨rfl, hc4⟩
 rw [HSELF.out]
 have hrT4 := rowStay hrT3 hc4
 have hrP4 := rowStay hrP3 hc4
 have HB4 := hid (HB3.out.trans (hc4.mono (show b0 ≤ w3.heap.size by omega)))
 have hs4 : b0 + 1 < w4.heap.size := by have := hc4.size; omega
 have HVA4 := hid (HVA3.out.below hc4)
 have HVB4 := hid (HVB3.out.below hc4)
 clear hc4 hrT3 hrP3 HB3
 go_wp2_with fail
 refine (lawSame_any D _ _ w4 HVA4.out.holds8 HVB4.out.holds8 (by omega)).mono ?_; rintro e w5 ⟨rfl, mm, rfl⟩
 have hc5 : Below w4.heap.size w4 (w4.drewN mm) := below_draws _ _ _
 have hrT5 := rowStay hrT4 hc5
 have hrP5 := rowStay hrP4 hc5
 have HB5 := hid (HB4.out.trans (hc5.mono (show b0 ≤ w4.heap.size by omega)))
 have tc0 : (w4.drewN mm).cell? ⟨b0, 0, none⟩ = some (.int .i64 t.k) := cell_of_heap hrT5 0
 have tc1 : (w4.drewN mm).cell? ⟨b0, 1, none⟩ = some (.int .i64 t.d) := cell_of_heap hrT5 1
 have tc2 : (w4.drewN mm).cell? ⟨b0, 2, none⟩ = some (.int .i64 t.f) := cell_of_heap hrT5 2
 have tc3 : (w4.drewN mm).cell? ⟨b0, 3, none⟩ = some (.int .i64 t.p) := cell_of_heap hrT5 3
 have tc4 : (w4.drewN mm).cell? ⟨b0, 4, none⟩ = some (.int .u32 t.l) := cell_of_heap hrT5 4
 have tc5 : (w4.drewN mm).cell? ⟨b0, 5, none⟩ = some (.int .i64 t.i) := cell_of_heap hrT5 5
 have tc6 : (w4.drewN mm).cell? ⟨b0, 6, none⟩ = some (.slice t.ka t.kl t.kc) := cell_of_heap hrT5 6
 have tc7 : (w4.drewN mm).cell? ⟨b0, 7, none⟩ = some (.slice t.sa t.sl t.sc) := cell_of_heap hrT5 7
 have tc8 : (w4.drewN mm).cell? ⟨b0, 8, none⟩ = some (.slice t.pa t.pl t.pc) := cell_of_heap hrT5 8
 have pc0 : (w4.drewN mm).cell? ⟨b0 + 1, 0, none⟩ = some (.int .u64 total) := cell_of_heap hrP5 0
 have pc1 : (w4.drewN mm).cell? ⟨b0 + 1, 1, none⟩ = some (.int .u64 leaf) := cell_of_heap hrP5 1
 have pc2 : (w4.drewN mm).cell? ⟨b0 + 1, 2, none⟩ = some (u) := cell_of_heap hrP5 2
 have hs5 : b0 + 1 < (w4.drewN mm).heap.size := by have := hc5.size; omega
 have hs5' : b0 < (w4.drewN mm).heap.size := by omega
 clear hc5 hrT4 hrP4
 generalize w4.drewN mm = wd at *
 go_wp2_with fail
 refine (HCB.out _ HB5.out _ root (HRT.out.below (hb0 ▸ HB5.out))).mono ?_; rintro e w6 ⟨rfl, hc6⟩
 rw [HCC.out]
 have HB6 := hid (HB5.out.trans (hc6.mono (show b0 ≤ wd.heap.size by have := HB5.out.size; omega)))
 clear hc6 hrT5 hrP5
 go_wp2_with fail
 refine (pathAwake_any w6).mono ?_; rintro e w7 ⟨rfl, hc7⟩
 have HB7 := hid (HB6.out.trans (hc7.mono (show b0 ≤ w6.heap.size by have := HB6.out.size; omega)))
 clear hc7
 go_wp2_with fail
 go_ret
 exact ⟨rfl, by rw [hb0]; exact HB7.out⟩
end Go.Proofs.YtchepcilkcdemaaGreat
namespace Go.Proofs.YtchepcilkcdemaaGreat
open Go.ChangeShapes Go.WideShapes Go.ChangeAt Go.RowKit Go.Joins Go.Shelf Go.Maps
open Go.Lib (hid)
theorem pathRoots_call {H : Type} (enc : TypeId × Value → H) (W : World) (base : Nat) (args : Array Value) (ds : List (DataW H)) (p : List MemPlace)
  (hval : ∀ (j : Nat) t v, Tryz.f4.params[j]? = some t → args[j]? = some v → Value.okWide Tryz.prog W .any base t v)
  (hA : DataW.TrodAll enc Tryz.prog W 0 (fun _ => true) true Tryz.f4.params.toList args.toList ds p) (hlt : ∀ x ∈ p, x.block < W.heap.size)
  (hk : Rows.uptoSmall H ds = true) :
  Calls Tryz.prog 4 args W (Trues W) := by
 rw [Tryz.params4] at hA hval
 obtain ⟨v0, v1, v2, v3, d0, d1, d2, d3, p0, p1, p2, p3, rfl, rfl, rfl, h0, h1, h2, h3⟩ := trodAll_four hA
 have hb : Rows.uptoBulk d0 + (Rows.uptoBulk d1 + (Rows.uptoBulk d2 + (Rows.uptoBulk d3 + 0))) ≤ 1048576 := of_decide_eq_true hk
 obtain ⟨t, kz, z1, z2, rfl, hl, ht, b1, b2, b3⟩ := openH_tree (hval 0 26 v0 rfl rfl) h0 (fun x hx => hlt x (by simp [hx]))
 obtain ⟨total, leaf, u, ss, rfl, c1, c2, hs, ho⟩ := open_path (hval 1 55 v1 rfl rfl) h1 (fun x hx => hlt x (by simp [hx]))
 obtain ⟨zs, hz, hm⟩ := openH_bytes (hval 2 24 v2 rfl rfl) h2 (fun x hx => hlt x (by simp [hx]))
 obtain ⟨rs, hr, hrm⟩ := openH_bytes (hval 3 24 v3 rfl rfl) h3 (fun x hx => hlt x (by simp [hx]))
 have ho' : StepsOk 1048576 ss := ⟨Nat.le_trans ho.1 (by omega), fun s hs => ⟨(ho.2 s hs).1.mono (by omega), (ho.2 s hs).2.mono (by omega)⟩⟩
 exact pathRoots_walk t kz z1 z2 zs rs total leaf c1 c2 hl u v2 v3 ss W ht hs ho' hz (by omega) hr
theorem pathRoots_lifted (os : Os) (started : os.Started) (H : Type) (enc : TypeId × Value → H) (F0 : Stop.Interp) :
  ReturnsInHanded {} Tryz.checked os 4 .any ((Rows.OpenSpec.upto Rows.pathRootsSpec).pre6 enc Tryz.prog Tryz.f4 Rows.pathRootsUptoRow.domain false) (((Rows.OpenSpec.upto Rows.pathRootsSpec).at F0).post enc Tryz.prog Tryz.f4 false true false false) := by
 refine returnsInHanded_of_cond_sized (C := Tryz.checked) (s := Rows.OpenSpec.upto Rows.pathRootsSpec) (k := Rows.uptoSmall) rfl own started (by kernel_rfl) Tryz.func4
  (OpenSpec.witness (enc := enc) (C := Tryz.checked) (s := Rows.OpenSpec.upto Rows.pathRootsSpec) (k := Rows.uptoSmall) rfl false ⟨#[], #[.agg #[.int .i64 0, .int .i64 0, .int .i64 0, .int .i64 0, .int .u32 0, .int .i64 0, .slice none 0 0, .slice none 0 0, .slice none 0 0], .agg #[.int .u64 0, .int .u64 0, .slice none 0 0], .slice none 0 0, .slice none 0 0], []⟩ 40 (by kernel_rfl) (by kernel_rfl) (by kernel_rfl)
   (x := ([.agg [.lit (.int .i64 0), .lit (.int .i64 0), .lit (.int .i64 0), .lit (.int .i64 0), .lit (.int .u32 0), .lit (.int .i64 0), .nil, .nil, .nil], .agg [.lit (.int .u64 0), .lit (.int .u64 0), .nil], .nil, .nil], [], [])) (by kernel_rfl) (by kernel_rfl) (by kernel_rfl)) ?_
 intro W base args ds gs before hval0 hW hcnd hk hz _
 have hW' := hW
 obtain ⟨p, q, hA0, hV, rfl, hfz, hnd⟩ := hW
 have hA : DataW.TrodAll enc Tryz.prog W 0 (fun _ => true) true Tryz.f4.params.toList args.toList ds p := hA0
 obtain ⟨rfl, rfl⟩ := trodVars_none hV
 have hk' : Rows.uptoSmall H ds = true := by rw [← List.append_nil ds]; exact hk
 refine (pathRoots_call enc W base args ds p hval0 hA (fun x hx => hW'.lt x (by simpa using hx)) hk').mono fun e W' h => ⟨_, h.1, ?_⟩
 refine post_of_trues (s := (Rows.OpenSpec.upto Rows.pathRootsSpec).at F0) laidOut _ rfl Tryz.underlying4 (by decide +kernel) rfl hW' ?_ h.2
 have hA' := hA
 rw [Tryz.params4] at hA'
 obtain ⟨v0, v1, v2, v3, d0, d1, d2, d3, p0, p1, p2, p3, rfl, rfl, _⟩ := trodAll_four hA'
 rfl
theorem pathRoots_holds : Rows.PathRootsUptoSaid :=
 OpenClaim.holds_of_cond 4 Tryz.f4 rfl rfl rfl rfl rfl rfl rfl ⟨rfl, rfl, rfl, rfl, rfl⟩ rfl rfl rfl rfl rfl (by kernel_rfl) Tryz.func4 (by kernel_rfl)
  (of_decide_eq_true (by kernel_rfl)) (by unfold Func.isWrapper; first | (rw [if_pos (by decide +kernel)]; kernel_rfl) | (rw [if_neg (by decide +kernel)]; exact ⟨rfl, rfl⟩))
  (fun os started H enc _ F0 => by rw [OpenClaim.pre_of_none' rfl]; exact pathRoots_lifted os started H enc F0)
#print axioms pathRoots_holds
end Go.Proofs.YtchepcilkcdemaaGreat
