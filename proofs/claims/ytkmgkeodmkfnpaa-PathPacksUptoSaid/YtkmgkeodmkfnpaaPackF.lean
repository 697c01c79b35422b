/- The bytes of a path, by the reference. No condition. -/
import Derived.Test.YtkmgkeodmkfnpaaPackE
namespace Go.Proofs.Ytkmgkeodmkfnpaa
open Go.ChangeShapes Go.WideShapes Go.ChangeAt Go.RowKit Go.Joins Go.Shelf Go.Maps
attribute [local go_sem] Oper.semAt_some

def SpotsIs (w : World) (g m : Nat) (A F T : Nat → Int) : Prop := g < w.heap.size ∧ ∀ j, j < m + 1 → SpotAt w g A F T j
set_option maxRecDepth 100000 in
set_option maxHeartbeats 1000000 in
theorem refPack_ok (t : TreeV) (total leaf : Nat) (htot : (total : Int) ≤ 18446744073709551615) (hleaf : (leaf : Int) ≤ 18446744073709551615) (u : Value) (ss : List StepV) (w : World) (hs : StepsAt w u ss) (ho : StepsOk 1048576 ss) (m : Nat) (hm : m ≤ 255) (hm0 : 1 ≤ m) (hi : 1 ≤ t.i ∧ t.i ≤ 64)
    (A F T ch af : Nat → Int)
    (HW : Hid (∀ w, Calls Try.prog 34 #[t.val, .int .u64 total, .int .u64 leaf] w fun e w' => ∃ g cap, e = .returned (.tuple #[.slice (some ⟨g, 0, none⟩) (m + 1) cap, .int .i64 0]) ∧ SpotsIs w' g m A F T ∧ Below w.heap.size w w'))
    (HF : Hid (∀ j, j < m → 0 ≤ F (j + 1) ∧ F (j + 1) ≤ A j ∧ A j + 1 ≤ T (j + 1) ∧ T (j + 1) ≤ 18446744073709551615 ∧ ch j = A j - F (j + 1) ∧ af j = T (j + 1) - A j - 1)) :
    Calls Try.prog 21 #[t.val, .agg #[.int .u64 total, .int .u64 leaf, u]] w fun r w' => ∃ v e, r = .returned (.tuple #[v, .int .i64 e]) ∧ ((¬ FitsP t.i m ch af ss ∧ v = .slice none 0 0 ∧ e = 4) ∨ (FitsP t.i m ch af ss ∧ e = 0 ∧ Holds8 w' v (packL total leaf ss ss.length))) ∧ Below w.heap.size w w' := by
  have HS := Lib.hid hs
  have HFit := Lib.hid (fun (w1 : World) (g cap : Nat) (h1 : StepsAt w1 u ss) (h2 : SpotsIs w1 g m A F T) => refFits_any t total leaf u ss w1 h1 ho g cap m h2.1 hm hm0 A F T ch af h2.2 HF.out)
  obtain ⟨ua, uc, U, V, rfl, -, hst⟩ := hs
  unfold TreeV.val at *
  go_enter Try.func21, Try.ntmps21
  go_wp2_with fail
  refine (HW.out _).mono ?_; rintro r w1 ⟨g, cap, rfl, hst1, hb1⟩
  have hs1 := hb1.size
  simp at hs1
  have k1 : w.heap.size < w1.heap.size := by omega
  have k1' : w.heap.size + 1 < w1.heap.size := by omega
  have hB1 : Below w.heap.size w w1 := below_alloc_then _ (Below.trans ((Below.refl _ _).alloc (Nat.le_refl _) _) (hb1.mono (by simp)))
  obtain ⟨hc1, hf1⟩ := bcell hb1
  go_wp2_with fail
  refine (HFit.out _ g cap (HS.out.below hB1) hst1).mono ?_; rintro r w2 ⟨b, rfl, hbf, hb2⟩
  have hs2 := hb2.size
  have hB2 : Below w.heap.size w w2 := hB1.trans (hb2.mono (by omega))
  have hBX := hb1.trans (hb2.mono hb1.size)
  obtain ⟨hc2, hf2⟩ := bcell hBX
  cases b with
  | false =>
    go_wp2
    exact bodyPost_ret (results_tmp2 (fn := Try.f21) (t := 4) (u := 5) rfl _ _ _) rfl ⟨_, _, rfl, .inl ⟨fun h => absurd (hbf.2 h) (by simp), rfl, rfl⟩, hB2⟩
  | true =>
    have hfit := hbf.1 rfl
    obtain ⟨i0, hi0, hz0, hz1, hz2⟩ := info_parts info_u8
    have c0 : w2.cell? ⟨w.heap.size + 1, 0, none⟩ = some (.int .u64 total) := (hc2 _ 0 (by simp)).trans (packBoxes w 0)
    have c1 : w2.cell? ⟨w.heap.size + 1, 1, none⟩ = some (.int .u64 leaf) := (hc2 _ 1 (by simp)).trans (packBoxes w 1)
    have c2 : w2.cell? ⟨w.heap.size + 1, 2, none⟩ = some (.slice ua ss.length uc) := (hc2 _ 2 (by simp)).trans (packBoxes w 2)
    have k2 : w.heap.size + 1 < w2.heap.size := by omega
    obtain ⟨hfl, hfs⟩ := id hfit
    subst hfl
    have HFP := Lib.hid hfit
    have hlen := stepsL_length (i := t.i.toNat) ho (by omega) (fun j hj d hd => by have := (hfs j (by omega)).2.2 d hd; omega)
    have HL := Lib.hid hlen
    have HFS := Lib.hid hfs
    obtain ⟨bu, ou, rfl, hbw, hst'⟩ := hst.resolve_left (fun e => by rw [e] at hm0; simp at hm0)
    have HU := Lib.hid hst'
    have HO := Lib.hid ho
    clear hc1 hf1 hc2 hf2 hbf hfit hBX hb1 hst1 hlen hfs hst hst' ho hs1
    go_wp2_with fail
    refine (refStore_ok total htot _).mono ?_; rintro r wa ⟨va, rfl, howna, hBa⟩
    have hsa := hBa.size
    have c1a : wa.cell? ⟨w.heap.size + 1, 1, none⟩ = some (.int .u64 leaf) := (hBa.cell (p := ⟨w.heap.size + 1, 1, none⟩) k2).trans c1
    have k2a : w.heap.size + 1 < wa.heap.size := by omega
    go_wp2_with fail
    refine (refStore_ok leaf hleaf _).mono ?_; rintro r wb ⟨vb, rfl, hownb, hBab⟩
    have hsb := hBab.size
    have hBb : Below w2.heap.size w2 wb := hBa.trans (hBab.mono hsa)
    have hownab : wb.ownsRow w2.heap.size 5 1 va (bytesK total 8).length ((bytesK total 8).map encB) := by
      rw [bytesK_length]; exact ownsRow_same' howna (fun g _ g2 => hBab.block g g2)
    have hh8b : Holds8 wb vb (bytesK leaf 8) := holds_of_own (by rw [bytesK_length]; exact hownb)
    clear howna hownb
    go_wp2_with (at_builtin; refine append_bytes rfl _ _ rfl w2.heap.size (bytesK total 8) _ rfl hownab _ (bytesK leaf 8) rfl hh8b (by simp [bytesK]) (by simp [bytesK_length]) (by omega) ?_; intro vc wc hownc hgc)
    have hBc : Below w2.heap.size w2 wc := hBb.grown hgc (by omega) (fun k e => (hownab.lt k e).1)
    have hown0 : wc.ownsRow w2.heap.size 5 1 vc (packL total leaf ss 0).length ((packL total leaf ss 0).map encB) := by
      have e : packL total leaf ss 0 = bytesK total 8 ++ bytesK leaf 8 := by simp [packL, stepsL]
      rw [e]; exact hownc
    clear hownc hownab hgc hBa hBab hBb
    go_loopw [9, 8] (fun i o wr => ∃ (j : Nat) (v : Value), i = .int .i64 j ∧ o = v ∧ j ≤ ss.length ∧ wr.ownsRow w2.heap.size 5 1 v (packL total leaf ss j).length ((packL total leaf ss j).map encB) ∧ Below w2.heap.size w2 wr) (fun i _ _ => ss.length - (intOf i).toNat)
    case atStart => exact ⟨0, vc, rfl, rfl, by omega, hown0, hBc⟩
    case round =>
      obtain ⟨j, v, rfl, rfl, hj, hown, hb⟩ := hrel
      have hsr := hb.size
      have hBr : Below w.heap.size w wr := hB2.trans (hb.mono (by omega))
      have c2r : wr.cell? ⟨w.heap.size + 1, 2, none⟩ = some (.slice (some ⟨bu, ou, none⟩) ss.length uc) := (hb.cell (p := ⟨w.heap.size + 1, 2, none⟩) k2).trans c2
      by_cases hlt : j < ss.length
      · obtain ⟨cu, cv, ru, rv⟩ := HU.out j hlt
        have HRU := Lib.hid ru
        have HRV := Lib.hid rv
        obtain ⟨au, ku, VU, eu, -, -⟩ := ru
        obtain ⟨av, kv, VV, ev, -, -⟩ := rv
        rw [eu] at cu HRU
        rw [ev] at cv HRV
        clear eu ev
        have CU := Lib.hid cu
        have CV := Lib.hid cv
        clear cu cv
        obtain ⟨⟨lu, -⟩, lv, -⟩ := HO.out.2 _ (nths_mem hlt)
        have hL := HL.out j hj
        have hf3 := (HFS.out j (by omega)).2.2
        have HF3 := Lib.hid hf3
        have hr1 := rowL_length (i := t.i.toNat) (ds := (nths ss j).1) (fun d hd => by have := hf3 d (List.mem_append_left _ hd); omega)
        have hr2 := rowL_length (i := t.i.toNat) (ds := (nths ss j).2) (fun d hd => by have := hf3 d (List.mem_append_right _ hd); omega)
        have HR1 := Lib.hid hr1
        have HR2 := Lib.hid hr2
        clear hf3 hr1 hr2
        generalize hlu : (nths ss j).1.length = nb at *
        generalize hlv : (nths ss j).2.length = na at *
        go_wp2_with fail
        go_loopw [10, 8] (fun i o wr => ∃ (k : Nat) (v : Value), i = .int .i64 k ∧ o = v ∧ k ≤ nb ∧ wr.ownsRow w2.heap.size 5 1 v (packL total leaf ss j ++ rowL (nths ss j).1 k).length ((packL total leaf ss j ++ rowL (nths ss j).1 k).map encB) ∧ Below w2.heap.size w2 wr) (fun i _ _ => nb - (intOf i).toNat)
        case atStart => exact ⟨0, _, rfl, rfl, by omega, by simpa [rowL] using hown, hb⟩
        case round =>
          obtain ⟨k, v1, rfl, rfl, hk, hown1, hb1⟩ := hrel
          have hs1 := hb1.size
          have hBr1 : Below w.heap.size w wr := hB2.trans (hb1.mono (by omega))
          have c2r1 : wr.cell? ⟨w.heap.size + 1, 2, none⟩ = some (.slice (some ⟨bu, ou, none⟩) ss.length uc) := (hb1.cell (p := ⟨w.heap.size + 1, 2, none⟩) k2).trans c2
          have cu1 : wr.cell? ⟨bu, ou + j * 2, none⟩ = some (.slice au nb ku) := (hBr1.cell (p := ⟨bu, _, none⟩) hbw).trans CU.out
          by_cases hlk : k < nb
          · obtain ⟨-, b', o', x, cx, rfl, hb', hcell, hh8⟩ := RowsAt.elem (HRU.out.below hBr1) hlk
            have hlz : (nthd (nths ss j).1 k).length = t.i.toNat := by have := HF3.out _ (List.mem_append_left _ (nthd_mem (ds := (nths ss j).1) (k := k) (by omega))); omega
            have hne : nthd (nths ss j).1 k ≠ [] := fun e => by rw [e] at hlz; simp at hlz; omega
            have hmul : k * t.i.toNat ≤ 1048576 * 64 := Nat.mul_le_mul (by omega) (by omega)
            have hln : (packL total leaf ss j ++ rowL (nths ss j).1 k).length + (nthd (nths ss j).1 k).length ≤ 1099511627776 := by
              rw [List.length_append, packL_length, HR1.out k (by omega), hlz]; omega
            clear hlz
            go_wp2_with (at_builtin; refine append_bytes rfl _ _ rfl w2.heap.size (packL total leaf ss j ++ rowL (nths ss j).1 k) _ rfl hown1 _ (nthd (nths ss j).1 k) rfl hh8 hne hln (by omega) ?_; intro v' w' hown' hgrow)
            go_roundw
            case measure => simp [intOf]; omega
            refine ⟨k + 1, v', rfl, rfl, by omega, ?_, hb1.grown hgrow (by omega) (fun k e => (hown1.lt k e).1)⟩
            rw [row_snoc]
            exact hown'
          · obtain rfl : k = nb := by omega
            go_wp2_with fail
            go_loopw [11, 8] (fun i o wr => ∃ (k' : Nat) (v : Value), i = .int .i64 k' ∧ o = v ∧ k' ≤ na ∧ wr.ownsRow w2.heap.size 5 1 v (packL total leaf ss j ++ rowL (nths ss j).1 k ++ rowL (nths ss j).2 k').length ((packL total leaf ss j ++ rowL (nths ss j).1 k ++ rowL (nths ss j).2 k').map encB) ∧ Below w2.heap.size w2 wr) (fun i _ _ => na - (intOf i).toNat)
            case atStart => exact ⟨0, _, rfl, rfl, by omega, by simpa [rowL] using hown1, hb1⟩
            case round =>
              obtain ⟨k', v2, rfl, rfl, hk', hown2, hb2'⟩ := hrel
              have hs2' := hb2'.size
              have hBr2 : Below w.heap.size w wr := hB2.trans (hb2'.mono (by omega))
              have c2r2 : wr.cell? ⟨w.heap.size + 1, 2, none⟩ = some (.slice (some ⟨bu, ou, none⟩) ss.length uc) := (hb2'.cell (p := ⟨w.heap.size + 1, 2, none⟩) k2).trans c2
              have cv2 : wr.cell? ⟨bu, ou + j * 2 + 1, none⟩ = some (.slice av na kv) := (hBr2.cell (p := ⟨bu, _, none⟩) hbw).trans CV.out
              by_cases hlk' : k' < na
              · obtain ⟨-, b', o', x, cx, rfl, hb', hcell, hh8⟩ := RowsAt.elem (HRV.out.below hBr2) hlk'
                have hlz : (nthd (nths ss j).2 k').length = t.i.toNat := by have := HF3.out _ (List.mem_append_right _ (nthd_mem (ds := (nths ss j).2) (k := k') (by omega))); omega
                have hne : nthd (nths ss j).2 k' ≠ [] := fun e => by rw [e] at hlz; simp at hlz; omega
                have hmul : k * t.i.toNat ≤ 1048576 * 64 := Nat.mul_le_mul (by omega) (by omega)
                have hmul' : k' * t.i.toNat ≤ 1048576 * 64 := Nat.mul_le_mul (by omega) (by omega)
                have hln : (packL total leaf ss j ++ rowL (nths ss j).1 k ++ rowL (nths ss j).2 k').length + (nthd (nths ss j).2 k').length ≤ 1099511627776 := by
                  rw [List.length_append, List.length_append, packL_length, HR1.out k (by omega), HR2.out k' (by omega), hlz]; omega
                clear hlz
                go_wp2_with (at_builtin; refine append_bytes rfl _ _ rfl w2.heap.size (packL total leaf ss j ++ rowL (nths ss j).1 k ++ rowL (nths ss j).2 k') _ rfl hown2 _ (nthd (nths ss j).2 k') rfl hh8 hne hln (by omega) ?_; intro v' w' hown' hgrow)
                go_roundw
                case measure => simp [intOf]; omega
                refine ⟨k' + 1, v', rfl, rfl, by omega, ?_, hb2'.grown hgrow (by omega) (fun k e => (hown2.lt k e).1)⟩
                rw [row_snoc]
                exact hown'
              · obtain rfl : k' = na := by omega
                go_wp2
                refine ⟨⟨j + 1, _, rfl, rfl, by omega, ?_, hb2'⟩, by simp [intOf]; omega⟩
                rw [packL_succ, hlu, hlv]
                exact hown2
      · obtain rfl : j = ss.length := by omega
        go_wp2
        exact bodyPost_ret (results_tmp2 (fn := Try.f21) (t := 4) (u := 5) rfl _ _ _) rfl ⟨_, _, rfl, .inr ⟨HFP.out, rfl, holds_of_own hown⟩, hBr⟩
end Go.Proofs.Ytkmgkeodmkfnpaa
