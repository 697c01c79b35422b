/- The path of packed bytes, by the reference. No condition. -/
import Derived.Test.YtkmgkeodmkfnpaaPackI
import Derived.Test.YtkmgkeodmkfnpaaPop
namespace Go.Proofs.Ytkmgkeodmkfnpaa
open Go.ChangeShapes Go.WideShapes Go.ChangeAt Go.RowKit Go.Joins Go.Shelf Go.Maps
attribute [local go_sem] Oper.semAt_some

set_option maxRecDepth 100000 in
theorem refUnpack_valid (t : TreeV) (v : Value) (he : (t.validE != 0) = true) (w : World) :
    Calls Try.prog 23 #[t.val, v] w fun r w' => r = .returned (.tuple #[pathVal 0 0 (.slice none 0 0), .int .i64 t.validE]) ∧ Below w.heap.size w w' := by
  have HV := Lib.hid (refValid_any t)
  unfold TreeV.val pathVal at *
  go_enter Try.func23, Try.ntmps23
  go_wp2_with fail
  refine (HV.out _).mono ?_; rintro r w1 ⟨rfl, hb1⟩
  obtain ⟨hT, hR, hB1, hs1⟩ := un_boxes hb1
  obtain ⟨cR, fR⟩ := blockC hR
  have HR := Lib.hid hR
  clear hb1 hT hR
  go_wp2
  exact bodyPost_ret (path_results rfl rfl rfl (b := w.heap.size + 1) (block_set3 HR.out _ _ _) rfl) rfl ⟨rfl, below_set3 hB1 (by omega) _ _ _⟩
set_option maxRecDepth 100000 in
theorem refUnpack_short8 (t : TreeV) (a : Option Addr) (n cap : Nat) (he : t.validE = 0) (hn : n < 8) (w : World) :
    Calls Try.prog 23 #[t.val, .slice a n cap] w fun r w' => r = .returned (.tuple #[pathVal 0 0 (.slice none 0 0), .int .i64 3]) ∧ Below w.heap.size w w' := by
  have HV := Lib.hid (refValid_any t)
  rw [he] at HV
  unfold TreeV.val pathVal at *
  go_enter Try.func23, Try.ntmps23
  go_wp2_with fail
  refine (HV.out _).mono ?_; rintro r w1 ⟨rfl, hb1⟩
  obtain ⟨hT, hR, hB1, hs1⟩ := un_boxes hb1
  obtain ⟨cR, fR⟩ := blockC hR
  have HR := Lib.hid hR
  clear hb1 hT hR
  go_wp2_with fail
  refine (refLoad_short n a cap 0 _ (by omega) (by omega) (by omega)).mono ?_; rintro r w2 ⟨rfl, rfl⟩
  go_wp2_with fail
  refine (refLoad_short n a cap 8 _ (by omega) (by omega) (by omega)).mono ?_; rintro r w2 ⟨rfl, rfl⟩
  go_wp2
  exact bodyPost_ret (path_results rfl rfl rfl (b := w.heap.size + 1) (block_set3 HR.out _ _ _) rfl) rfl ⟨rfl, below_set3 hB1 (by omega) _ _ _⟩
set_option maxRecDepth 100000 in
theorem refUnpack_short16 (t : TreeV) (zs : List Int) (v : Value) (he : t.validE = 0) (hz : ∀ z ∈ zs, 0 ≤ z ∧ z ≤ 255) (hn8 : 8 ≤ zs.length) (hn : zs.length < 16) (w : World) (hv : Holds8 w v zs) :
    Calls Try.prog 23 #[t.val, v] w fun r w' => r = .returned (.tuple #[pathVal 0 0 (.slice none 0 0), .int .i64 3]) ∧ Below w.heap.size w w' := by
  have HV := Lib.hid (refValid_any t)
  rw [he] at HV
  have HH := Lib.hid hv
  have HLD := Lib.hid (fun (w : World) (h : Holds8 w v zs) => refLoad_ok zs v 0 w h hz (by omega) (by omega))
  generalize valZ zs 0 8 = x0 at *
  obtain ⟨a, cap, rfl, -⟩ := hv
  unfold TreeV.val pathVal at *
  go_enter Try.func23, Try.ntmps23
  go_wp2_with fail
  refine (HV.out _).mono ?_; rintro r w1 ⟨rfl, hb1⟩
  obtain ⟨hT, hR, hB1, hs1⟩ := un_boxes hb1
  obtain ⟨cR, fR⟩ := blockC hR
  have HR := Lib.hid hR
  clear hb1 hT hR
  go_wp2_with fail
  refine (HLD.out _ (holds8_below HH.out hB1)).mono ?_; rintro r w2 ⟨rfl, rfl⟩
  go_wp2_with fail
  refine (refLoad_short zs.length a cap 8 _ (by omega) (by omega) (by omega)).mono ?_; rintro r w2 ⟨rfl, rfl⟩
  go_wp2
  exact bodyPost_ret (path_results rfl rfl rfl (b := w.heap.size + 1) (block_set3 HR.out _ _ _) rfl) rfl ⟨rfl, below_set3 hB1 (by omega) _ _ _⟩
def atB (t : TreeV) (total leaf i k : Nat) : Nat := 16 + needB t total leaf i k
set_option maxRecDepth 100000 in
set_option maxHeartbeats 1000000 in
theorem refUnpack_go (t : TreeV) (hlt : 0 ≤ t.l ∧ t.l ≤ 4294967295) (v : Value) (zs : List Int) (total leaf i L : Nat) (hval : t.validE = 0) (hti : t.i = (i : Int)) (hi1 : 1 ≤ i) (hi2 : i ≤ 64) (htot : (total : Int) ≤ 18446744073709551615) (hto : valZ zs 0 8 = (total : Int)) (hle : valZ zs 8 8 = (leaf : Int)) (hz : ∀ z ∈ zs, 0 ≤ z ∧ z ≤ 255) (hL : zs.length = L + 16) (hm0 : zs.length ≤ 1048576) (m : Nat) (hmm0 : (t.rowsOf total).length - 1 = m) (Post : World → Value → Int → Prop)
    (P1 : Hid (t.spotE total 0 leaf ≠ 0 → ∀ w', Post w' (pathVal 0 0 (.slice none 0 0)) (t.spotE total 0 leaf)))
    (P3 : Hid (t.spotE total 0 leaf = 0 → L < needN t total leaf m * i → ∀ w', Post w' (pathVal 0 0 (.slice none 0 0)) 3))
    (P9 : Hid (t.spotE total 0 leaf = 0 → needN t total leaf m * i < L → ∀ w', Post w' (pathVal 0 0 (.slice none 0 0)) 9))
    (P0 : Hid (t.spotE total 0 leaf = 0 → needN t total leaf m * i = L → ∀ w' u, StepsAt w' u (unL t total leaf i zs m) → Post w' (pathVal total leaf u) 0))
    (w : World) (hv : Holds8 w v zs) :
    Calls Try.prog 23 #[t.val, v] w fun r w' => ∃ p e, r = .returned (.tuple #[p, .int .i64 e]) ∧ Post w' p e ∧ Below w.heap.size w w' := by
  have hdig : ∀ (at_ n : Nat) (w : World) (v : Value), Holds8 w v zs → at_ + n * i ≤ zs.length → Calls Try.prog 57 #[v, .int .i64 at_, .int .u64 n, .int .i64 t.i] w fun e w' => ∃ l, e = .returned l ∧ RowT w' l (cutL zs at_ i n) ∧ Below w.heap.size w w' := by
    intro at_ n w v h1 h2
    rw [hti]
    exact digests_ok zs v at_ n i w h1 hz hi1 hi2 h2 hm0
  have HDIG := Lib.hid hdig
  clear hdig
  have HTI := Lib.hid hti
  have hj1 : 1 ≤ t.i := by omega
  have hj2 : t.i ≤ 64 := by omega
  clear hti
  have HL0 := Lib.hid (fun (w : World) (h : Holds8 w v zs) => refLoad_ok zs v 0 w h hz (by omega) (by omega))
  have HL8 := Lib.hid (fun (w : World) (h : Holds8 w v zs) => refLoad_ok zs v 8 w h hz (by omega) (by omega))
  rw [hto] at HL0
  rw [hle] at HL8
  clear hto hle
  have HV := Lib.hid (refValid_any t)
  rw [hval] at HV
  have HH := Lib.hid hv
  have HSZ := Lib.hid (refSize_any t hlt total htot leaf)
  have hws := refWay_spots t hlt total htot leaf
  rw [hmm0] at hws
  have HWo := Lib.hid hws
  clear hws
  have HWK := Lib.hid (way_kids hlt htot (leaf := leaf))
  have HWF := Lib.hid (way_facts hlt htot (leaf := leaf))
  have hsn : t.spotE total 0 leaf = 0 → t.sizeR total leaf = (needN t total leaf m : Int) := fun h => by rw [sizeR_need hlt htot h, hmm0]
  have HSN := Lib.hid hsn
  clear hsn
  obtain ⟨a, cap, rfl, -⟩ := hv
  have HL := Lib.hid hL
  have hL16 : (zs.length : Int) - 16 = (L : Int) := by omega
  have h16 : 16 ≤ zs.length := by omega
  have hm : L ≤ 1048576 := by omega
  have HMM := Lib.hid hmm0
  clear hL hmm0
  unfold TreeV.val pathVal at *
  go_enter Try.func23, Try.ntmps23
  go_wp2_with fail
  refine (HV.out _).mono ?_; rintro r w1 ⟨rfl, hb1⟩
  obtain ⟨hT, hR, hB1, hs1⟩ := un_boxes hb1
  have HT := Lib.hid hT
  have HR := Lib.hid hR
  obtain ⟨cR, fR⟩ := blockC hR
  obtain ⟨cT, fT⟩ := blockC hT
  clear hb1 hT hR
  have k1 : w.heap.size < w1.heap.size := by omega
  have k1' : w.heap.size + 1 < w1.heap.size := by omega
  go_wp2_with fail
  refine (HL0.out _ (holds8_below HH.out hB1)).mono ?_; rintro r w2 ⟨rfl, rfl⟩
  go_wp2_with fail
  refine (HL8.out _ (holds8_below HH.out hB1)).mono ?_; rintro r w2 ⟨rfl, rfl⟩
  go_wp2_with fail
  refine (HSZ.out _).mono ?_; rintro r w2 ⟨rfl, hB2⟩
  have hs2 := hB2.size
  have hT2 := (hB2.block _ k1).trans HT.out
  have hR2 := (hB2.block _ k1').trans HR.out
  have HT2 := Lib.hid hT2
  have HR2 := Lib.hid hR2
  obtain ⟨cT2, fT2⟩ := blockC hT2
  obtain ⟨cR2, fR2⟩ := blockC hR2
  have hBw : Below w.heap.size w w2 := hB1.trans (hB2.mono (by omega))
  clear hT2 hR2 cR fR cT fT HV HL0 HL8 HSZ
  by_cases he : t.spotE total 0 leaf = 0
  · have HE := Lib.hid he
    have hsz := HSN.out he
    obtain ⟨S, hS⟩ : ∃ S, needN t total leaf m = S := ⟨_, rfl⟩
    rw [hS] at hsz
    obtain ⟨hk, h0, -⟩ := HWK.out he
    have F := HWF.out he
    have m1 := F.two
    have m2 := F.most
    have hS64 : (S : Int) ≤ 18446744073709551615 := by
      have := needN_le hk m (by have := HMM.out; omega)
      omega
    have HK := Lib.hid hk
    have HSS := Lib.hid hS
    have hmm := HMM.out
    have hgm : 1 ≤ m := by omega
    have hgm2 : m ≤ 255 := by omega
    rw [he, hsz]
    clear hS hk F m1 m2 hmm HWK HWF HSN hsz h0 he
    obtain ⟨hv, hhv⟩ : ∃ hv, L / i = hv := ⟨_, rfl⟩
    have hdv : (L : Int).tdiv t.i = (hv : Int) := by
      rw [HTI.out, Int.tdiv_eq_ediv_of_nonneg (by omega), ← hhv]; omega
    have hhl : hv ≤ L := by rw [← hhv]; exact Nat.div_le_self _ _
    have hlt2 : hv < S ↔ L < S * i := by rw [← hhv]; exact Nat.div_lt_iff_lt_mul hi1
    have HLT := Lib.hid hlt2
    clear hlt2 hhv
    by_cases hA : hv < S
    · have HFIN := Lib.hid (show L < needN t total leaf m * i by rw [HSS.out]; exact HLT.out.1 hA)
      go_wp2
      exact bodyPost_ret (path_results rfl rfl rfl (b := w.heap.size + 1) (block_set3 HR2.out _ _ _) rfl) rfl ⟨_, _, rfl, P3.out HE.out HFIN.out _, below_set3 hBw (by omega) _ _ _⟩
    · have hSi : S * i ≤ L := by
        have := HLT.out
        omega
      have hpe : (S : Int) * t.i = ((S * i : Nat) : Int) := by rw [HTI.out, Int.natCast_mul]
      have hp0 : 0 ≤ (S : Int) * t.i := by rw [hpe]; omega
      have hp1 : (S : Int) * t.i ≤ 1048576 := by rw [hpe]; omega
      have HPE := Lib.hid hpe
      clear hpe
      by_cases hC : S * i < L
      · have hC' : 16 + (S : Int) * t.i < (zs.length : Int) := by rw [HPE.out]; have := HL.out; omega
        have HFIN := Lib.hid (show needN t total leaf m * i < L by rw [HSS.out]; exact hC)
        clear hC hSi
        go_wp2
        exact bodyPost_ret (path_results rfl rfl rfl (b := w.heap.size + 1) (block_set3 HR2.out _ _ _) rfl) rfl ⟨_, _, rfl, P9.out HE.out HFIN.out _, below_set3 hBw (by omega) _ _ _⟩
      · have hC' : ¬ 16 + (S : Int) * t.i < (zs.length : Int) := by rw [HPE.out]; have := HL.out; omega
        have hEq : needB t total leaf i m = L := by unfold needB; rw [HSS.out]; omega
        have HEQ := Lib.hid hEq
        clear hC hSi hEq
        go_wp2_with fail
        refine (HWo.out HE.out _).mono ?_; rintro r w3 ⟨g, gc, rfl, hst3, hb3⟩
        have hs3 := hb3.size
        have hT3 := (hb3.block _ (by omega)).trans HT2.out
        have hR3 := (hb3.block _ (by omega)).trans HR2.out
        have HT3 := Lib.hid hT3
        have HR3 := Lib.hid hR3
        have HST3 := Lib.hid hst3
        have hB3w : Below w.heap.size w w3 := hBw.trans (hb3.mono (by omega))
        have hgs := hst3.1
        have q1 : w.heap.size < w3.heap.size := by omega
        have q2 : w.heap.size + 1 < w3.heap.size := by omega
        clear hT3 hR3 hst3 cT2 fT2 cR2 fR2 hA hdv hhl hp0 hp1 hC' HLT hb3 hS64
        go_wp2_with fail
        go_loopw [15, 16] (fun aa ii wr => ∃ (j : Nat) (v : Value), ii = .int .i64 ((j : Int) + 1) ∧ aa = .int .i64 (atB t total leaf i j : Nat) ∧ j ≤ m ∧ Below w3.heap.size w3 wr ∧ wr.heap[w3.heap.size]? = some (Obj.cells #[.int .u64 total, .int .u64 leaf, v] 58 (0, 0)) ∧ Hid (StepsT wr (w3.heap.size + 1) v (unL t total leaf i zs j))) (fun _ ii _ => m + 1 - (intOf ii).toNat)
        case atStart => exact ⟨0, _, rfl, by simp [atB, needB, needN], by omega, (Below.refl _ _).alloc (Nat.le_refl _) _, World.alloc_heap_new _ _, Lib.hid ⟨[], World.ownsRow_nil _ _ _ _, fun j h => absurd h (Nat.not_lt_zero _)⟩⟩
        case round =>
          obtain ⟨j, v, rfl, rfl, hj, hb, hPj, HSt⟩ := hrel
          have hsr := hb.size
          have hTj := (hb.block _ q1).trans HT3.out
          have hRj := (hb.block _ q2).trans HR3.out
          have hPlt := (Array.getElem?_eq_some_iff.1 hPj).1
          have HRj := Lib.hid hRj
          have HTj := Lib.hid hTj
          have HPj := Lib.hid hPj
          have hBwr : Below w.heap.size w wr := hB3w.trans (hb.mono (by omega))
          obtain ⟨cT, fT⟩ := blockC hTj
          obtain ⟨cR, fR⟩ := blockC hRj
          obtain ⟨cP, fP⟩ := blockC hPj
          have q3 : w.heap.size < wr.heap.size := by omega
          have q4 : w.heap.size + 1 < wr.heap.size := by omega
          clear hTj hRj hPj
          by_cases hlj : j < m
          · obtain ⟨a1, -, -⟩ := (HST3.out.2 j (by omega)).below hgs hb
            obtain ⟨-, b2, b3⟩ := (HST3.out.2 (j + 1) (by omega)).below hgs hb
            dsimp only at a1 b2 b3
            obtain ⟨h1, h2, h3, h4⟩ := HK.out j (by have := HMM.out; omega)
            rw [wayS_at] at a1
            have hch : (wayA t.fn (t.rowsOf total) leaf j : Int) - ((wayS t total leaf (j + 1)).frm : Int) = ((chN t total leaf j : Nat) : Int) := by unfold chN; omega
            have haf : ((wayS t total leaf (j + 1)).to_ : Int) - (wayA t.fn (t.rowsOf total) leaf j : Int) - 1 = ((afN t total leaf j : Nat) : Int) := by unfold afN; omega
            have hf0 : 0 ≤ ((wayS t total leaf (j + 1)).frm : Int) := Int.natCast_nonneg _
            have hf1 : ((wayS t total leaf (j + 1)).frm : Int) ≤ (wayA t.fn (t.rowsOf total) leaf j : Int) := by omega
            have hf2 : (wayA t.fn (t.rowsOf total) leaf j : Int) + 1 ≤ ((wayS t total leaf (j + 1)).to_ : Int) := by omega
            have hsucc := needB_succ t total leaf i j
            have hmono := needB_mono t total leaf i (show j + 1 ≤ m by omega)
            have hnn : nN t total leaf j * i = chN t total leaf j * i + afN t total leaf j * i := by unfold nN; rw [Nat.add_mul]
            have hunl : unL t total leaf i zs (j + 1) = unL t total leaf i zs j ++ [(cutL zs (16 + needB t total leaf i j) i (chN t total leaf j), cutL zs (16 + needB t total leaf i j + chN t total leaf j * i) i (afN t total leaf j))] := rfl
            have HUNL := Lib.hid hunl
            have hE := HEQ.out
            clear h1 h2 h4 hunl
            generalize (wayA t.fn (t.rowsOf total) leaf j : Int) = z1 at *
            generalize ((wayS t total leaf (j + 1)).frm : Int) = z2 at *
            generalize ((wayS t total leaf (j + 1)).to_ : Int) = z3 at *
            generalize needB t total leaf i m = nk at *
            have hat : atB t total leaf i j = 16 + needB t total leaf i j := rfl
            have hat1 : atB t total leaf i (j + 1) = 16 + needB t total leaf i (j + 1) := rfl
            obtain ⟨p0, hp0⟩ : ∃ p0, atB t total leaf i j = p0 := ⟨_, rfl⟩
            obtain ⟨p1, hp1⟩ : ∃ p1, atB t total leaf i (j + 1) = p1 := ⟨_, rfl⟩
            rw [← hat, hp0] at HUNL
            rw [hp0] at hat ⊢
            rw [hp1] at hat1
            have HP1 := Lib.hid hp1
            clear hp0 hp1
            generalize needB t total leaf i (j + 1) = n1 at *
            generalize needB t total leaf i j = n0 at *
            generalize chN t total leaf j = c at *
            generalize afN t total leaf j = d at *
            generalize nN t total leaf j * i = nni at *
            have hLz := HL.out
            have HB1 := Lib.hid (show p0 + c * i ≤ zs.length by omega)
            have HB2 := Lib.hid (show p0 + c * i + d * i ≤ zs.length by omega)
            have hp1e : p1 = p0 + c * i + d * i := by omega
            have hci : (c : Int) * t.i = ((c * i : Nat) : Int) := by rw [HTI.out, Int.natCast_mul]
            have hdi : (d : Int) * t.i = ((d * i : Nat) : Int) := by rw [HTI.out, Int.natCast_mul]
            have hc0 : 0 ≤ (c : Int) * t.i := by rw [hci]; omega
            have hc1 : (c : Int) * t.i ≤ 1048576 := by rw [hci]; omega
            have hcd : ((c : Int) + (d : Int)) * t.i = (c : Int) * t.i + (d : Int) * t.i := Int.add_mul _ _ _
            have hcd0 : 0 ≤ ((c : Int) + (d : Int)) * t.i := by rw [hcd, hci, hdi]; omega
            have hcd1 : ((c : Int) + (d : Int)) * t.i ≤ 1048576 := by rw [hcd, hci, hdi]; omega
            have hat2 : (p0 : Int) + (c : Int) * t.i = ((p0 + c * i : Nat) : Int) := by rw [hci]; omega
            have hat3 : (p0 : Int) + ((c : Int) + (d : Int)) * t.i = (p1 : Int) := by rw [hcd, hci, hdi, hp1e]; omega
            have hcs : c ≤ c * i := Nat.le_mul_of_pos_right c hi1
            have hds : d ≤ d * i := Nat.le_mul_of_pos_right d hi1
            have hc8 : c ≤ 1048576 := by omega
            have hd8 : d ≤ 1048576 := by omega
            have hp8 : p0 ≤ 1048576 := by omega
            have hp9 : p1 ≤ 1048576 := by omega
            have HAT2 := Lib.hid hat2
            have HAT3 := Lib.hid hat3
            clear hci hdi hcd hp1e hcs hds hat2 hat3 hat hat1 hsucc hmono hnn hE hLz
            obtain ⟨xs, hownv, hxs⟩ := HSt.out
            have HXS := Lib.hid hxs
            have hul := unL_length t total leaf i zs j
            have HUL := Lib.hid hul
            have hxl : xs.length = j * 2 := by rw [hownv.1, hul]
            rw [hul] at hownv
            have HOWNV := Lib.hid hownv
            have hHHr := Lib.hid (holds8_below HH.out hBwr)
            obtain ⟨i1, hi1', hy0, hy1, hy2⟩ := info_parts info_step
            clear hxs hul hownv
            go_wp2_with fail
            go_quiet (fail)
            go_wp2_with fail
            refine letter_world ?_
            intro W1 hW1
            have hWB1 : Below wr.heap.size wr W1 := by rw [hW1]; exact below_draws _ _ _
            have hWs1 : W1.heap.size = wr.heap.size := by rw [hW1]; rfl
            have a1' := (hWB1.cell (p := ⟨g, j * 6 + 1, none⟩) (show g < wr.heap.size by omega)).trans a1
            have b3' := (hWB1.cell (p := ⟨g, (j + 1) * 6 + 3, none⟩) (show g < wr.heap.size by omega)).trans b3
            clear hW1 a1 b2 b3 cT fT cR fR cP fP
            go_quiet (fail)
            go_wp2_with fail
            refine letter_world ?_
            intro W hW
            have hWB : Below wr.heap.size wr W := by rw [hW]; exact hWB1.trans (below_draws _ _ _)
            have hWs : W.heap.size = wr.heap.size := by rw [hW]; exact hWs1
            have hPW := (hWB.block _ hPlt).trans HPj.out
            have hTW := (hWB.block _ q3).trans HTj.out
            have cPW : W.cell? ⟨w3.heap.size, 2, none⟩ = some v := cell_of_heap hPW 2
            have cTW : W.cell? ⟨w.heap.size, 5, none⟩ = some (.int .i64 t.i) := cell_of_heap hTW 5
            have HPW := Lib.hid hPW
            have HTW := Lib.hid hTW
            have hownW : W.ownsRow (w3.heap.size + 1) 109 2 v j xs := ownsRow_same' HOWNV.out (fun g _ g2 => hWB.block g g2)
            have HHW := Lib.hid (holds8_below hHHr.out hWB)
            have q5 : w3.heap.size < W.heap.size := by omega
            have q6 : w.heap.size < W.heap.size := by omega
            have hd1 : ∀ (w : World) (v : Value), Holds8 w v zs → Calls Try.prog 57 #[v, .int .i64 (p0 : Int), .int .u64 c, .int .i64 t.i] w fun e w' => ∃ l, e = .returned l ∧ RowT w' l (cutL zs p0 i c) ∧ Below w.heap.size w w' := fun w v h => HDIG.out p0 c w v h HB1.out
            have hd2 : ∀ (w : World) (v : Value), Holds8 w v zs → Calls Try.prog 57 #[v, .int .i64 (IntKind.i64.wrap ((p0 : Int) + IntKind.i64.wrap (IntKind.i64.wrap (c : Int) * t.i))), .int .u64 d, .int .i64 t.i] w fun e w' => ∃ l, e = .returned l ∧ RowT w' l (cutL zs (p0 + c * i) i d) ∧ Below w.heap.size w w' := fun w v h => by
              have w1 : IntKind.i64.wrap (c : Int) = (c : Int) := by rw [IntKind.wrap_i64]; omega
              have w2 : IntKind.i64.wrap ((c : Int) * t.i) = (c : Int) * t.i := by rw [IntKind.wrap_i64]; omega
              have w3 : IntKind.i64.wrap ((p0 : Int) + (c : Int) * t.i) = (p0 : Int) + (c : Int) * t.i := by rw [IntKind.wrap_i64]; omega
              rw [w1, w2, w3, HAT2.out]
              exact HDIG.out (p0 + c * i) d w v h HB2.out
            have HD1 := Lib.hid hd1
            have HD2 := Lib.hid hd2
            clear hd1 hd2
            clear hW hPW hTW a1' b3' hWB1 hWs1
            refine wp_region_pop' (by dsimp only [List.dropLast]) (by rfl) (by rfl) (by kernel_rfl) (by kernel_rfl) (by kernel_rfl) (fun w' => w'.cell? ⟨w3.heap.size, 2, none⟩ = some v ∧ w'.cell? ⟨w.heap.size, 5, none⟩ = some (.int .i64 t.i)) ⟨cPW, cTW⟩ (fun hHeld => ?_)
            refine wpAnyH_take (i := 0) (oi := _) (v := ?_) rfl (by kernel_rfl) (by kernel_rfl) (by kernel_rfl) (fun _ _ _ h => h) (Or.inl ⟨by rfl, ?_⟩) (by assumption) ?_
            rotate_left
            · intro w hSw; (try dsimp only at hSw); go_simp; try with_reducible rfl
            try simp only [Act.put, List.setIfInBounds_toArray, List.set_cons_zero, List.set_cons_succ]
            refine wpAnyH_take (i := 1) (oi := _) (v := ?_) rfl (by kernel_rfl) (by kernel_rfl) (by kernel_rfl) (fun _ _ _ h => h) (Or.inl ⟨by rfl, ?_⟩) (by assumption) ?_
            rotate_left
            · intro w hSw; (try dsimp only at hSw); go_simp; try with_reducible rfl
            try simp only [Act.put, List.setIfInBounds_toArray, List.set_cons_zero, List.set_cons_succ]
            refine wpAnyH_take (i := 2) (oi := _) (v := ?_) rfl (by kernel_rfl) (by kernel_rfl) (by kernel_rfl) (fun _ _ _ h => h) (Or.inl ⟨by rfl, ?_⟩) (by assumption) ?_
            rotate_left
            · intro w hSw; (try dsimp only at hSw); go_simp; try with_reducible rfl
            try simp only [Act.put, List.setIfInBounds_toArray, List.set_cons_zero, List.set_cons_succ]
            refine wpAnyH_take (i := 3) (oi := _) (v := ?_) rfl (by kernel_rfl) (by kernel_rfl) (by kernel_rfl) (fun _ _ _ h => h) (Or.inl ⟨by rfl, ?_⟩) (by assumption) ?_
            rotate_left
            · intro w hSw; (try dsimp only at hSw); go_simp; try with_reducible rfl
            try simp only [Act.put, List.setIfInBounds_toArray, List.set_cons_zero, List.set_cons_succ]
            refine wpAnyH_take (i := 4) (oi := _) (v := ?_) rfl (by kernel_rfl) (by kernel_rfl) (by kernel_rfl) (fun _ _ _ h => h) (Or.inl ⟨by rfl, ?_⟩) (by assumption) ?_
            rotate_left
            · intro w hSw; (try dsimp only at hSw); go_simp; try with_reducible rfl
            try simp only [Act.put, List.setIfInBounds_toArray, List.set_cons_zero, List.set_cons_succ]
            refine wpAnyH_take (i := 5) (oi := _) (v := ?_) rfl (by kernel_rfl) (by kernel_rfl) (by kernel_rfl) (fun _ _ _ h => h) (Or.inl ⟨by rfl, ?_⟩) (by assumption) ?_
            rotate_left
            · intro w hSw; (try dsimp only at hSw); go_simp; try with_reducible rfl
            try simp only [Act.put, List.setIfInBounds_toArray, List.set_cons_zero, List.set_cons_succ]
            refine wpAnyH_take (i := 6) (oi := _) (v := ?_) rfl (by kernel_rfl) (by kernel_rfl) (by kernel_rfl) (fun _ _ _ h => h) (Or.inl ⟨by rfl, ?_⟩) (by assumption) ?_
            rotate_left
            · intro w hSw; (try dsimp only at hSw); go_simp; try with_reducible rfl
            try simp only [Act.put, List.setIfInBounds_toArray, List.set_cons_zero, List.set_cons_succ]
            refine wpAnyH_take (i := 8) (oi := _) (v := ?_) rfl (by kernel_rfl) (by kernel_rfl) (by kernel_rfl) (fun _ _ _ h => h) (Or.inl ⟨by rfl, ?_⟩) (by assumption) ?_
            rotate_left
            · intro w hSw; (try dsimp only at hSw); go_simp; try with_reducible rfl
            try simp only [Act.put, List.setIfInBounds_toArray, List.set_cons_zero, List.set_cons_succ]
            refine wpAnyH_take (i := 9) (oi := _) (v := ?_) rfl (by kernel_rfl) (by kernel_rfl) (by kernel_rfl) (fun _ _ _ h => h) (Or.inl ⟨by rfl, ?_⟩) (by assumption) ?_
            rotate_left
            · intro w hSw; (try dsimp only at hSw); go_simp; try with_reducible rfl
            try simp only [Act.put, List.setIfInBounds_toArray, List.set_cons_zero, List.set_cons_succ]
            refine wpAnyH_take (i := 10) (oi := _) (v := ?_) rfl (by kernel_rfl) (by kernel_rfl) (by kernel_rfl) (fun _ _ _ h => h) (Or.inl ⟨by rfl, ?_⟩) (by assumption) ?_
            rotate_left
            · intro w hSw; (try dsimp only at hSw); go_simp; try with_reducible rfl
            try simp only [Act.put, List.setIfInBounds_toArray, List.set_cons_zero, List.set_cons_succ]
            refine wpAnyH_take (i := 11) (oi := _) (v := ?_) rfl (by kernel_rfl) (by kernel_rfl) (by kernel_rfl) (fun _ _ _ h => h) (Or.inl ⟨by rfl, ?_⟩) (by assumption) ?_
            rotate_left
            · intro w hSw; (try dsimp only at hSw); go_simp; try with_reducible rfl
            try simp only [Act.put, List.setIfInBounds_toArray, List.set_cons_zero, List.set_cons_succ]
            refine wpAnyH_take (i := 12) (oi := _) (v := ?_) rfl (by kernel_rfl) (by kernel_rfl) (by kernel_rfl) (fun _ _ _ h => h) (Or.inl ⟨by rfl, ?_⟩) (by assumption) ?_
            rotate_left
            · intro w hSw; (try dsimp only at hSw); go_simp; try with_reducible rfl
            try simp only [Act.put, List.setIfInBounds_toArray, List.set_cons_zero, List.set_cons_succ]
            refine wpAnyH_take (i := 13) (oi := _) (v := ?_) rfl (by kernel_rfl) (by kernel_rfl) (by kernel_rfl) (fun _ _ _ h => h) (Or.inl ⟨by rfl, ?_⟩) (by assumption) ?_
            rotate_left
            · intro w hSw; (try dsimp only at hSw); go_simp; try with_reducible rfl
            try simp only [Act.put, List.setIfInBounds_toArray, List.set_cons_zero, List.set_cons_succ]
            refine wpAnyH_take (i := 14) (oi := _) (v := ?_) rfl (by kernel_rfl) (by kernel_rfl) (by kernel_rfl) (fun _ _ _ h => h) (Or.inl ⟨by rfl, ?_⟩) (by assumption) ?_
            rotate_left
            · intro w hSw; (try dsimp only at hSw); go_simp; try with_reducible rfl
            try simp only [Act.put, List.setIfInBounds_toArray, List.set_cons_zero, List.set_cons_succ]
            refine wpAnyH_take (i := 15) (oi := _) (v := ?_) rfl (by kernel_rfl) (by kernel_rfl) (by kernel_rfl) (fun _ _ _ h => h) (Or.inl ⟨by rfl, ?_⟩) (by assumption) ?_
            rotate_left
            · intro w hSw; (try dsimp only at hSw); go_simp; try with_reducible rfl
            try simp only [Act.put, List.setIfInBounds_toArray, List.set_cons_zero, List.set_cons_succ]
            refine wpAnyH_take (i := 16) (oi := _) (v := ?_) rfl (by kernel_rfl) (by kernel_rfl) (by kernel_rfl) (fun _ _ _ h => h) (Or.inl ⟨by rfl, ?_⟩) (by assumption) ?_
            rotate_left
            · intro w hSw; (try dsimp only at hSw); go_simp; try with_reducible rfl
            try simp only [Act.put, List.setIfInBounds_toArray, List.set_cons_zero, List.set_cons_succ]
            refine wpAnyH_take (i := 17) (oi := _) (v := ?_) rfl (by kernel_rfl) (by kernel_rfl) (by kernel_rfl) (fun _ _ _ h => h) (Or.inl ⟨by rfl, ?_⟩) (by assumption) ?_
            rotate_left
            · intro w hSw; (try dsimp only at hSw); go_simp; try with_reducible rfl
            try simp only [Act.put, List.setIfInBounds_toArray, List.set_cons_zero, List.set_cons_succ]
            refine wpAnyH_take (i := 18) (oi := _) (v := ?_) rfl (by kernel_rfl) (by kernel_rfl) (by kernel_rfl) (fun _ _ _ h => h) (Or.inl ⟨by rfl, ?_⟩) (by assumption) ?_
            rotate_left
            · intro w hSw; (try dsimp only at hSw); go_simp; try with_reducible rfl
            try simp only [Act.put, List.setIfInBounds_toArray, List.set_cons_zero, List.set_cons_succ]
            refine wpAnyH_ready (rs := [7]) (by kernel_rfl) (by simp) ?_
            refine AllReadyH.cons (o := _) rfl (fun K hK => ?_) AllReadyH.nil
            go_simp
            refine (HD1.out _ _ ?_).mono ?_
            · exact holds8_below HHW.out (by repeat (first | exact Below.refl _ _ | refine Below.drew ?_))
            rintro e wa ⟨l1, rfl, hrow1, hba⟩
            have hBa : Below W.heap.size W wa := (by refine Below.trans ?_ (hba.mono (by simp)); repeat (first | exact Below.refl _ _ | refine Below.drew ?_))
            have hsa := hBa.size
            obtain ⟨x1, y1, rfl⟩ := hrow1.form
            have HROW1 := Lib.hid hrow1
            clear hrow1 hba
            go_wp2_with fail
            refine hK.out _ _ (⟨(hBa.cell (p := ⟨w3.heap.size, 2, none⟩) q5).trans cPW, (hBa.cell (p := ⟨w.heap.size, 5, none⟩) q6).trans cTW⟩) (fun hHeld => ?_)
            clear hK K
            try simp only [Act.put, List.setIfInBounds_toArray, List.set_cons_zero, List.set_cons_succ]
            refine wpAnyH_ready (rs := [19]) (by kernel_rfl) (by simp) ?_
            refine AllReadyH.cons (o := _) rfl (fun K hK => ?_) AllReadyH.nil
            go_simp
            refine (HD2.out _ _ ?_).mono ?_
            · exact holds8_below HHW.out (by repeat (first | exact hBa | refine Below.drew ?_))
            rintro e wb ⟨l2, rfl, hrow2, hbb⟩
            have hBab : Below wa.heap.size wa wb := (by refine Below.trans ?_ (hbb.mono (by simp)); repeat (first | exact Below.refl _ _ | refine Below.drew ?_))
            have hBb : Below W.heap.size W wb := hBa.trans (hBab.mono hsa)
            have hsb := hBb.size
            have q7 : w3.heap.size < wb.heap.size := (by omega)
            have q8 : w.heap.size < wb.heap.size := (by omega)
            obtain ⟨x2, y2, rfl⟩ := hrow2.form
            have HROW2 := Lib.hid hrow2
            have HBAB := Lib.hid hBab
            have hownb := ownsRow_same' hownW (fun g _ g2 => hBb.block g g2)
            clear hrow2 hbb
            go_wp2_with fail
            refine hK.out _ _ (⟨(hBb.cell (p := ⟨w3.heap.size, 2, none⟩) q5).trans cPW, (hBb.cell (p := ⟨w.heap.size, 5, none⟩) q6).trans cTW⟩) (fun hHeld => ?_)
            clear hK K
            try simp only [Act.put, List.setIfInBounds_toArray, List.set_cons_zero, List.set_cons_succ]
            refine wpAnyH_take (i := 20) (oi := _) (v := ?_) rfl (by kernel_rfl) (by kernel_rfl) (by kernel_rfl) (fun _ _ _ h => h) (Or.inl ⟨by rfl, ?_⟩) (by assumption) ?_
            rotate_left
            · intro w hSw; (try dsimp only at hSw); go_simp; try with_reducible rfl
            try simp only [Act.put, List.setIfInBounds_toArray, List.set_cons_zero, List.set_cons_succ]
            refine wpAnyH_ready (rs := [21]) (by kernel_rfl) (by simp) ?_
            refine AllReadyH.cons (o := _) rfl (fun K hK => ?_) AllReadyH.nil
            go_simp
            refine hK.out _ _ (⟨((hBb.alloc (by omega) _).cell (p := ⟨w3.heap.size, 2, none⟩) q5).trans cPW, ((hBb.alloc (by omega) _).cell (p := ⟨w.heap.size, 5, none⟩) q6).trans cTW⟩) (fun hHeld => ?_)
            clear hK K
            try simp only [Act.put, List.setIfInBounds_toArray, List.set_cons_zero, List.set_cons_succ]
            refine wpAnyH_ready (rs := [22]) (by kernel_rfl) (by simp) ?_
            refine AllReadyH.cons (o := _) rfl (fun K hK => ?_) AllReadyH.nil
            refine step_append_lies _ (by rfl) _ _ _ (by rfl) (w3.heap.size + 1) 109 i1 _ 2 48 Try.underlying56 hi1' hy0 hy1 hy2 rfl (by decide) v j xs (by rfl) (hownb.alloc _) ⟨wb.heap.size, 0, none⟩ 1 1 [.slice x1 (cutL zs p0 i c).length y1, .slice x2 (cutL zs (p0 + c * i) i d).length y2] (by rfl) (by rfl) (World.news_of_block (cs := #[.slice x1 (cutL zs p0 i c).length y1, .slice x2 (cutL zs (p0 + c * i) i d).length y2]) (t := 109) (fr := (0, 0)) (heap_alloc_new wb _)) (by simp [Value.oneCell']) (by omega) (by unfold maxLen; omega) (by omega) (by simp; omega) (wb.heap.size + 1) (by simp) ?_
            intro g6 c6 w6 hown6 hgrow6 hat6 hlt6
            have hP6 := (hgrow6.block w3.heap.size (by simp; omega) (fun e => by have := (hownb.lt _ e.symm).1; omega)).trans ((Below.heap_alloc wb (Obj.cells #[.slice x1 (cutL zs p0 i c).length y1, .slice x2 (cutL zs (p0 + c * i) i d).length y2] 109) w3.heap.size (by omega)).trans ((hBb.block _ q5).trans HPW.out))
            have hT6 := (hgrow6.block w.heap.size (by simp; omega) (fun e => by have := (hownb.lt _ e.symm).1; omega)).trans ((Below.heap_alloc wb (Obj.cells #[.slice x1 (cutL zs p0 i c).length y1, .slice x2 (cutL zs (p0 + c * i) i d).length y2] 109) w.heap.size (by omega)).trans ((hBb.block _ q6).trans HTW.out))
            refine hK.out _ _ (⟨cell_of_heap hP6 2, cell_of_heap hT6 5⟩) (fun hHeld => ?_)
            clear hK K
            try simp only [Act.put, List.setIfInBounds_toArray, List.set_cons_zero, List.set_cons_succ]
            refine wpAnyH_take (i := 23) (oi := _) (v := ?_) rfl (by kernel_rfl) (by kernel_rfl) (by kernel_rfl) (fun _ _ _ h => h) (Or.inl ⟨by rfl, ?_⟩) (by assumption) ?_
            rotate_left
            · intro w hSw; (try dsimp only at hSw); go_simp; try with_reducible rfl
            try simp only [Act.put, List.setIfInBounds_toArray, List.set_cons_zero, List.set_cons_succ]
            refine wpAnyH_done (by kernel_rfl) ?_ _
            show wpList _ _ _ [_] _ _
            obtain ⟨cP6, fP6⟩ := blockC hP6
            obtain ⟨cT6, fT6⟩ := blockC hT6
            have HP6 := Lib.hid hP6
            have HOWN6 := Lib.hid hown6
            have HGR6 := Lib.hid hgrow6
            have HOWNB := Lib.hid hownb
            clear hP6 hT6 hown6 hgrow6 hownb hHeld hat6 hownW
            have q9 : w3.heap.size < w6.heap.size := by have := HGR6.out.size; simp at this; omega
            go_wp2
            have KF : Keeps [5, 24] wb (w6.setCell ⟨w3.heap.size, 2, none⟩ (.slice (some ⟨g6, 0, none⟩) (j + 1) c6)) := (keeps_alloc wb _).trans ((keeps_grown (HOWNB.out.alloc _) HGR6.out (by decide)).trans (keeps_set HP6.out (by decide) _))
            have hB6 : Below w3.heap.size w3 w6 := hb.trans ((hWB.mono hsr).trans ((hBb.mono (by omega)).trans (Below.trans ((Below.refl _ _).alloc (by omega) _) ⟨HGR6.out.os, HGR6.out.tape, HGR6.out.output, HGR6.out.size, fun b hb => HGR6.out.block b (by simp; omega) (fun e => by have := (HOWNB.out.lt b e.symm).1; omega)⟩)))
            refine ⟨⟨j + 1, .slice (some ⟨g6, 0, none⟩) (j + 1) c6, rfl, ?_, by omega, ?_, block_setCell HP6.out _, Lib.hid ?_⟩, by simp [intOf]; omega⟩
            · rw [HP1.out, HAT3.out]
            · exact hB6.trans ⟨rfl, rfl, rfl, by simp, fun b hb => Below.heap_setCell _ _ _ _ (by show b ≠ w3.heap.size; omega)⟩
            · rw [HUNL.out]
              refine stepsT_snoc (w := wr) (xs := xs) (u := .slice x1 (cutL zs p0 i c).length y1) (u' := .slice x2 (cutL zs (p0 + c * i) i d).length y2) HXS.out (by rw [HUL.out]; exact hxl) ?_ ((keeps_below hWB).trans ((keeps_below hBb).trans KF)) (HROW1.out.keep ((keeps_below HBAB.out).trans KF) (by decide) (by decide)) (HROW2.out.keep KF (by decide) (by decide))
              rw [HUL.out]
              exact ownsRow_setCell_below HOWN6.out (a := ⟨w3.heap.size, 2, none⟩) (by show w3.heap.size < w3.heap.size + 1; omega) _
          · obtain rfl : j = m := by omega
            obtain ⟨xs, hownv, -⟩ := id HSt.out
            obtain ⟨av, cav, rfl⟩ := ownsRow_any hownv
            clear hownv
            go_wp2
            exact bodyPost_ret (path_results rfl rfl rfl (b := w.heap.size + 1) (block_set3 HRj.out _ _ _) rfl) rfl ⟨_, _, rfl, P0.out HE.out HEQ.out _ _ (HSt.out.move (keeps_set3 HRj.out (by decide) _ _ _) (fun g g1 _ => other_set3 (by omega) _ _ _)).at, below_set3 hBwr (by omega) _ _ _⟩
  · have HE := Lib.hid he
    have q : (t.spotE total 0 leaf != 0) = true := by rw [bne_iff_ne]; exact he
    clear he
    go_wp2
    exact bodyPost_ret (path_results rfl rfl rfl (b := w.heap.size + 1) (block_set3 HR2.out _ _ _) rfl) rfl ⟨_, _, rfl, P1.out HE.out _, below_set3 hBw (by omega) _ _ _⟩
end Go.Proofs.Ytkmgkeodmkfnpaa
