/- Whether a path fits a tree, by the reference. No condition. -/
import Derived.Test.YtkmgkeodmkfnpaaPackC
import Derived.BigQuiet
import Derived.Deep.QuietTactic
namespace Go.Proofs.Ytkmgkeodmkfnpaa
open Go.ChangeShapes Go.WideShapes Go.ChangeAt Go.RowKit Go.Joins Go.Shelf Go.Maps
attribute [local go_sem] Oper.semAt_some

/-- A spot's cells that are read. -/
def SpotAt (w : World) (g : Nat) (A F T : Nat → Int) (j : Nat) : Prop :=
  w.cell? ⟨g, j * 6 + 1, none⟩ = some (.int .u64 (A j)) ∧ w.cell? ⟨g, j * 6 + 2, none⟩ = some (.int .u64 (F j)) ∧ w.cell? ⟨g, j * 6 + 3, none⟩ = some (.int .u64 (T j))
theorem SpotAt.below {w w' : World} {g : Nat} {A F T : Nat → Int} {j : Nat} (h : SpotAt w g A F T j) (hg : g < w.heap.size) (hb : Below w.heap.size w w') : SpotAt w' g A F T j := by
  obtain ⟨h1, h2, h3⟩ := h
  exact ⟨(hb.cell (p := ⟨g, _, none⟩) hg).trans h1, (hb.cell (p := ⟨g, _, none⟩) hg).trans h2, (hb.cell (p := ⟨g, _, none⟩) hg).trans h3⟩
set_option maxRecDepth 100000 in
theorem refFits_len (t : TreeV) (total leaf : Nat) (u : Value) (ss : List StepV) (w : World) (hs : StepsAt w u ss) (ho : StepsOk 1048576 ss) (m : Nat) (lv : Option Addr) (cap : Nat) (hm : m ≤ 255) (hne : ss.length ≠ m) :
    Calls Try.prog 50 #[t.val, .agg #[.int .u64 total, .int .u64 leaf, u], .slice lv (m + 1) cap] w fun e w' => e = .returned (.bool false) ∧ Below w.heap.size w w' := by
  obtain ⟨a, c, U, V, rfl, -, -⟩ := hs
  have hl := ho.1
  have q3 : ((ss.length : Int) != (m : Int)) = true := by rw [bne_iff_ne]; omega
  have q4 : (ss.length != m) = true := by rw [bne_iff_ne]; omega
  unfold TreeV.val
  go_enter Try.func50, Try.ntmps50
  go_wp2
  go_ret
  exact ⟨rfl, ((Below.refl _ _).alloc (Nat.le_refl _) _).alloc (by simp) _⟩
/-- What one row's loop reads at its k-th digest. -/
theorem RowsAt.elem {w : World} {a : Option Addr} {n cap : Nat} {ds : List (List Int)} (h : RowsAt w (.slice a n cap) ds) {k : Nat} (hk : k < n) :
    n = ds.length ∧ ∃ b off x c, a = some ⟨b, off, none⟩ ∧ b < w.heap.size ∧ w.cell? ⟨b, off + k, none⟩ = some (.slice x (nthd ds k).length c) ∧ Holds8 w (.slice x (nthd ds k).length c) (nthd ds k) := by
  obtain ⟨a', c', V', e, -, h⟩ := h
  simp only [Value.slice.injEq] at e
  obtain ⟨rfl, rfl, rfl⟩ := e
  obtain ⟨b, off, rfl, hb, h⟩ := h.resolve_left (fun e => by rw [e] at hk; simp at hk)
  obtain ⟨h1, h2⟩ := h k hk
  obtain ⟨x, c, e, h3⟩ := id h2
  rw [e] at h1 h2
  exact ⟨rfl, b, off, x, c, rfl, hb, h1, h2⟩
set_option maxRecDepth 100000 in
set_option maxHeartbeats 1000000 in
theorem refFits_same (t : TreeV) (total leaf : Nat) (u : Value) (ss : List StepV) (w : World) (hs : StepsAt w u ss) (ho : StepsOk 1048576 ss) (g cap : Nat) (hg : g < w.heap.size) (hm : ss.length ≤ 255) (hm0 : 1 ≤ ss.length)
    (A F T ch af : Nat → Int) (HC : Hid (∀ j, j < ss.length + 1 → SpotAt w g A F T j))
    (HF : Hid (∀ j, j < ss.length → 0 ≤ F (j + 1) ∧ F (j + 1) ≤ A j ∧ A j + 1 ≤ T (j + 1) ∧ T (j + 1) ≤ 18446744073709551615 ∧ ch j = A j - F (j + 1) ∧ af j = T (j + 1) - A j - 1)) :
    Calls Try.prog 50 #[t.val, .agg #[.int .u64 total, .int .u64 leaf, u], .slice (some ⟨g, 0, none⟩) (ss.length + 1) cap] w fun e w' => ∃ b : Bool, e = .returned (.bool b) ∧ (b = true ↔ ∀ j, j < ss.length → StepFits t.i ch af ss j) ∧ Below w.heap.size w w' := by
  obtain ⟨a, c, U, V, rfl, -, h⟩ := hs
  obtain ⟨b, off, rfl, hbw, h'⟩ := h.resolve_left (fun e => by rw [e] at hm0; simp at hm0)
  have HU := Lib.hid h'
  clear h h'
  have HO := Lib.hid ho.2
  unfold TreeV.val
  go_enter Try.func50, Try.ntmps50
  go_wp2_with fail
  go_loopw [7] (fun i wr => ∃ j : Nat, i = .int .i64 ((j : Int) + 1) ∧ j ≤ ss.length ∧ Boxes w t.i (.slice (some ⟨b, off, none⟩) ss.length c) wr ∧ Hid (∀ j', j' < j → StepFits t.i ch af ss j')) (fun i _ => ss.length + 1 - (intOf i).toNat)
  case atStart => exact ⟨0, rfl, by omega, boxes_start w rfl rfl, Lib.hid (fun j' h => absurd h (Nat.not_lt_zero _))⟩
  case round =>
    obtain ⟨j, rfl, hj, hx, HS⟩ := hrel
    obtain ⟨hB, hsr, ht5, hp2⟩ := id hx
    have hgr : g < wr.heap.size := by omega
    have hbr : b < wr.heap.size := by omega
    have hwr : w.heap.size < wr.heap.size := by omega
    have hwr1 : w.heap.size + 1 < wr.heap.size := by omega
    by_cases hlt : j < ss.length
    · have hs1 := (HC.out j (by omega)).below hg hB
      have hs2 := (HC.out (j + 1) (by omega)).below hg hB
      obtain ⟨cu, cv, ru, rv⟩ := HU.out j hlt
      have hmem : nths ss j ∈ ss := by unfold nths; rw [List.getD_eq_getElem?_getD, List.getElem?_eq_getElem hlt]; exact List.getElem_mem hlt
      obtain ⟨⟨lu, lu'⟩, lv, lv'⟩ := HO.out _ hmem
      have LU := Lib.hid lu'
      have LV := Lib.hid lv'
      clear lu' lv'
      obtain ⟨f1, f2, f3, f4, f5, f6⟩ := HF.out j hlt
      have cu' : wr.cell? ⟨b, off + j * 2, none⟩ = some (U j) := (hB.cell (p := ⟨b, _, none⟩) hbw).trans cu
      have cv' : wr.cell? ⟨b, off + j * 2 + 1, none⟩ = some (V j) := (hB.cell (p := ⟨b, _, none⟩) hbw).trans cv
      have HRU := Lib.hid (ru.below hB)
      have HRV := Lib.hid (rv.below hB)
      obtain ⟨au, ku, VU, eu, -, -⟩ := ru
      obtain ⟨av, kv, VV, ev, -, -⟩ := rv
      rw [eu] at cu' HRU
      rw [ev] at cv' HRV
      clear cu cv eu ev
      generalize hlu : (nths ss j).1.length = nb at *
      generalize hlv : (nths ss j).2.length = na at *
      go_wp2_with fail
      refine letter_world ?_
      intro W hW
      have hWs : W.heap.size = wr.heap.size + 1 := by rw [hW]; simp
      have hWB : Below wr.heap.size wr W := by rw [hW]; exact (Below.refl _ _).alloc (Nat.le_refl _) _
      have cU : W.cell? ⟨wr.heap.size, 0, none⟩ = some (.slice au nb ku) := by
        rw [hW]; exact cell_of_heap (World.alloc_heap_new _ _) 0
      have cV : W.cell? ⟨wr.heap.size, 1, none⟩ = some (.slice av na kv) := by
        rw [hW]; exact cell_of_heap (World.alloc_heap_new _ _) 1
      have kW : wr.heap.size < W.heap.size := by omega
      obtain ⟨a1, a2, a3⟩ := hs1.below hgr hWB
      obtain ⟨b1, b2, b3⟩ := hs2.below hgr hWB
      have HRU' := Lib.hid (HRU.out.below hWB)
      have HRV' := Lib.hid (HRV.out.below hWB)
      have hxW := hx.below hWB
      clear hW
      generalize wr.heap.size = N at *
      have hgW : g < W.heap.size := by omega
      by_cases h1 : (nb : Int) = ch j
      · have q1 : ((nb : Int) != A j - F (j + 1)) = false := by rw [bne_eq_false_iff_eq]; omega
        by_cases h2 : (na : Int) = af j
        · have q2 : ((na : Int) != T (j + 1) - A j - 1) = false := by rw [bne_eq_false_iff_eq]; omega
          have H1 := Lib.hid h1
          have H2 := Lib.hid h2
          clear h1 h2
          go_quiet (fail)
          go_wp2_with fail
          go_loopw [9] (fun i wi => ∃ k : Nat, i = .int .i64 k ∧ k ≤ nb ∧ Below W.heap.size W wi ∧ Hid (∀ k', k' < k → ((nthd (nths ss j).1 k').length : Int) = t.i)) (fun i _ => nb - (intOf i).toNat)
          case atStart => exact ⟨0, rfl, by omega, below_draws _ _ _, Lib.hid (fun k h => absurd h (Nat.not_lt_zero _))⟩
          case round =>
            obtain ⟨k, rfl, hk, hbi, HK⟩ := hrel
            have hsi := hbi.size
            have hxi := hxW.below hbi
            obtain ⟨-, -, ht5i, -⟩ := id hxi
            have cUi : wr.cell? ⟨N, 0, none⟩ = some (.slice au nb ku) := (hbi.cell (p := ⟨N, 0, none⟩) kW).trans cU
            by_cases hlk : k < nb
            · obtain ⟨-, bu, ou, x, cx, rfl, hbu, hcx, -⟩ := RowsAt.elem (HRU'.out.below hbi) hlk
              by_cases h3 : ((nthd (nths ss j).1 k).length : Int) = t.i
              · have q3 : (((nthd (nths ss j).1 k).length : Int) != t.i) = false := by rw [bne_eq_false_iff_eq]; exact h3
                have H3 := Lib.hid h3
                clear h3
                generalize hln : (nthd (nths ss j).1 k).length = ln at *
                go_wp2_with fail
                go_quiet (fail)
                go_wp2
                refine ⟨⟨k + 1, rfl, by omega, hbi.trans (below_draws _ _ _), Lib.hid fun k' hk' => ?_⟩, by simp [intOf]; omega⟩
                by_cases e : k' = k
                · rw [e, hln]; exact H3.out
                · exact HK.out k' (by omega)
              · have q3 : (((nthd (nths ss j).1 k).length : Int) != t.i) = true := by rw [bne_iff_ne]; exact h3
                have H3 := Lib.hid h3
                clear h3
                generalize hln : (nthd (nths ss j).1 k).length = ln at *
                go_wp2_with fail
                go_quiet (fail)
                go_wp2
                go_ret
                refine ⟨false, rfl, ⟨fun e => absurd e (by simp), fun h => ?_⟩, hxi.1.trans (below_draws _ _ _)⟩
                exact absurd ((h j hlt).2.2 _ (List.mem_append_left _ (nthd_mem (k := k) (by rw [hlu]; exact hlk)))) (by rw [hln]; exact H3.out)
            · obtain rfl : k = nb := by omega
              go_wp2_with fail
              go_loopw [10] (fun i wj => ∃ k : Nat, i = .int .i64 k ∧ k ≤ na ∧ Below W.heap.size W wj ∧ Hid (∀ k', k' < k → ((nthd (nths ss j).2 k').length : Int) = t.i)) (fun i _ => na - (intOf i).toNat)
              case atStart => exact ⟨0, rfl, by omega, hbi, Lib.hid (fun k h => absurd h (Nat.not_lt_zero _))⟩
              case round =>
                obtain ⟨k', rfl, hk', hbj, HK'⟩ := hrel
                have hsj := hbj.size
                have hxj := hxW.below hbj
                obtain ⟨-, -, ht5j, -⟩ := id hxj
                have cVj : wr.cell? ⟨N, 1, none⟩ = some (.slice av na kv) := (hbj.cell (p := ⟨N, 1, none⟩) kW).trans cV
                by_cases hlk' : k' < na
                · obtain ⟨-, bv, ov, y, cy, rfl, hbv, hcy, -⟩ := RowsAt.elem (HRV'.out.below hbj) hlk'
                  by_cases h3 : ((nthd (nths ss j).2 k').length : Int) = t.i
                  · have q3 : (((nthd (nths ss j).2 k').length : Int) != t.i) = false := by rw [bne_eq_false_iff_eq]; exact h3
                    have H3 := Lib.hid h3
                    clear h3
                    generalize hln : (nthd (nths ss j).2 k').length = ln at *
                    go_wp2_with fail
                    go_quiet (fail)
                    go_wp2
                    refine ⟨⟨k' + 1, rfl, by omega, hbj.trans (below_draws _ _ _), Lib.hid fun k'' hk'' => ?_⟩, by simp [intOf]; omega⟩
                    by_cases e : k'' = k'
                    · rw [e, hln]; exact H3.out
                    · exact HK'.out k'' (by omega)
                  · have q3 : (((nthd (nths ss j).2 k').length : Int) != t.i) = true := by rw [bne_iff_ne]; exact h3
                    have H3 := Lib.hid h3
                    clear h3
                    generalize hln : (nthd (nths ss j).2 k').length = ln at *
                    go_wp2_with fail
                    go_quiet (fail)
                    go_wp2
                    go_ret
                    refine ⟨false, rfl, ⟨fun e => absurd e (by simp), fun h => ?_⟩, hxj.1.trans (below_draws _ _ _)⟩
                    exact absurd ((h j hlt).2.2 _ (List.mem_append_right _ (nthd_mem (k := k') (by rw [hlv]; exact hlk')))) (by rw [hln]; exact H3.out)
                · obtain rfl : k' = na := by omega
                  go_wp2
                  refine ⟨⟨j + 1, by simp, by omega, hxj, Lib.hid fun j' hj' => ?_⟩, by simp [intOf]; omega⟩
                  by_cases e : j' = j
                  · rw [e]
                    refine ⟨by rw [hlu]; exact H1.out, by rw [hlv]; exact H2.out, fun d hd => ?_⟩
                    rcases List.mem_append.1 hd with hd | hd
                    · exact all_nthd (by rw [hlu]; exact HK.out) d hd
                    · exact all_nthd (by rw [hlv]; exact HK'.out) d hd
                  · exact HS.out j' (by omega)
        · have q2 : ((na : Int) != T (j + 1) - A j - 1) = true := by rw [bne_iff_ne]; omega
          have H2 := Lib.hid h2
          clear h1 h2
          go_quiet (fail)
          go_wp2
          go_ret
          exact ⟨false, rfl, ⟨fun e => absurd e (by simp), fun h => absurd ((h j hlt).2.1) (by rw [hlv]; exact H2.out)⟩, hxW.1.trans (below_draws _ _ _)⟩
      · have q1 : ((nb : Int) != A j - F (j + 1)) = true := by rw [bne_iff_ne]; omega
        have H1 := Lib.hid h1
        clear h1
        go_quiet (fail)
        go_wp2
        go_ret
        exact ⟨false, rfl, ⟨fun e => absurd e (by simp), fun h => absurd ((h j hlt).1) (by rw [hlu]; exact H1.out)⟩, hxW.1.trans (below_draws _ _ _)⟩
    · obtain rfl : j = ss.length := by omega
      go_wp2
      go_ret
      exact ⟨true, rfl, ⟨fun _ => HS.out, fun _ => rfl⟩, hB⟩
theorem refFits_any (t : TreeV) (total leaf : Nat) (u : Value) (ss : List StepV) (w : World) (hs : StepsAt w u ss) (ho : StepsOk 1048576 ss) (g cap m : Nat) (hg : g < w.heap.size) (hm : m ≤ 255) (hm0 : 1 ≤ m)
    (A F T ch af : Nat → Int) (HC : ∀ j, j < m + 1 → SpotAt w g A F T j)
    (HF : ∀ j, j < m → 0 ≤ F (j + 1) ∧ F (j + 1) ≤ A j ∧ A j + 1 ≤ T (j + 1) ∧ T (j + 1) ≤ 18446744073709551615 ∧ ch j = A j - F (j + 1) ∧ af j = T (j + 1) - A j - 1) :
    Calls Try.prog 50 #[t.val, .agg #[.int .u64 total, .int .u64 leaf, u], .slice (some ⟨g, 0, none⟩) (m + 1) cap] w fun e w' => ∃ b : Bool, e = .returned (.bool b) ∧ (b = true ↔ FitsP t.i m ch af ss) ∧ Below w.heap.size w w' := by
  by_cases h : ss.length = m
  · subst h
    refine (refFits_same t total leaf u ss w hs ho g cap hg hm hm0 A F T ch af (Lib.hid HC) (Lib.hid HF)).mono ?_
    rintro e w' ⟨b, rfl, hb, hw⟩
    exact ⟨b, rfl, hb.trans ⟨fun h => ⟨rfl, h⟩, fun h => h.2⟩, hw⟩
  · refine (refFits_len t total leaf u ss w hs ho m _ cap hm h).mono ?_
    rintro e w' ⟨rfl, hw⟩
    exact ⟨false, rfl, ⟨fun e => absurd e (by simp), fun h' => absurd h'.1 h⟩, hw⟩
end Go.Proofs.Ytkmgkeodmkfnpaa
