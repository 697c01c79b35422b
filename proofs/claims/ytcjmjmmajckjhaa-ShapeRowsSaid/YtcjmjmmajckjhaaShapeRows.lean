/- ShapeRows: for every tree and length the law returns true. No condition. -/
import Derived.Test.YtcjmjmmajckjhaaShapeI
import Derived.BigQuiet
import Derived.Deep.QuietTactic
namespace Go.Proofs.Ytcjmjmmajckjhaa
open Go.ChangeShapes Go.WideShapes Go.ChangeAt Go.RowKit Go.Joins Go.Shelf Go.Maps

theorem lt_of_below {W w1 : World} {b : Nat} (hb : Below W.heap.size W w1) (h : b < W.heap.size) : b < w1.heap.size := Nat.lt_of_lt_of_le h hb.size

set_option maxRecDepth 100000 in
set_option maxHeartbeats 1000000 in
theorem shapeRows_err (t : TreeV) (hl : 0 ≤ t.l ∧ t.l ≤ 4294967295) (total : Nat) (ht : (total : Int) ≤ 18446744073709551615) (h : t.err total ≠ 0) (w : World) :
    Calls Try.prog 9 #[t.val, .int .u64 total] w (Trues w) := by
  have H := Lib.hid h
  clear h
  unfold TreeV.val
  go_enter Try.func9, Try.ntmps9
  go_wp2_with fail
  refine (leaves_err t hl total ht H.out _).mono ?_; rintro e w1 ⟨rfl, hb1⟩
  have hs1 : w.heap.size < w1.heap.size := by have := hb1.size; simp at this; omega
  obtain ⟨hc1, -⟩ := bcell hb1
  go_wp2_with fail
  refine (refLeaves_err t hl total ht H.out _).mono ?_; rintro e w2 ⟨rfl, hb2⟩
  have hs2 := lt_of_below hb2 hs1
  obtain ⟨hc2, -⟩ := bcell hb2
  go_wp2_with fail
  refine (rows_err t hl total ht H.out _).mono ?_; rintro e w3 ⟨rfl, hb3⟩
  have hs3 := lt_of_below hb3 hs2
  obtain ⟨hc3, -⟩ := bcell hb3
  go_wp2_with fail
  refine (refRows_err t hl total ht H.out _).mono ?_; rintro e w4 ⟨rfl, hb4⟩
  have hs4 := lt_of_below hb4 hs3
  obtain ⟨hc4, -⟩ := bcell hb4
  go_wp2_with fail
  go_loop [11] (fun i => i = .int .i64 0) (fun _ => 0)
  case atStart => rfl
  case round =>
    obtain rfl := hrel
    go_wp2_with fail
    refine (nodes_err t hl total ht H.out _).mono ?_; rintro e w5 ⟨rfl, hb5⟩
    have hs5 := lt_of_below hb5 hs4
    obtain ⟨hc5, -⟩ := bcell hb5
    go_wp2_with fail
    refine (refNodes_err t hl total ht H.out _).mono ?_; rintro e w6 ⟨rfl, hb6⟩
    go_wp2_with fail
    refine (awake_any _).mono ?_; rintro e w7 ⟨rfl, hb7⟩
    go_wp2
    go_ret
    refine ⟨rfl, (below_alloc_then _ hb1).trans ?_⟩
    have k1 := hs1; have k2 := hb2.size; have k3 := hb3.size; have k4 := hb4.size; have k5 := hb5.size; have k6 := hb6.size
    exact (((((hb2.mono (by omega)).trans (hb3.mono (by omega))).trans (hb4.mono (by omega))).trans (hb5.mono (by omega))).trans (hb6.mono (by omega))).trans (hb7.mono (by omega))
set_option maxRecDepth 100000 in
set_option maxHeartbeats 1000000 in
theorem shapeRows_ok (t : TreeV) (hl : 0 ≤ t.l ∧ t.l ≤ 4294967295) (total : Nat) (ht : (total : Int) ≤ 18446744073709551615) (h : t.err total = 0) (w : World) :
    Calls Try.prog 9 #[t.val, .int .u64 total] w (Trues w) := by
  have hN := rowsL_len2 h
  have hN0 := rowsL_len t.fn t.pn (lvs total t.ln)
  have HR := Lib.hid (fun w => rows_ok t hl total ht h w)
  have HR2 := Lib.hid (fun w => refRows_ok t hl total ht h w)
  have HN := Lib.hid (fun w => nodes_ok t hl total ht h w)
  have HN2 := Lib.hid (fun w => refNodes_ok t hl total ht h w)
  have H := Lib.hid h
  clear h
  generalize rowsL t.fn t.pn (lvs total t.ln) = L at *
  unfold TreeV.val
  go_enter Try.func9, Try.ntmps9
  go_wp2_with fail
  refine (leaves_ok t hl total ht H.out _).mono ?_; rintro e w1 ⟨rfl, hb1⟩
  have hs1 : w.heap.size < w1.heap.size := by have := hb1.size; simp at this; omega
  obtain ⟨hc1, -⟩ := bcell hb1
  go_wp2_with fail
  refine (refLeaves_ok t hl total ht H.out _).mono ?_; rintro e w2 ⟨rfl, hb2⟩
  have hs2 := lt_of_below hb2 hs1
  obtain ⟨hc2, -⟩ := bcell hb2
  go_wp2_with fail
  refine (HR.out _).mono ?_; rintro e w3 ⟨v3, rfl, hown3, hb3⟩
  have hs3 := lt_of_below hb3 hs2
  obtain ⟨hc3, -⟩ := bcell hb3
  obtain ⟨g, cap, rfl, -, -, hg2, hcell⟩ := ownsRow_cells hown3 hN0
  go_wp2_with fail
  refine (HR2.out _).mono ?_; rintro e w4 ⟨v4, rfl, hown4, hb4⟩
  have hs4 := lt_of_below hb4 hs3
  obtain ⟨hc4, -⟩ := bcell hb4
  obtain ⟨g', cap', rfl, -, -, hg4, hcell4⟩ := ownsRow_cells hown4 hN0
  have hcell3 : ∀ j, j < L.length → w4.cell? ⟨g, j, none⟩ = some (.int .u64 (nth L j : Nat)) := fun j hj => (hb4.cell (p := ⟨g, j, none⟩) hg2).trans (hcell j hj)
  have hg3 := lt_of_below hb4 hg2
  clear hcell hown3 hown4
  have HC3 := Lib.hid hcell3
  have HC4 := Lib.hid hcell4
  clear hcell3 hcell4
  go_wp2_with fail
  go_loopw [11] (fun i wr => ∃ k : Nat, k ≤ L.length ∧ i = .int .i64 k ∧ Below w4.heap.size w4 wr) (fun i _ => L.length - (intOf i).toNat)
  case atStart => exact ⟨0, Nat.zero_le _, rfl, Below.refl _ _⟩
  case round =>
    obtain ⟨k, hk, rfl, hbr⟩ := hrel
    by_cases hlt : k < L.length
    · have e3 : wr.cell? ⟨g, k, none⟩ = some (.int .u64 (nth L k : Nat)) := (hbr.cell (p := ⟨g, k, none⟩) hg3).trans (HC3.out k hlt)
      have e4 : wr.cell? ⟨g', k, none⟩ = some (.int .u64 (nth L k : Nat)) := (hbr.cell (p := ⟨g', k, none⟩) hg4).trans (HC4.out k hlt)
      go_wp2
      go_quiet (fail)
      go_wp2
      exact ⟨⟨k + 1, by omega, by go_num, hbr.trans (below_draws _ _ _)⟩, by simp [intOf]; omega⟩
    · obtain ⟨hcr, -⟩ := bcell hbr
      have hsr := lt_of_below hbr hs4
      go_wp2_with fail
      refine (HN.out _).mono ?_; rintro e w5 ⟨rfl, hb5⟩
      have hs5 := lt_of_below hb5 hsr
      obtain ⟨hc5, -⟩ := bcell hb5
      go_wp2_with fail
      refine (HN2.out _).mono ?_; rintro e w6 ⟨rfl, hb6⟩
      go_wp2_with fail
      refine (awake_any _).mono ?_; rintro e w7 ⟨rfl, hb7⟩
      go_wp2
      go_ret
      refine ⟨rfl, (below_alloc_then _ hb1).trans ?_⟩
      have k1 := hs1; have k2 := hb2.size; have k3 := hb3.size; have k4 := hb4.size; have kr := hbr.size; have k5 := hb5.size; have k6 := hb6.size
      exact ((((((hb2.mono (by omega)).trans (hb3.mono (by omega))).trans (hb4.mono (by omega))).trans (hbr.mono (by omega))).trans (hb5.mono (by omega))).trans (hb6.mono (by omega))).trans (hb7.mono (by omega))

set_option maxRecDepth 100000 in
theorem shapeRows_call {H : Type} (enc : TypeId × Value → H) (W : World) (base : Nat) (args : Array Value) (ds : List (DataW H)) (p : List MemPlace)
    (hval : ∀ (j : Nat) t v, Try.f9.params[j]? = some t → args[j]? = some v → Value.okWide Try.prog W .any base t v)
    (hA : DataW.TrodAll enc Try.prog W 0 (fun _ => true) true Try.f9.params.toList args.toList ds p) (hlt : ∀ x ∈ p, x.block < W.heap.size)
    (_ : (DataW.weightsEach Try.prog Try.f9.params.toList ds).all (· ≤ reachBytes) = true) :
    Calls Try.prog 9 args W (Trues W) := by
  rw [Try.params9] at hA hval
  obtain ⟨v0, v1, d0, d1, p0, p1, rfl, rfl, rfl, h0, h1⟩ := trodAll_two hA
  obtain ⟨t, kz, sz, pz, rfl, ht⟩ := open_tree (hval 0 32 v0 rfl rfl) h0 (fun x hx => hlt x (by simp [hx]))
  obtain ⟨n, rfl, hn0, hn1⟩ := open_u64 (hval 1 33 v1 rfl rfl) h1
  obtain ⟨n, rfl⟩ := Int.eq_ofNat_of_zero_le hn0
  by_cases h : t.err n = 0
  · exact shapeRows_ok t ht.l n hn1 h W
  · exact shapeRows_err t ht.l n hn1 h W

set_option maxRecDepth 100000 in
theorem shapeRows_lifted (os : Os) (started : os.Started) (H : Type) (enc : TypeId × Value → H) :
    ReturnsInHanded {} Try.checked os 9 .any (Rows.shapeRowsSpec.pre6 enc Try.prog Try.f9 Rows.shapeRowsRow.domain false) (Rows.shapeRowsSpec.post enc Try.prog Try.f9 false true false false) := by
  refine returnsInHanded_of_change_sized (C := Try.checked) own started (by kernel_rfl) Try.func9
    (ChangeSpec.witness6 (enc := enc) (C := Try.checked) false ⟨#[], #[.agg #[.int .i64 0, .int .i64 0, .int .i64 0, .int .i64 0, .int .u32 0, .int .i64 0, .slice none 0 0, .slice none 0 0, .slice none 0 0], .int .u64 0], []⟩ 40 (by kernel_rfl) (by kernel_rfl) (by kernel_rfl) (by kernel_rfl)) ?_
  intro W base args ds gs before hval0 hW hcnd hz _
  have hW' := hW
  obtain ⟨p, q, hA0, hV, rfl, hfz, hnd⟩ := hW
  have hA : DataW.TrodAll enc Try.prog W 0 (fun _ => true) true Try.f9.params.toList args.toList ds p := hA0
  obtain ⟨rfl, rfl⟩ := trodVars_none hV
  have hz' : (DataW.weightsEach Try.prog Try.f9.params.toList ds).all (· ≤ reachBytes) = true := by
    have e1 : Try.f9.params.toList ++ Rows.shapeRowsSpec.plain.varTypes Try.prog = Try.f9.params.toList := List.append_nil _
    rw [← e1, ← List.append_nil ds]
    exact hz
  refine (shapeRows_call enc W base args ds p hval0 hA (fun x hx => hW'.lt x (by simpa using hx)) hz').mono fun e W' h => ⟨_, h.1, ?_⟩
  refine post_of_trues laidOut _ rfl Try.underlying4 (by decide +kernel) rfl hW' ?_ h.2
  have hA' := hA
  rw [Try.params9] at hA'
  obtain ⟨v0, v1, d0, d1, p0, p1, rfl, rfl, _⟩ := trodAll_two hA'
  rfl

theorem shapeRows_holds : Rows.ShapeRowsSaid :=
  OpenClaim.holds_of_wide 9 Try.f9 rfl rfl rfl rfl rfl rfl rfl ⟨rfl, rfl, rfl, rfl, rfl⟩ rfl rfl rfl rfl rfl (by kernel_rfl) Try.func9 (by kernel_rfl)
    (of_decide_eq_true (by kernel_rfl)) (by unfold Func.isWrapper; first | (rw [if_pos (by decide +kernel)]; kernel_rfl) | (rw [if_neg (by decide +kernel)]; exact ⟨rfl, rfl⟩))
    (fun os started H enc _ => shapeRows_lifted os started H enc)
#print axioms shapeRows_holds
end Go.Proofs.Ytcjmjmmajckjhaa
