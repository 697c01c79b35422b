/- ShapeParams: for every tree, total and place the law returns true. No condition. -/
import Derived.Test.YtcjmjmmajckjhaaLawParamsB
namespace Go.Proofs.Ytcjmjmmajckjhaa
open Go.ChangeShapes Go.WideShapes Go.ChangeAt Go.RowKit Go.Joins Go.Shelf Go.Maps

theorem holds_of_byteSl {w : World} {a : Option Addr} {l c : Nat} {zs : List Int} (h : ByteSl w a l c zs) : Holds8 w (.slice a l c) zs := by
  obtain ⟨h1, h2, h3, h4, h5⟩ := h
  subst h3
  refine ⟨a, c, rfl, ?_⟩
  rcases h5 with h5 | ⟨b, off, e, h6, h7⟩
  · exact .inl (List.length_eq_zero_iff.1 h5)
  · exact .inr ⟨b, off, e, h6, h7⟩
theorem parSays_any (t : TreeV) (hl : 0 ≤ t.l ∧ t.l ≤ 4294967295) (total : Nat) (ht : (total : Int) ≤ 18446744073709551615) (row : Int) (at_ : Nat) (w : World) {sz pz : List Int} (hs : ByteSl w t.sa t.sl t.sc sz) (hp : ByteSl w t.pa t.pl t.pc pz) :
    ∃ e x0 x1 x2 x3 x4 x5 x6 x7 x8 sz' pz', sz'.length ≤ 65535 ∧ pz'.length ≤ 65535 ∧ ParSays 48 t total row at_ w e x0 x1 x2 x3 x4 x5 x6 x7 x8 sz' pz' ∧ ParSays 49 t total row at_ w e x0 x1 x2 x3 x4 x5 x6 x7 x8 sz' pz' := by
  have A1 := Lib.hid (fun w => spot_any t hl total ht row at_ w)
  have A2 := Lib.hid (fun w => refSpot_any t hl total ht row at_ w)
  simp only [SpotV.val_is] at A1 A2
  by_cases he : t.spotE total row at_ = 0
  · have her : t.err total = 0 := by
      by_cases h : t.err total = 0
      · exact h
      · unfold TreeV.spotE at he; rw [if_pos h] at he; exact absurd he h
    have hv := TreeV.valid_facts (TreeV.err_valid her)
    have hk : saltK t.k ≤ 16 := by unfold saltK; split; · omega
                                   split <;> omega
    have l1 : sz.length ≤ 65535 := by rw [hs.2.2.1]; omega
    have l2 : pz.length ≤ 65535 := by rw [hp.2.2.1]; omega
    rw [he] at A1 A2
    refine ⟨0, t.d, t.kl, t.f, t.p, t.l, at_, 0, row, t.i, sz, pz, l1, l2, fun w' hb => ?_, fun w' hb => ?_⟩
    · exact params_ok t total row at_ A1 w' (Lib.hid (holds8_below (holds_of_byteSl hs) hb)) (Lib.hid (holds8_below (holds_of_byteSl hp) hb)) (Lib.hid hs.2.2.2.1) (Lib.hid hp.2.2.2.1) (Lib.hid l1) (Lib.hid l2)
    · exact refParams_ok t total row at_ A2 w' (Lib.hid (holds8_below (holds_of_byteSl hs) hb)) (Lib.hid (holds8_below (holds_of_byteSl hp) hb)) (Lib.hid hs.2.2.2.1) (Lib.hid hp.2.2.2.1) (Lib.hid l1) (Lib.hid l2)
  · have hne : (t.spotE total row at_ != 0) = true := by rw [bne_iff_ne]; exact he
    refine ⟨t.spotE total row at_, 0, 0, 0, 0, 0, 0, 0, 0, 0, [], [], by simp, by simp, fun w' _ => ?_, fun w' _ => ?_⟩
    · refine (params_err t total row at_ A1 hne w').mono ?_
      rintro r w1 ⟨rfl, hb⟩
      exact ⟨_, _, rfl, .inl ⟨rfl, by simp⟩, .inl ⟨rfl, by simp⟩, hb⟩
    · refine (refParams_err t total row at_ A2 hne w').mono ?_
      rintro r w1 ⟨rfl, hb⟩
      exact ⟨_, _, rfl, .inl ⟨rfl, by simp⟩, .inl ⟨rfl, by simp⟩, hb⟩
theorem shapeParams_walk (t : TreeV) (hl : 0 ≤ t.l ∧ t.l ≤ 4294967295) (total : Nat) (ht : (total : Int) ≤ 18446744073709551615) (row : Int) (at_ : Nat) (w : World) {sz pz : List Int} (hs : ByteSl w t.sa t.sl t.sc sz) (hp : ByteSl w t.pa t.pl t.pc pz) :
    Calls Try.prog 14 #[t.val, .int .u64 total, .int .i64 row, .int .u64 at_] w (Trues w) := by
  obtain ⟨e, x0, x1, x2, x3, x4, x5, x6, x7, x8, sz', pz', l1, l2, H1, H2⟩ := parSays_any t hl total ht row at_ w hs hp
  by_cases hz : ∃ z ∈ sz', z ≠ 0
  · exact lawParams_salt t total row at_ w e x0 x1 x2 x3 x4 x5 x6 x7 x8 sz' pz' l1 l2 (Lib.hid H1) (Lib.hid H2) (Lib.hid hz)
  · exact lawParams_zero t total row at_ w e x0 x1 x2 x3 x4 x5 x6 x7 x8 sz' pz' l1 l2 (Lib.hid H1) (Lib.hid H2) (Lib.hid hz)

set_option maxRecDepth 100000 in
theorem shapeParams_call {H : Type} (enc : TypeId × Value → H) (W : World) (base : Nat) (args : Array Value) (ds : List (DataW H)) (p : List MemPlace)
    (hval : ∀ (j : Nat) t v, Try.f14.params[j]? = some t → args[j]? = some v → Value.okWide Try.prog W .any base t v)
    (hA : DataW.TrodAll enc Try.prog W 0 (fun _ => true) true Try.f14.params.toList args.toList ds p) (hlt : ∀ x ∈ p, x.block < W.heap.size)
    (_ : (DataW.weightsEach Try.prog Try.f14.params.toList ds).all (· ≤ reachBytes) = true) :
    Calls Try.prog 14 args W (Trues W) := by
  rw [Try.params14] at hA hval
  obtain ⟨v0, v1, v2, v3, d0, d1, d2, d3, p0, p1, p2, p3, rfl, rfl, rfl, h0, h1, h2, h3⟩ := trodAll_four hA
  obtain ⟨t, kt, st, zt, rfl, ht⟩ := open_tree (hval 0 32 v0 rfl rfl) h0 (fun x hx => hlt x (by simp [hx]))
  obtain ⟨total', rfl, htotal⟩ := open_u64 (hval 1 33 v1 rfl rfl) h1
  obtain ⟨total, rfl⟩ : ∃ n : Nat, total' = n := ⟨total'.toNat, by omega⟩
  obtain ⟨row, rfl, hrow⟩ := open_i64 (hval 2 3 v2 rfl rfl) h2
  obtain ⟨at_', rfl, hat_⟩ := open_u64 (hval 3 33 v3 rfl rfl) h3
  obtain ⟨at_, rfl⟩ : ∃ n : Nat, at_' = n := ⟨at_'.toNat, by omega⟩
  exact shapeParams_walk t ht.l total htotal.2 row at_ W ht.salt ht.pers

set_option maxRecDepth 100000 in
theorem shapeParams_lifted (os : Os) (started : os.Started) (H : Type) (enc : TypeId × Value → H) :
    ReturnsInHanded {} Try.checked os 14 .any (Rows.shapeParamsSpec.pre6 enc Try.prog Try.f14 Rows.shapeParamsRow.domain false) (Rows.shapeParamsSpec.post enc Try.prog Try.f14 false true false false) := by
  refine returnsInHanded_of_change_sized (C := Try.checked) own started (by kernel_rfl) Try.func14
    (ChangeSpec.witness6 (enc := enc) (C := Try.checked) false ⟨#[], #[.agg #[.int .i64 0, .int .i64 0, .int .i64 0, .int .i64 0, .int .u32 0, .int .i64 0, .slice none 0 0, .slice none 0 0, .slice none 0 0], .int .u64 0, .int .i64 0, .int .u64 0], []⟩ 40 (by kernel_rfl) (by kernel_rfl) (by kernel_rfl) (by kernel_rfl)) ?_
  intro W base args ds gs before hval0 hW hcnd hz _
  have hW' := hW
  obtain ⟨p, q, hA0, hV, rfl, hfz, hnd⟩ := hW
  have hA : DataW.TrodAll enc Try.prog W 0 (fun _ => true) true Try.f14.params.toList args.toList ds p := hA0
  obtain ⟨rfl, rfl⟩ := trodVars_none hV
  have hz' : (DataW.weightsEach Try.prog Try.f14.params.toList ds).all (· ≤ reachBytes) = true := by
    have e1 : Try.f14.params.toList ++ Rows.shapeParamsSpec.plain.varTypes Try.prog = Try.f14.params.toList := List.append_nil _
    rw [← e1, ← List.append_nil ds]
    exact hz
  refine (shapeParams_call enc W base args ds p hval0 hA (fun x hx => hW'.lt x (by simpa using hx)) hz').mono fun e W' h => ⟨_, h.1, ?_⟩
  refine post_of_trues laidOut _ rfl Try.underlying4 (by decide +kernel) rfl hW' ?_ h.2
  have hA' := hA
  rw [Try.params14] at hA'
  obtain ⟨v0, v1, v2, v3, d0, d1, d2, d3, p0, p1, p2, p3, rfl, rfl, _⟩ := trodAll_four hA'
  rfl

theorem shapeParams_holds : Rows.ShapeParamsSaid :=
  OpenClaim.holds_of_wide 14 Try.f14 rfl rfl rfl rfl rfl rfl rfl ⟨rfl, rfl, rfl, rfl, rfl⟩ rfl rfl rfl rfl rfl (by kernel_rfl) Try.func14 (by kernel_rfl)
    (of_decide_eq_true (by kernel_rfl)) (by unfold Func.isWrapper; first | (rw [if_pos (by decide +kernel)]; kernel_rfl) | (rw [if_neg (by decide +kernel)]; exact ⟨rfl, rfl⟩))
    (fun os started H enc _ => shapeParams_lifted os started H enc)
#print axioms shapeParams_holds
end Go.Proofs.Ytcjmjmmajckjhaa
