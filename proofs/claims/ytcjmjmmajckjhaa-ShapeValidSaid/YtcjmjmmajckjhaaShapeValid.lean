/- ShapeValid: for every tree the law returns true. No condition. -/
import Derived.Test.YtcjmjmmajckjhaaShapeI
import Derived.Deep.RegionWith
namespace Go.Proofs.Ytcjmjmmajckjhaa
open Go.ChangeShapes Go.WideShapes Go.ChangeAt Go.RowKit Go.Joins
set_option maxRecDepth 100000 in
set_option maxHeartbeats 1000000 in
theorem shapeValid_walk (t : TreeV) (w : World) : Calls Try.prog 8 #[t.val] w (Trues w) := by
  unfold TreeV.val
  go_enter Try.func8, Try.ntmps8
  go_wp2
  go_region_with (first
    | (go_at_call 20; refine (valid_any t _).mono ?_; rintro e w1 ⟨rfl, hb1⟩; obtain ⟨hc1, -⟩ := bcell hb1)
    | (go_at_call 32; refine (refValid_any t _).mono ?_; rintro e w1 ⟨rfl, hb2⟩; obtain ⟨hc2, -⟩ := bcell hb2)
    | (go_at_call 33; refine (awake_any _).mono ?_; rintro e w1 ⟨rfl, hb3⟩))
  all_goals go_wp2
  all_goals go_ret
  all_goals refine ⟨rfl, ?_⟩
  all_goals have k1 := hb1.size
  all_goals have k2 := hb2.size
  all_goals simp at k1 k2
  all_goals first
    | exact (((Below.alloc (Below.refl _ _) (Nat.le_refl _) _).drew.trans (hb1.mono (by simp))).trans (hb2.mono (by omega))).trans (hb3.mono (by omega))
    | exact (((Below.alloc (Below.refl _ _) (Nat.le_refl _) _).drew.trans (hb2.mono (by simp))).trans (hb1.mono (by omega))).trans (hb3.mono (by omega))

set_option maxRecDepth 100000 in
theorem shapeValid_call {H : Type} (enc : TypeId × Value → H) (W : World) (base : Nat) (args : Array Value) (ds : List (DataW H)) (p : List MemPlace)
    (hval : ∀ (j : Nat) t v, Try.f8.params[j]? = some t → args[j]? = some v → Value.okWide Try.prog W .any base t v)
    (hA : DataW.TrodAll enc Try.prog W 0 (fun _ => true) true Try.f8.params.toList args.toList ds p) (hlt : ∀ x ∈ p, x.block < W.heap.size)
    (_ : (DataW.weightsEach Try.prog Try.f8.params.toList ds).all (· ≤ reachBytes) = true) :
    Calls Try.prog 8 args W (Trues W) := by
  rw [Try.params8] at hA hval
  obtain ⟨v0, d0, rfl, rfl, h0⟩ := trodAll_one hA
  obtain ⟨t, kz, sz, pz, rfl, ht⟩ := open_tree (hval 0 32 v0 rfl rfl) h0 hlt
  exact shapeValid_walk t W

set_option maxRecDepth 100000 in
theorem shapeValid_lifted (os : Os) (started : os.Started) (H : Type) (enc : TypeId × Value → H) :
    ReturnsInHanded {} Try.checked os 8 .any (Rows.shapeValidSpec.pre6 enc Try.prog Try.f8 Rows.shapeValidRow.domain false) (Rows.shapeValidSpec.post enc Try.prog Try.f8 false true false false) := by
  refine returnsInHanded_of_change_sized (C := Try.checked) own started (by kernel_rfl) Try.func8
    (ChangeSpec.witness6 (enc := enc) (C := Try.checked) false ⟨#[], #[.agg #[.int .i64 0, .int .i64 0, .int .i64 0, .int .i64 0, .int .u32 0, .int .i64 0, .slice none 0 0, .slice none 0 0, .slice none 0 0]], []⟩ 40 (by kernel_rfl) (by kernel_rfl) (by kernel_rfl) (by kernel_rfl)) ?_
  intro W base args ds gs before hval0 hW hcnd hz _
  have hW' := hW
  obtain ⟨p, q, hA0, hV, rfl, hfz, hnd⟩ := hW
  have hA : DataW.TrodAll enc Try.prog W 0 (fun _ => true) true Try.f8.params.toList args.toList ds p := hA0
  obtain ⟨rfl, rfl⟩ := trodVars_none hV
  have hz' : (DataW.weightsEach Try.prog Try.f8.params.toList ds).all (· ≤ reachBytes) = true := by
    have e1 : Try.f8.params.toList ++ Rows.shapeValidSpec.plain.varTypes Try.prog = Try.f8.params.toList := List.append_nil _
    rw [← e1, ← List.append_nil ds]
    exact hz
  refine (shapeValid_call enc W base args ds p hval0 hA (fun x hx => hW'.lt x (by simpa using hx)) hz').mono fun e W' h => ⟨_, h.1, ?_⟩
  refine post_of_trues laidOut _ rfl Try.underlying4 (by decide +kernel) rfl hW' ?_ h.2
  have hA' := hA
  rw [Try.params8] at hA'
  obtain ⟨v0, d0, rfl, rfl, _⟩ := trodAll_one hA'
  rfl

theorem shapeValid_holds : Rows.ShapeValidSaid :=
  OpenClaim.holds_of_wide 8 Try.f8 rfl rfl rfl rfl rfl rfl rfl ⟨rfl, rfl, rfl, rfl, rfl⟩ rfl rfl rfl rfl rfl (by kernel_rfl) Try.func8 (by kernel_rfl)
    (of_decide_eq_true (by kernel_rfl)) (by unfold Func.isWrapper; first | (rw [if_pos (by decide +kernel)]; kernel_rfl) | (rw [if_neg (by decide +kernel)]; exact ⟨rfl, rfl⟩))
    (fun os started H enc _ => shapeValid_lifted os started H enc)
#print axioms shapeValid_holds
end Go.Proofs.Ytcjmjmmajckjhaa
