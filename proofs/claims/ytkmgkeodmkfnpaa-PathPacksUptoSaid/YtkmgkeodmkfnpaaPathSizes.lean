/- PathSizes: for every tree, total and leaf the law returns true. No condition. -/
import Derived.Test.YtkmgkeodmkfnpaaWayE
namespace Go.Proofs.Ytkmgkeodmkfnpaa
open Go.ChangeShapes Go.WideShapes Go.ChangeAt Go.RowKit Go.Joins Go.Shelf Go.Maps

def treeP : TreeV := ⟨2, 32, 2, 9, 4, 8, none, 0, 0, none, 0, 0, none, 0, 0⟩
theorem treeP_0 : treeP.sizeR 9 0 = 2 ∧ treeP.spotE 9 0 0 = 0 := by decide +kernel
theorem treeP_2 : treeP.sizeR 9 2 = 1 ∧ treeP.spotE 9 0 2 = 0 := by decide +kernel
theorem tree_any (w : World) : Calls Try.prog 35 #[] w fun e w' => e = .returned (.agg #[.int .i64 2, .int .i64 32, .int .i64 2, .int .i64 9, .int .u32 4, .int .i64 8, .slice none 0 0, .slice none 0 0, .slice none 0 0]) ∧ Below w.heap.size w w' := by
  go_enter Try.func35, Try.ntmps35
  go_wp2
  refine bodyPost_ret (v := .agg #[.int .i64 2, .int .i64 32, .int .i64 2, .int .i64 9, .int .u32 4, .int .i64 8, .slice none 0 0, .slice none 0 0, .slice none 0 0]) (by simp [results, Try.f35, go_sem]) rfl ⟨rfl, ?_⟩
  repeat (first | exact Below.refl _ _ | (refine Below.setCell ?_ (by simp) _) | (refine Below.alloc ?_ (by simp) _))
set_option maxRecDepth 100000 in
theorem pathAwake_any (w : World) : Calls Try.prog 9 #[] w (Trues w) := by
  have A0 := fun w => size_any treeP (by decide) 9 (by decide) 0 w
  have A2 := fun w => size_any treeP (by decide) 9 (by decide) 2 w
  rw [treeP_0.1, treeP_0.2] at A0
  rw [treeP_2.1, treeP_2.2] at A2
  have H0 := Lib.hid A0
  have H2 := Lib.hid A2
  clear A0 A2
  unfold treeP TreeV.val at *
  go_enter Try.func9, Try.ntmps9
  go_wp2_with fail
  refine (tree_any _).mono ?_; rintro e w0 ⟨rfl, hb0⟩
  go_wp2_with fail
  refine (H0.out _).mono ?_; rintro e w1 ⟨rfl, hb1⟩
  go_wp2_with fail
  refine (tree_any _).mono ?_; rintro e w2 ⟨rfl, hb2⟩
  go_wp2_with fail
  refine (H2.out _).mono ?_; rintro e w3 ⟨rfl, hb3⟩
  go_wp2
  go_ret
  have s0 := hb0.size
  have s1 := hb1.size
  have s2 := hb2.size
  exact ⟨rfl, ((hb0.trans (hb1.mono (by omega))).trans (hb2.mono (by omega))).trans (hb3.mono (by omega))⟩
set_option maxRecDepth 100000 in
theorem pathSizes_walk (t : TreeV) (hl : 0 ≤ t.l ∧ t.l ≤ 4294967295) (total : Nat) (ht : (total : Int) ≤ 18446744073709551615) (leaf : Nat) (w : World) :
    Calls Try.prog 3 #[t.val, .int .u64 total, .int .u64 leaf] w (Trues w) := by
  have H1 := Lib.hid (fun w => size_any t hl total ht leaf w)
  have H2 := Lib.hid (fun w => refSize_any t hl total ht leaf w)
  generalize t.sizeR total leaf = a at *
  generalize t.spotE total 0 leaf = b at *
  have q1 : (a == a) = true := by simp
  have q2 : (b == b) = true := by simp
  unfold TreeV.val at *
  go_enter Try.func3, Try.ntmps3
  go_wp2_with fail
  refine (H1.out _).mono ?_; rintro r w1 ⟨rfl, hb1⟩
  have hs1 : w.heap.size < w1.heap.size := by have := hb1.size; simp at this; omega
  obtain ⟨hc1, -⟩ := bcell hb1
  have hB1 : Below w.heap.size w w1 := below_alloc_then _ hb1
  go_wp2_with fail
  refine (H2.out _).mono ?_; rintro r w2 ⟨rfl, hb2⟩
  have hs2 := hb2.size
  have hB2 : Below w.heap.size w w2 := hB1.trans (hb2.mono (by omega))
  go_wp2_with fail
  refine (pathAwake_any _).mono ?_; rintro r w3 ⟨rfl, hb3⟩
  go_wp2
  go_ret
  exact ⟨rfl, hB2.trans (hb3.mono (by omega))⟩

set_option maxRecDepth 100000 in
theorem pathSizes_call {H : Type} (enc : TypeId × Value → H) (W : World) (base : Nat) (args : Array Value) (ds : List (DataW H)) (p : List MemPlace)
    (hval : ∀ (j : Nat) t v, Try.f3.params[j]? = some t → args[j]? = some v → Value.okWide Try.prog W .any base t v)
    (hA : DataW.TrodAll enc Try.prog W 0 (fun _ => true) true Try.f3.params.toList args.toList ds p) (hlt : ∀ x ∈ p, x.block < W.heap.size)
    (_ : (DataW.weightsEach Try.prog Try.f3.params.toList ds).all (· ≤ reachBytes) = true) :
    Calls Try.prog 3 args W (Trues W) := by
  rw [Try.params3] at hA hval
  obtain ⟨v0, v1, v2, d0, d1, d2, p0, p1, p2, rfl, rfl, rfl, h0, h1, h2⟩ := trodAll_three hA
  obtain ⟨t, kt, st, zt, rfl, ht⟩ := open_tree (hval 0 26 v0 rfl rfl) h0 (fun x hx => hlt x (by simp [hx]))
  obtain ⟨total', rfl, htotal⟩ := open_u64 (hval 1 27 v1 rfl rfl) h1
  obtain ⟨total, rfl⟩ : ∃ n : Nat, total' = n := ⟨total'.toNat, by omega⟩
  obtain ⟨leaf', rfl, hleaf⟩ := open_u64 (hval 2 27 v2 rfl rfl) h2
  obtain ⟨leaf, rfl⟩ : ∃ n : Nat, leaf' = n := ⟨leaf'.toNat, by omega⟩
  exact pathSizes_walk t ht.l total htotal.2 leaf W

set_option maxRecDepth 100000 in
theorem pathSizes_lifted (os : Os) (started : os.Started) (H : Type) (enc : TypeId × Value → H) :
    ReturnsInHanded {} Try.checked os 3 .any (Rows.pathSizesSpec.pre6 enc Try.prog Try.f3 Rows.pathSizesRow.domain false) (Rows.pathSizesSpec.post enc Try.prog Try.f3 false true false false) := by
  refine returnsInHanded_of_change_sized (C := Try.checked) own started (by kernel_rfl) Try.func3
    (ChangeSpec.witness6 (enc := enc) (C := Try.checked) false ⟨#[], #[.agg #[.int .i64 0, .int .i64 0, .int .i64 0, .int .i64 0, .int .u32 0, .int .i64 0, .slice none 0 0, .slice none 0 0, .slice none 0 0], .int .u64 0, .int .u64 0], []⟩ 40 (by kernel_rfl) (by kernel_rfl) (by kernel_rfl) (by kernel_rfl)) ?_
  intro W base args ds gs before hval0 hW hcnd hz _
  have hW' := hW
  obtain ⟨p, q, hA0, hV, rfl, hfz, hnd⟩ := hW
  have hA : DataW.TrodAll enc Try.prog W 0 (fun _ => true) true Try.f3.params.toList args.toList ds p := hA0
  obtain ⟨rfl, rfl⟩ := trodVars_none hV
  have hz' : (DataW.weightsEach Try.prog Try.f3.params.toList ds).all (· ≤ reachBytes) = true := by
    have e1 : Try.f3.params.toList ++ Rows.pathSizesSpec.plain.varTypes Try.prog = Try.f3.params.toList := List.append_nil _
    rw [← e1, ← List.append_nil ds]
    exact hz
  refine (pathSizes_call enc W base args ds p hval0 hA (fun x hx => hW'.lt x (by simpa using hx)) hz').mono fun e W' h => ⟨_, h.1, ?_⟩
  refine post_of_trues laidOut _ rfl Try.underlying4 (by decide +kernel) rfl hW' ?_ h.2
  have hA' := hA
  rw [Try.params3] at hA'
  obtain ⟨v0, v1, v2, d0, d1, d2, p0, p1, p2, rfl, rfl, _⟩ := trodAll_three hA'
  rfl

theorem pathSizes_holds : Rows.PathSizesSaid :=
  OpenClaim.holds_of_wide 3 Try.f3 rfl rfl rfl rfl rfl rfl rfl ⟨rfl, rfl, rfl, rfl, rfl⟩ rfl rfl rfl rfl rfl (by kernel_rfl) Try.func3 (by kernel_rfl)
    (of_decide_eq_true (by kernel_rfl)) (by unfold Func.isWrapper; first | (rw [if_pos (by decide +kernel)]; kernel_rfl) | (rw [if_neg (by decide +kernel)]; exact ⟨rfl, rfl⟩))
    (fun os started H enc _ => pathSizes_lifted os started H enc)
#print axioms pathSizes_holds
end Go.Proofs.Ytkmgkeodmkfnpaa
