/- PathNames' law, walked: a root that is not there is not the same. No condition. -/
import Derived.Test.YtahenngmaoellaaN49
import Derived.Test.YtahenngmaoellaaN50
import Derived.Lib.SlBytesConst
set_option linter.all false
set_option maxRecDepth 100000
set_option maxHeartbeats 8000000
namespace Go.Proofs.Ytahenngmaoellaa
open Go.ChangeShapes Go.WideShapes Go.ChangeAt Go.RowKit Go.Joins Go.Shelf Go.Maps
open Go.Lib (hid)
attribute [local go_sem] Oper.semAt_some
theorem TreeV.digZ_lenD {t : TreeV} (h : t.validE = 0) (hl : 0 ≤ t.l ∧ t.l ≤ 4294967295) (kz z1 z2 zs : List Int) (hn : zs.length ≤ 4194304) : ((t.digZ kz z1 z2 zs).length : Int) = t.d := by
 have her := err_small h hn
 have hL := TreeV.leafZ_facts h hl kz z1 z2 zs
 have htop := top_rows her kz z1 z2 (leafZ_rows h hl kz z1 z2 zs) hL.2.2
 unfold TreeV.digZ
 rw [if_pos h]
 exact (TreeV.top_len h kz z1 z2 htop).2
/-- A guard that holds. -/
theorem wpList_want {P : Program} {ops : Array Oper} {Q : Exit → Act → World → Prop} {a : Act} {w : World} {rest : List Oper} {d : Option Tmp} {op : Op} {ty : TypeId} {ps : String} {af : Array Edge} {g : Nat × Bool}
  (hw : Region.wanted ⟨d, op, ty, ps, af, some g⟩ (yielded ops a.tmps) = true) (h : wpList P ops Q (⟨d, op, ty, ps, af, none⟩ :: rest) a w) : wpList P ops Q (⟨d, op, ty, ps, af, some g⟩ :: rest) a w := by
 unfold wpList at h ⊢
 rw [if_pos hw]
 rw [if_pos (by rfl)] at h
 exact h
theorem cell_of_block {w : World} {g : Nat} {cs : Array Value} {t : TypeId} {fr : Nat × Nat} (h : w.heap[g]? = some (.cells cs t fr)) (i : Nat) : w.cell? ⟨g, i, none⟩ = cs[i]? := by simp [World.cell?, h]
theorem built8 (w : World) (zs : List Int) (hz : ∀ z ∈ zs, 0 ≤ z ∧ z ≤ 255) (hn : zs.length ≤ 1048576) (n : Nat) (he : zs.length = n) (cs : Array Value) (hc : (zs.map encB).toArray = cs) (fr : Nat × Nat) : Hold (w.alloc (.cells cs 5 fr)) (.slice (some ⟨w.heap.size, 0, none⟩) n n) zs := by
 subst he; subst hc
 refine ⟨hz, .inr ⟨⟨w.heap.size, 0, none⟩, zs.length, rfl, Nat.le_refl _, by unfold maxLen; omega, .inr ⟨w.heap.size, 0, rfl, by simp, fun i hi => ?_⟩⟩⟩
 have h := World.alloc_heap_new w (.cells (zs.map encB).toArray 5 fr)
 rw [Nat.zero_add, cell_of_block h]
 simp [encB, nthz, hi]
theorem names_facts (zs : List Int) (hz : zs.length = 9) : treeP.rootE 9 2 (treeP.stepsZ [] [] [] zs 2 2) (nthL (cutZ 4 zs) 2) = 0 ∧ treeP.checkE [] [] [] 9 2 (treeP.stepsZ [] [] [] zs 2 2) (nthL (cutZ 4 zs) 2) [] = 110 ∧ StepsOk 1048576 (treeP.stepsZ [] [] [] zs 2 2) := by
 have hv : treeP.validE = 0 := by decide +kernel
 have hl : 0 ≤ treeP.l ∧ treeP.l ≤ 4294967295 := by decide
 have hm : (treeP.rowsOf zs.length).length - 1 = 2 := by rw [hz]; decide +kernel
 have hlv : 2 < lvs zs.length treeP.ln := by rw [hz]; decide +kernel
 have h := TreeV.prove_root hv hl [] [] [] zs zs rfl (by omega) (leaf := 2) (m := 2) hlv hm (fun _ _ => rfl)
 have hd := TreeV.digZ_lenD hv hl [] [] [] zs (by omega)
 have hs := (TreeV.steps_fit hv hl [] [] [] zs (by omega) (leaf := 2) (TreeV.spot_leaf hv (by omega) hlv) hm).2
 rw [hz] at h
 refine ⟨h.2.1, ?_, hs⟩
 unfold TreeV.checkE
 have e0 : treeP.rootE 9 2 (treeP.stepsZ [] [] [] zs 2 2) (nthL (cutZ 4 zs) 2) = 0 := h.2.1
 have e1 : treeP.rootD [] [] [] 9 2 (treeP.stepsZ [] [] [] zs 2 2) (nthL (cutZ 4 zs) 2) = treeP.digZ [] [] [] zs := h.2.2
 rw [if_neg (by rw [e0]; simp), e1, if_neg]
 intro e
 rw [e] at hd
 revert hd; decide
theorem pathNames_walk (w : World) : Calls Try.prog 3 #[] w (Trues w) := by
 obtain ⟨b0, hb0⟩ : ∃ b0, w.heap.size = b0 := ⟨_, rfl⟩
 obtain ⟨i8, hi8, hz80, hz81, hz82⟩ := info_parts info_u8
 obtain ⟨zs, hzs⟩ : ∃ zs : List Int, [97, 98, 99, 100, 101, 102, 103, 104, 105] = zs := ⟨_, rfl⟩
 have hzl : zs.length = 9 := by rw [← hzs]; rfl
 have hzb : ∀ z ∈ zs, 0 ≤ z ∧ z ≤ 255 := by rw [← hzs]; decide
 have hfa := names_facts zs hzl
 have hcut : nthL (cutZ 4 zs) 2 = [105] := by rw [← hzs]; decide +kernel
 rw [hcut] at hfa
 have hv : treeP.validE = 0 := by decide +kernel
 have hl : 0 ≤ treeP.l ∧ treeP.l ≤ 4294967295 := by decide
 have hm : (treeP.rowsOf zs.length).length - 1 = 2 := by rw [hzl]; decide +kernel
 have hlv : 2 < lvs zs.length treeP.ln := by rw [hzl]; decide +kernel
 have hpv := fun (v : Value) (W : World) (hx : Hold W v zs) => prove_ok treeP [] [] [] zs 2 (by decide) v W ⟨hv, hl, Hold.nil _, Hold.nil _, Hold.nil _⟩ hx (by omega) (TreeV.spot_leaf hv (by omega) hlv)
 rw [hm] at hpv
 have hck := fun (W : World) (u x : Value) (hu : StepsAt W u (treeP.stepsZ [] [] [] zs 2 2)) (hx : Hold W x [105]) => check_any treeP [] [] [] [105] [] 9 2 (by decide) (by decide) hl u x (.slice none 0 0) _ W ⟨Hold.nil _, Hold.nil _, Hold.nil _⟩ hu hfa.2.2 hx (by decide) (Hold.nil _)
 rw [hfa.2.1] at hck
 rw [hzl] at hpv
 have HPV := hid hpv
 have HCK := hid hck
 have HBD := hid (fun (W : World) => built8 W zs hzb (by omega) 9 hzl #[.int .u8 97, .int .u8 98, .int .u8 99, .int .u8 100, .int .u8 101, .int .u8 102, .int .u8 103, .int .u8 104, .int .u8 105] (by rw [← hzs]; rfl) (9, 10))
 have HBE := hid (fun (W : World) => built8 W [105] (by decide) (by decide) 1 rfl #[.int .u8 105] rfl (1, 2))
 have kc := fun (W : World) (C : Array Value) (n c : Nat) => Lib.run_convert_bytes_const (P := Try.prog) W 24 5 C n c Try.underlying24 Try.underlying5
 clear hpv hck hfa hcut hzb hzs hzl hm hlv hv hl
 unfold treeP TreeV.val pathVal at *
 go_enter Try.func3, Try.ntmps3
 go_wp2_with fail
 refine (tree_any w).mono ?_; rintro e w1 ⟨rfl, hc1⟩
 have HB1 := hid (hb0 ▸ hc1 : Below b0 w w1)
 have hs1 : b0 ≤ w1.heap.size := by rw [← hb0]; exact hc1.size
 obtain ⟨bt, hbt⟩ : ∃ bt, w1.heap.size = bt := ⟨_, rfl⟩
 clear hc1
 go_upto_region 2 with (fail)
 refine letterW ?_
 intro wA hwA
 have hrT : wA.heap[bt]? = some (.cells #[.int .i64 2, .int .i64 32, .int .i64 2, .int .i64 9, .int .u32 4, .int .i64 8, .slice none 0 0, .slice none 0 0, .slice none 0 0] 26 (0, 0)) := by rw [hwA]; exact World.alloc_new_at _ _ hbt.symm
 have hbA : Below b0 w wA := HB1.out.trans (by rw [hwA]; exact (Below.refl _ _).alloc (by omega) _)
 have hsA : bt < wA.heap.size := (Array.getElem?_eq_some_iff.1 hrT).1
 clear hwA HB1
 go_wp2_with (first | ((with_reducible show wpList _ _ _ (Oper.mk _ (Op.load 26 _) _ _ _ _ :: _) _ _); refine wpList_load_row rfl 26 _ rfl bt rfl _ _ _ _ hrT Try.underlying26 rfl (by kernel_rfl) ?_) | ((with_reducible show wpList _ _ _ (Oper.mk _ (Op.buildSlice _ _ _) _ _ _ _ :: _) _ _); refine wpList_buildSlice rfl 24 5 9 _ rfl #[.int .u8 97, .int .u8 98, .int .u8 99, .int .u8 100, .int .u8 101, .int .u8 102, .int .u8 103, .int .u8 104, .int .u8 105] i8 _ Try.underlying24 hi8 hz80 (by rw [hz81]; decide) (by rw [hz81]; decide) (by rw [hz81]; rfl) ?_))
 have hbd := HBD.out wA
 refine (HPV.out _ _ hbd).mono ?_; rintro e w2 ⟨u, xs, DS, rfl, ⟨hown, hls⟩, hc2⟩
 have hst := steps_at hown hls
 obtain ⟨ua, uc, rfl⟩ := ownsRow_any hown
 have hbB : Below b0 w (wA.alloc (.cells #[.int .u8 97, .int .u8 98, .int .u8 99, .int .u8 100, .int .u8 101, .int .u8 102, .int .u8 103, .int .u8 104, .int .u8 105] 5 (9, 10))) := hbA.alloc (by omega) _
 have hrB := rowStay hrT ((Below.refl _ _).alloc (Nat.le_refl _) _ : Below wA.heap.size wA (wA.alloc (.cells #[.int .u8 97, .int .u8 98, .int .u8 99, .int .u8 100, .int .u8 101, .int .u8 102, .int .u8 103, .int .u8 104, .int .u8 105] 5 (9, 10))))
 generalize wA.alloc (.cells #[.int .u8 97, .int .u8 98, .int .u8 99, .int .u8 100, .int .u8 101, .int .u8 102, .int .u8 103, .int .u8 104, .int .u8 105] 5 (9, 10)) = wB at *
 have hsB : b0 ≤ wB.heap.size := by have := hbB.size; have := (Array.getElem?_eq_some_iff.1 hrB).1; omega
 have hr2 := rowStay hrB hc2
 have HB2 := hid (hbB.trans (hc2.mono hsB))
 obtain ⟨bP, hbP⟩ : ∃ bP, w2.heap.size = bP := ⟨_, rfl⟩
 have HST := hid hst
 clear hown hls hst hc2 hrB hbB hbd hsB hrT hbA hsA
 clear wB
 go_upto_region 3 with (fail)
 refine letterW ?_
 intro w7 hw7
 have hrP : w7.heap[bP]? = some (.cells #[.int .u64 9, .int .u64 2, .slice ua 2 uc] 31 (0, 0)) := by rw [hw7]; exact World.alloc_new_at _ _ hbP.symm
 have hc7 : Below w2.heap.size w2 w7 := by rw [hw7]; exact (Below.refl _ _).alloc (Nat.le_refl _) _
 have hr7 := rowStay hr2 hc7
 have hb2s : b0 ≤ w2.heap.size := by have := (Array.getElem?_eq_some_iff.1 hr2).1; omega
 have HB7 := hid (HB2.out.trans (hc7.mono hb2s))
 have HST7 := hid (HST.out.below hc7)
 have hz7 : bP < w7.heap.size := (Array.getElem?_eq_some_iff.1 hrP).1
 have hb07 : bt < w7.heap.size := (Array.getElem?_eq_some_iff.1 hr7).1
 have s2 : w7.cell? ⟨bP, 2, none⟩ = some (.slice ua 2 uc) := cell_of_heap hrP 2
 clear hw7 hc7 hr2 HB2 HST hb2s hbP
 clear w2
 go_wp2_with (first | (refine wpList_want (by rfl) ?_) | ((with_reducible show wpList _ _ _ (Oper.mk _ (Op.load 26 _) _ _ _ _ :: _) _ _); refine wpList_load_row rfl 26 _ rfl bt rfl _ _ _ _ hr7 Try.underlying26 rfl (by kernel_rfl) ?_) | ((with_reducible show wpList _ _ _ (Oper.mk _ (Op.load 31 _) _ _ _ _ :: _) _ _); refine wpList_load_row rfl 31 _ rfl bP rfl _ _ _ _ hrP Try.underlying31 rfl (by kernel_rfl) ?_) | ((with_reducible show wpList _ _ _ (Oper.mk _ (Op.buildSlice _ _ _) _ _ _ _ :: _) _ _); refine wpList_buildSlice rfl 24 5 1 _ rfl #[.int .u8 105] i8 _ Try.underlying24 hi8 hz80 (by rw [hz81]; decide) (by rw [hz81]; decide) (by rw [hz81]; rfl) ?_))
 have hbe := HBE.out w7
 have hce : Below w7.heap.size w7 (w7.alloc (.cells #[.int .u8 105] 5 (1, 2))) := (Below.refl _ _).alloc (Nat.le_refl _) _
 refine (HCK.out _ _ _ (HST7.out.below hce) hbe).mono ?_; rintro e w9 ⟨rfl, hc9⟩
 have hsz : b0 ≤ w7.heap.size := by omega
 have HB9 := hid ((HB7.out.trans (hce.mono hsz)).trans (hc9.mono (by have := hce.size; omega)))
 clear hc9 hce hbe
 go_wp2_with fail
 go_ret
 exact ⟨rfl, by rw [hb0]; exact HB9.out⟩
end Go.Proofs.Ytahenngmaoellaa
namespace Go.Proofs.Ytahenngmaoellaa
open Go.ChangeShapes Go.WideShapes Go.ChangeAt Go.RowKit Go.Joins Go.Shelf Go.Maps
open Go.Lib (hid)
theorem pathNames_call {H : Type} (enc : TypeId × Value → H) (W : World) (base : Nat) (args : Array Value) (ds : List (DataW H)) (p : List MemPlace)
    (_ : ∀ (j : Nat) t v, Try.f3.params[j]? = some t → args[j]? = some v → Value.okWide Try.prog W .any base t v)
    (hA : DataW.TrodAll enc Try.prog W 0 (fun _ => true) true Try.f3.params.toList args.toList ds p) (_ : ∀ x ∈ p, x.block < W.heap.size)
    (_ : (DataW.weightsEach Try.prog Try.f3.params.toList ds).all (· ≤ reachBytes) = true) :
    Calls Try.prog 3 args W (Trues W) := by
  rw [Try.params3] at hA
  obtain ⟨rfl, rfl, rfl⟩ := trodAll_none hA
  exact pathNames_walk W
theorem pathNames_lifted (os : Os) (started : os.Started) (H : Type) (enc : TypeId × Value → H) :
    ReturnsInHanded {} Try.checked os 3 .any (Rows.pathNamesSpec.pre6 enc Try.prog Try.f3 Rows.pathNamesRow.domain false) (Rows.pathNamesSpec.post enc Try.prog Try.f3 false true false false) := by
  refine returnsInHanded_of_change_sized (C := Try.checked) own started (by kernel_rfl) Try.func3
    (ChangeSpec.witness6 (enc := enc) (C := Try.checked) false ⟨#[], #[], []⟩ 40 (by kernel_rfl) (by kernel_rfl) (by kernel_rfl) (by kernel_rfl)) ?_
  intro W base args ds gs before hval0 hW hcnd hz _
  have hW' := hW
  obtain ⟨p, q, hA0, hV, rfl, hfz, hnd⟩ := hW
  have hA : DataW.TrodAll enc Try.prog W 0 (fun _ => true) true Try.f3.params.toList args.toList ds p := hA0
  obtain ⟨rfl, rfl⟩ := trodVars_none hV
  have hz' : (DataW.weightsEach Try.prog Try.f3.params.toList ds).all (· ≤ reachBytes) = true := by
    have e1 : Try.f3.params.toList ++ Rows.pathNamesSpec.plain.varTypes Try.prog = Try.f3.params.toList := List.append_nil _
    rw [← e1, ← List.append_nil ds]
    exact hz
  refine (pathNames_call enc W base args ds p hval0 hA (fun x hx => hW'.lt x (by simpa using hx)) hz').mono fun e W' h => ⟨_, h.1, ?_⟩
  refine post_of_trues laidOut _ rfl Try.underlying4 (by decide +kernel) rfl hW' ?_ h.2
  have hA' := hA
  rw [Try.params3] at hA'
  obtain ⟨rfl, rfl, rfl⟩ := trodAll_none hA'
  rfl
theorem pathNames_holds : Rows.PathNamesSaid :=
  OpenClaim.holds_of_wide 3 Try.f3 rfl rfl rfl rfl rfl rfl rfl ⟨rfl, rfl, rfl, rfl, rfl⟩ rfl rfl rfl rfl rfl (by kernel_rfl) Try.func3 (by kernel_rfl)
    (of_decide_eq_true (by kernel_rfl)) (by unfold Func.isWrapper; first | (rw [if_pos (by decide +kernel)]; kernel_rfl) | (rw [if_neg (by decide +kernel)]; exact ⟨rfl, rfl⟩))
    (fun os started H enc _ => pathNames_lifted os started H enc)
#print axioms pathNames_holds
end Go.Proofs.Ytahenngmaoellaa
