/- ClashChecks: for every two calls the law returns true. No condition. -/
import Derived.Test.YtjogmckaakkomaaGreatK54
import Derived.Test.YtjogmckaakkomaaGreatK55
import Derived.SizedLaws
namespace Go.Proofs.YtjogmckaakkomaaGreat
open Go.ChangeShapes Go.WideShapes Go.ChangeAt Go.RowKit Go.Joins Go.Shelf Go.Maps
attribute [local go_sem] Oper.semAt_some

def ClashR (w : World) (b0 b1 : Nat) (ca cb : Array Value) (W : World) : Prop := Below b0 w W ∧ W.heap[b0]? = some (.cells ca 25 (0, 0)) ∧ W.heap[b1]? = some (.cells cb 25 (0, 0)) ∧ b0 < W.heap.size
theorem ClashR.next {w : World} {b0 b1 : Nat} {ca cb : Array Value} {W W' : World} (h : ClashR w b0 b1 ca cb W) (hb : Below W.heap.size W W') : ClashR w b0 b1 ca cb W' :=
 ⟨h.1.trans (hb.mono (by have := h.2.2.2; omega)), rowStay h.2.1 hb, rowStay h.2.2.1 hb, Nat.lt_of_lt_of_le h.2.2.2 hb.size⟩
theorem hgn_dst {ops : List Oper} {G : Nat → Value → World → Prop} (h : (ops.all fun o => o.dst.isSome) = true) : ∀ i o v W, ops[i]? = some o → o.dst = none → G i v W → G i undef W := fun i o v W hi hd => by
 have := List.all_eq_true.1 h o (List.mem_of_getElem? hi)
 rw [hd] at this
 cases this
def GoodC (L : List Value) (i : Nat) (v : Value) (_ : World) : Prop := match L[i]? with | some g => v = g | none => True
set_option maxRecDepth 100000 in
set_option maxHeartbeats 4000000 in
theorem clashChecks_walk (a b : CallV) (va vb : Value) (w : World) (ha : CallAt w va a) (hb : CallAt w vb b) (hda : (a.data.length : Int) ≤ 140737488355200) (hdb : (b.data.length : Int) ≤ 140737488355200) :
  Calls Tryz.prog 3 #[va, vb] w (Trues w) := by
 have HU := Lib.hid (fun W (h : Below w.heap.size w W) => unlike_ok a b va vb W (ha.below h) (hb.below h))
 have HV := Lib.hid (fun W (h : Below w.heap.size w W) => refUnlike_ok a b va vb W (ha.below h) (hb.below h))
 have HS := Lib.hid (fun W (h : Below w.heap.size w W) => unlike_ok b b vb vb W (hb.below h) (hb.below h))
 have HC := Lib.hid (fun W (h : Below w.heap.size w W) => check_ok a b va vb W (ha.below h) (hb.below h) hda hdb)
 have HD := Lib.hid (fun W (h : Below w.heap.size w W) => refCheckC_ok a b va vb W (ha.below h) (hb.below h) hda hdb)
 rw [sameC_self] at HS
 clear hda hdb
 obtain ⟨bv1, kv1, dv1, rfl, h1, h2, h3⟩ := ha
 obtain ⟨bv2, kv2, dv2, rfl, h4, h5, h6⟩ := hb
 clear h1 h2 h3 h4 h5 h6
 obtain ⟨q, hq⟩ : ∃ q, (!sameC a b) = q := ⟨_, rfl⟩
 rw [hq] at HU HV
 clear hq
 obtain ⟨k1, hk1⟩ : ∃ k, a.kind = k := ⟨_, rfl⟩
 obtain ⟨la1, hla1⟩ : ∃ k, a.last = k := ⟨_, rfl⟩
 obtain ⟨o1, ho1⟩ : ∃ k, a.out = k := ⟨_, rfl⟩
 obtain ⟨k2, hk2⟩ : ∃ k, b.kind = k := ⟨_, rfl⟩
 obtain ⟨la2, hla2⟩ : ∃ k, b.last = k := ⟨_, rfl⟩
 obtain ⟨o2, ho2⟩ : ∃ k, b.out = k := ⟨_, rfl⟩
 rw [hk1, hla1, ho1] at HU HV HC HD ⊢
 rw [hk2, hla2, ho2] at HU HV HC HD HS ⊢
 clear hk1 hla1 ho1 hk2 hla2 ho2
 unfold callC at *
 obtain ⟨b0, hb0⟩ : ∃ b0, w.heap.size = b0 := ⟨_, rfl⟩
 obtain ⟨b1, hb1⟩ : ∃ b1, (w.alloc (.cells #[.int .i64 k1, bv1, kv1, .bool la1, .int .i64 o1, dv1] 25)).heap.size = b1 := ⟨_, rfl⟩
 have hsz : w.heap.size < (w.alloc (.cells #[.int .i64 k1, bv1, kv1, .bool la1, .int .i64 o1, dv1] 25)).heap.size := (Array.getElem?_eq_some_iff.1 (World.alloc_heap_new w (.cells #[.int .i64 k1, bv1, kv1, .bool la1, .int .i64 o1, dv1] 25))).1
 have hr : ClashR w b0 b1 #[.int .i64 k1, bv1, kv1, .bool la1, .int .i64 o1, dv1] #[.int .i64 k2, bv2, kv2, .bool la2, .int .i64 o2, dv2] ((w.alloc (.cells #[.int .i64 k1, bv1, kv1, .bool la1, .int .i64 o1, dv1] 25)).alloc (.cells #[.int .i64 k2, bv2, kv2, .bool la2, .int .i64 o2, dv2] 25)) := by
  refine ⟨?_, ?_, ?_, ?_⟩
  ·rw [← hb0]; exact ((Below.refl _ _).alloc (Nat.le_refl _) _).alloc (Nat.le_of_lt hsz) _
  ·rw [← hb0]; exact (Below.heap_alloc _ _ _ hsz).trans (World.alloc_heap_new w _)
  ·rw [← hb1]; exact World.alloc_heap_new (w.alloc _) _
  ·rw [← hb0]; exact Nat.lt_trans hsz (Array.getElem?_eq_some_iff.1 (World.alloc_heap_new (w.alloc (.cells #[.int .i64 k1, bv1, kv1, .bool la1, .int .i64 o1, dv1] 25)) (.cells #[.int .i64 k2, bv2, kv2, .bool la2, .int .i64 o2, dv2] 25))).1
 go_enter Tryz.func3, Tryz.ntmps3
 go_upto_region 1 with (fail)
 generalize ((w.alloc (.cells #[.int .i64 k1, bv1, kv1, .bool la1, .int .i64 o1, dv1] 25)).alloc (.cells #[.int .i64 k2, bv2, kv2, .bool la2, .int .i64 o2, dv2] 25)) = W0 at *
 have HR := Lib.hid hr
 clear hr hb1 hsz
 refine wp_region_inv (ds := [9, 10, 11, 12, 13, 14, 15, 16, 17, 18, 19, 20]) (R := ClashR w b0 b1 #[.int .i64 k1, bv1, kv1, .bool la1, .int .i64 o1, dv1] #[.int .i64 k2, bv2, kv2, .bool la2, .int .i64 o2, dv2]) (Good := GoodC [.agg #[.int .i64 k1, bv1, kv1, .bool la1, .int .i64 o1, dv1], .agg #[.int .i64 k2, bv2, kv2, .bool la2, .int .i64 o2, dv2], .bool q, .agg #[.int .i64 k1, bv1, kv1, .bool la1, .int .i64 o1, dv1], .agg #[.int .i64 k2, bv2, kv2, .bool la2, .int .i64 o2, dv2], .bool q, .bool false, .bool false, .agg #[.int .i64 k2, bv2, kv2, .bool la2, .int .i64 o2, dv2], .agg #[.int .i64 k2, bv2, kv2, .bool la2, .int .i64 o2, dv2], .bool false, .bool false]) rfl (by decide) (by kernel_rfl) (by kernel_rfl) ?_ ?_ ?_ ?_
 case refine_1 => exact HR.out.next (Below.refl _ _).drew
 case refine_3 => exact hgn_dst (by kernel_rfl)
 case refine_2 =>
  refine allAt_spec (p := _) ?_
  refine allAt_cons ?_ (allAt_cons ?_ (allAt_cons ?_ (allAt_cons ?_ (allAt_cons ?_ (allAt_cons ?_ (allAt_cons ?_ (allAt_cons ?_ (allAt_cons ?_ (allAt_cons ?_ (allAt_cons ?_ (allAt_cons ?_ (allAt_nil))))))))))))
  ·intro x W hR hdep K hK
   clear hdep
   simp only [lay, Act.put, List.setIfInBounds_toArray, List.set_cons_zero, List.set_cons_succ] at hK ⊢
   rw [if_pos (wanted_pos rfl)]
   refine wp_load_row 25 _ rfl b0 rfl _ _ _ _ hR.2.1 Tryz.underlying25 rfl (by kernel_rfl) ?_
   exact hK _ _ hR (fun _ _ _ h => h) rfl
  ·intro x W hR hdep K hK
   clear hdep
   simp only [lay, Act.put, List.setIfInBounds_toArray, List.set_cons_zero, List.set_cons_succ] at hK ⊢
   rw [if_pos (wanted_pos rfl)]
   refine wp_load_row 25 _ rfl b1 rfl _ _ _ _ hR.2.2.1 Tryz.underlying25 rfl (by kernel_rfl) ?_
   exact hK _ _ hR (fun _ _ _ h => h) rfl
  ·intro x W hR hdep K hK
   have g0 : x 9 = .agg #[.int .i64 k1, bv1, kv1, .bool la1, .int .i64 o1, dv1] := hdep ⟨0, .data⟩ (by simp) rfl _ rfl
   have g1 : x 10 = .agg #[.int .i64 k2, bv2, kv2, .bool la2, .int .i64 o2, dv2] := hdep ⟨1, .data⟩ (by simp) rfl _ rfl
   clear hdep
   simp only [lay, Act.put, List.setIfInBounds_toArray, List.set_cons_zero, List.set_cons_succ, g0, g1] at hK ⊢
   have hW : Below w.heap.size w W := hb0 ▸ hR.1
   go_simp
   refine (HU.out W hW).mono ?_; rintro e w9 ⟨rfl, hb9⟩
   exact hK _ _ (hR.next hb9) (fun _ _ _ h => h) rfl
  ·intro x W hR hdep K hK
   clear hdep
   simp only [lay, Act.put, List.setIfInBounds_toArray, List.set_cons_zero, List.set_cons_succ] at hK ⊢
   rw [if_pos (wanted_pos rfl)]
   refine wp_load_row 25 _ rfl b0 rfl _ _ _ _ hR.2.1 Tryz.underlying25 rfl (by kernel_rfl) ?_
   exact hK _ _ hR (fun _ _ _ h => h) rfl
  ·intro x W hR hdep K hK
   clear hdep
   simp only [lay, Act.put, List.setIfInBounds_toArray, List.set_cons_zero, List.set_cons_succ] at hK ⊢
   rw [if_pos (wanted_pos rfl)]
   refine wp_load_row 25 _ rfl b1 rfl _ _ _ _ hR.2.2.1 Tryz.underlying25 rfl (by kernel_rfl) ?_
   exact hK _ _ hR (fun _ _ _ h => h) rfl
  ·intro x W hR hdep K hK
   have g3 : x 12 = .agg #[.int .i64 k1, bv1, kv1, .bool la1, .int .i64 o1, dv1] := hdep ⟨3, .data⟩ (by simp) rfl _ rfl
   have g4 : x 13 = .agg #[.int .i64 k2, bv2, kv2, .bool la2, .int .i64 o2, dv2] := hdep ⟨4, .data⟩ (by simp) rfl _ rfl
   clear hdep
   simp only [lay, Act.put, List.setIfInBounds_toArray, List.set_cons_zero, List.set_cons_succ, g3, g4] at hK ⊢
   have hW : Below w.heap.size w W := hb0 ▸ hR.1
   go_simp
   refine (HV.out W hW).mono ?_; rintro e w9 ⟨rfl, hb9⟩
   exact hK _ _ (hR.next hb9) (fun _ _ _ h => h) rfl
  ·intro x W hR hdep K hK
   have g2 : x 11 = .bool q := hdep ⟨2, .data⟩ (by simp) rfl _ rfl
   have g5 : x 14 = .bool q := hdep ⟨5, .data⟩ (by simp) rfl _ rfl
   clear hdep
   simp only [lay, Act.put, List.setIfInBounds_toArray, List.set_cons_zero, List.set_cons_succ, g2, g5] at hK ⊢
   skip
   cases q <;> go_simp <;> exact hK _ _ hR (fun _ _ _ h => h) rfl
  ·intro x W hR hdep K hK
   have g6 : x 15 = .bool false := hdep ⟨6, .data⟩ (by simp) rfl _ rfl
   clear hdep
   simp only [lay, Act.put, List.setIfInBounds_toArray, List.set_cons_zero, List.set_cons_succ, g6] at hK ⊢
   skip
   go_simp
   exact hK _ _ hR (fun _ _ _ h => h) rfl
  ·intro x W hR hdep K hK
   have g7 : x 16 = .bool false := hdep ⟨7, .guard⟩ (by simp) rfl _ rfl
   clear hdep
   simp only [lay, Act.put, List.setIfInBounds_toArray, List.set_cons_zero, List.set_cons_succ, g7] at hK ⊢
   rw [if_pos (by rfl)]
   refine wp_load_row 25 _ rfl b1 rfl _ _ _ _ hR.2.2.1 Tryz.underlying25 rfl (by kernel_rfl) ?_
   exact hK _ _ hR (fun _ _ _ h => h) rfl
  ·intro x W hR hdep K hK
   have g7 : x 16 = .bool false := hdep ⟨7, .guard⟩ (by simp) rfl _ rfl
   clear hdep
   simp only [lay, Act.put, List.setIfInBounds_toArray, List.set_cons_zero, List.set_cons_succ, g7] at hK ⊢
   rw [if_pos (by rfl)]
   refine wp_load_row 25 _ rfl b1 rfl _ _ _ _ hR.2.2.1 Tryz.underlying25 rfl (by kernel_rfl) ?_
   exact hK _ _ hR (fun _ _ _ h => h) rfl
  ·intro x W hR hdep K hK
   have g8 : x 17 = .agg #[.int .i64 k2, bv2, kv2, .bool la2, .int .i64 o2, dv2] := hdep ⟨8, .data⟩ (by simp) rfl _ rfl
   have g9 : x 18 = .agg #[.int .i64 k2, bv2, kv2, .bool la2, .int .i64 o2, dv2] := hdep ⟨9, .data⟩ (by simp) rfl _ rfl
   have g7 : x 16 = .bool false := hdep ⟨7, .guard⟩ (by simp) rfl _ rfl
   clear hdep
   simp only [lay, Act.put, List.setIfInBounds_toArray, List.set_cons_zero, List.set_cons_succ, g8, g9, g7] at hK ⊢
   have hW : Below w.heap.size w W := hb0 ▸ hR.1
   go_simp
   refine (HS.out W hW).mono ?_; rintro e w9 ⟨rfl, hb9⟩
   exact hK _ _ (hR.next hb9) (fun _ _ _ h => h) rfl
  ·intro x W hR hdep K hK
   have g7 : x 16 = .bool false := hdep ⟨7, .data⟩ (by simp) rfl _ rfl
   have g10 : x 19 = .bool false := hdep ⟨10, .data⟩ (by simp) rfl _ rfl
   clear hdep
   simp only [lay, Act.put, List.setIfInBounds_toArray, List.set_cons_zero, List.set_cons_succ, g7, g10] at hK ⊢
   skip
   go_simp
   exact hK _ _ hR (fun _ _ _ h => h) rfl
 case refine_4 =>
  intro x W hR hall
  have e0 : x 9 = .agg #[.int .i64 k1, bv1, kv1, .bool la1, .int .i64 o1, dv1] := hall 0 _ rfl
  have e1 : x 10 = .agg #[.int .i64 k2, bv2, kv2, .bool la2, .int .i64 o2, dv2] := hall 1 _ rfl
  have e2 : x 11 = .bool q := hall 2 _ rfl
  have e3 : x 12 = .agg #[.int .i64 k1, bv1, kv1, .bool la1, .int .i64 o1, dv1] := hall 3 _ rfl
  have e4 : x 13 = .agg #[.int .i64 k2, bv2, kv2, .bool la2, .int .i64 o2, dv2] := hall 4 _ rfl
  have e5 : x 14 = .bool q := hall 5 _ rfl
  have e6 : x 15 = .bool false := hall 6 _ rfl
  have e7 : x 16 = .bool false := hall 7 _ rfl
  have e8 : x 17 = .agg #[.int .i64 k2, bv2, kv2, .bool la2, .int .i64 o2, dv2] := hall 8 _ rfl
  have e9 : x 18 = .agg #[.int .i64 k2, bv2, kv2, .bool la2, .int .i64 o2, dv2] := hall 9 _ rfl
  have e10 : x 19 = .bool false := hall 10 _ rfl
  have e11 : x 20 = .bool false := hall 11 _ rfl
  clear hall
  simp only [lay, Act.put, List.setIfInBounds_toArray, List.set_cons_zero, List.set_cons_succ, e0, e1, e2, e3, e4, e5, e6, e7, e8, e9, e10, e11]
  clear e0 e1 e2 e3 e4 e5 e6 e7 e8 e9 e10 e11
  have HA := Lib.hid hR.1
  have R0 := Lib.hid hR.2.1
  have R1 := Lib.hid hR.2.2.1
  have hs0 := hR.2.2.2
  clear hR HR HU HV HS
  go_wp2_with (first | ((with_reducible show wpList _ _ _ (Oper.mk _ (Op.load 25 (Operand.tmp 2)) _ _ _ _ :: _) _ _); refine wpList_load_row rfl 25 _ rfl b0 rfl _ _ _ _ R0.out Tryz.underlying25 rfl (by kernel_rfl) ?_) | ((with_reducible show wpList _ _ _ (Oper.mk _ (Op.load 25 (Operand.tmp 3)) _ _ _ _ :: _) _ _); refine wpList_load_row rfl 25 _ rfl b1 rfl _ _ _ _ R1.out Tryz.underlying25 rfl (by kernel_rfl) ?_))
  refine (HC.out W (hb0 ▸ HA.out)).mono ?_; rintro e w1 ⟨⟨r1, n1, rfl, hn1⟩, hw⟩
  have R0a := Lib.hid (rowStay R0.out hw)
  have R1a := Lib.hid (rowStay R1.out hw)
  have HA1 := Lib.hid (show Below b0 w w1 from HA.out.trans (hw.mono (by omega)))
  have HN1 := Lib.hid hn1
  clear hw hn1 R0 R1 HA HC hs0
  go_wp2_with (first | ((with_reducible show wpList _ _ _ (Oper.mk _ (Op.load 25 (Operand.tmp 2)) _ _ _ _ :: _) _ _); refine wpList_load_row rfl 25 _ rfl b0 rfl _ _ _ _ R0a.out Tryz.underlying25 rfl (by kernel_rfl) ?_) | ((with_reducible show wpList _ _ _ (Oper.mk _ (Op.load 25 (Operand.tmp 3)) _ _ _ _ :: _) _ _); refine wpList_load_row rfl 25 _ rfl b1 rfl _ _ _ _ R1a.out Tryz.underlying25 rfl (by kernel_rfl) ?_))
  refine (HD.out w1 (hb0 ▸ HA1.out)).mono ?_; rintro e w2 ⟨⟨r2, n2, rfl, hn2⟩, hw⟩
  have HA2 := Lib.hid (show Below b0 w w2 from HA1.out.trans (hw.mono (by have := HA1.out.size; omega)))
  obtain ⟨rfl, rfl⟩ := checkN_same HN1.out hn2
  clear hw hn2 HN1 R0a R1a HA1 HD
  go_wp2_with fail
  go_ret
  exact ⟨rfl, by rw [hb0]; exact HA2.out⟩

set_option maxRecDepth 100000 in
theorem clashChecks_call {H : Type} (enc : TypeId × Value → H) (W : World) (base : Nat) (args : Array Value) (ds : List (DataW H)) (p : List MemPlace)
  (hval : ∀ (j : Nat) t v, Tryz.f3.params[j]? = some t → args[j]? = some v → Value.okWide Tryz.prog W .any base t v)
  (hA : DataW.TrodAll enc Tryz.prog W 0 (fun _ => true) true Tryz.f3.params.toList args.toList ds p) (hlt : ∀ x ∈ p, x.block < W.heap.size)
  (hz : (DataW.weightsEach Tryz.prog Tryz.f3.params.toList ds).all (· ≤ reachBytes) = true) :
  Calls Tryz.prog 3 args W (Trues W) := by
 rw [Tryz.params3] at hA hval hz
 obtain ⟨v0, v1, d0, d1, p0, p1, rfl, rfl, rfl, h0, h1⟩ := trodAll_two hA
 have hz1 : ∀ q ∈ DataW.weightsEach Tryz.prog [25, 25] [d0, d1], q ≤ reachBytes := fun q hq => of_decide_eq_true (List.all_eq_true.1 hz q hq)
 simp only [DataW.weightsEach, List.append_nil, List.mem_append] at hz1
 obtain ⟨a, ha, hla⟩ := open_call (hval 0 25 v0 rfl rfl) h0 (fun x hx => hlt x (by simp [hx])) (fun q hq => hz1 q (.inl hq))
 obtain ⟨b, hb, hlb⟩ := open_call (hval 1 25 v1 rfl rfl) h1 (fun x hx => hlt x (by simp [hx])) (fun q hq => hz1 q (.inr hq))
 exact clashChecks_walk a b v0 v1 W ha hb hla hlb

set_option maxRecDepth 100000 in
theorem clashChecks_lifted (os : Os) (started : os.Started) (H : Type) (enc : TypeId × Value → H) :
  ReturnsInHanded {} Tryz.checked os 3 .any (Rows.clashChecksSpec.pre6 enc Tryz.prog Tryz.f3 Rows.clashChecksRow.domain false) (Rows.clashChecksSpec.post enc Tryz.prog Tryz.f3 false true false false) := by
 refine returnsInHanded_of_change_sized (C := Tryz.checked) own started (by kernel_rfl) Tryz.func3
  (ChangeSpec.witness6 (enc := enc) (C := Tryz.checked) false ⟨#[], #[.agg #[.int .i64 0, .slice none 0 0, .slice none 0 0, .bool false, .int .i64 0, .slice none 0 0], .agg #[.int .i64 0, .slice none 0 0, .slice none 0 0, .bool false, .int .i64 0, .slice none 0 0]], []⟩ 40 (by kernel_rfl) (by kernel_rfl) (by kernel_rfl) (by kernel_rfl)) ?_
 intro W base args ds gs before hval0 hW hcnd hz _
 have hW' := hW
 obtain ⟨p, q, hA0, hV, rfl, hfz, hnd⟩ := hW
 have hA : DataW.TrodAll enc Tryz.prog W 0 (fun _ => true) true Tryz.f3.params.toList args.toList ds p := hA0
 obtain ⟨rfl, rfl⟩ := trodVars_none hV
 have hz' : (DataW.weightsEach Tryz.prog Tryz.f3.params.toList ds).all (· ≤ reachBytes) = true := by
  have e1 : Tryz.f3.params.toList ++ Rows.clashChecksSpec.plain.varTypes Tryz.prog = Tryz.f3.params.toList := List.append_nil _
  rw [← e1, ← List.append_nil ds]
  exact hz
 refine (clashChecks_call enc W base args ds p hval0 hA (fun x hx => hW'.lt x (by simpa using hx)) hz').mono fun e W' h => ⟨_, h.1, ?_⟩
 refine post_of_trues laidOut _ rfl Tryz.underlying4 (by decide +kernel) rfl hW' ?_ h.2
 have hA' := hA
 rw [Tryz.params3] at hA'
 obtain ⟨v0, v1, d0, d1, p0, p1, rfl, rfl, _⟩ := trodAll_two hA'
 rfl

theorem clashChecks_holds : Rows.ClashChecksSaid :=
 OpenClaim.holds_of_wide 3 Tryz.f3 rfl rfl rfl rfl rfl rfl rfl ⟨rfl, rfl, rfl, rfl, rfl⟩ rfl rfl rfl rfl rfl (by kernel_rfl) Tryz.func3 (by kernel_rfl)
  (of_decide_eq_true (by kernel_rfl)) (by unfold Func.isWrapper; first | (rw [if_pos (by decide +kernel)]; kernel_rfl) | (rw [if_neg (by decide +kernel)]; exact ⟨rfl, rfl⟩))
  (fun os started H enc _ => clashChecks_lifted os started H enc)
#print axioms clashChecks_holds
end Go.Proofs.YtjogmckaakkomaaGreat
