/- The path of a leaf, by the program: path.Prove. No condition. -/
import Derived.Test.YtahenngmaoellaaN39
import Derived.Test.YtahenngmaoellaaN45
import Derived.Test.YtahenngmaoellaaN46
set_option linter.all false
set_option maxRecDepth 100000
set_option maxHeartbeats 8000000
namespace Go.Proofs.Ytahenngmaoellaa
open Go.ChangeShapes Go.WideShapes Go.ChangeAt Go.RowKit Go.Joins Go.Shelf Go.Maps
open Go.Lib (hid)
attribute [local go_sem] Oper.semAt_some
theorem TreeV.rowsZ_at {t : TreeV} (h : t.validE = 0) (kz z1 z2 zs : List Int) {k : Nat} (hk : k < (t.rowsOf zs.length).length) : (t.rowsZ kz z1 z2 zs).getD k [] = t.lvlZ kz z1 z2 (t.leafZ kz z1 z2 zs) k ∧ k < (t.rowsZ kz z1 z2 zs).length := by
 unfold TreeV.rowsZ
 rw [if_pos h]
 have h2 : k < (t.allC kz z1 z2 zs ((t.rowsOf zs.length).length - 1 + 1)).length := by rw [TreeV.allC_length]; omega
 refine ⟨?_, by rw [List.length_map]; exact h2⟩
 have h1 := TreeV.allC_at t kz z1 z2 zs (m := (t.rowsOf zs.length).length - 1 + 1) (i := k) (by omega)
 rw [List.getD_eq_getElem?_getD, List.getElem?_eq_getElem h2, Option.getD_some] at h1
 rw [List.getD_eq_getElem?_getD, List.getElem?_map, List.getElem?_eq_getElem h2, Option.map_some, Option.getD_some, h1, TreeV.lvl_is]
 unfold TreeV.callsR TreeV.rowC TreeV.rowZ
 rw [List.map_map]
 rfl
/-- The lists of a path, one behind the other: before, after, before, .. -/
def TreeV.llZ (t : TreeV) (kz z1 z2 zs : List Int) (leaf : Nat) : Nat → List (List (List Int))
 | 0 => []
 | k + 1 => t.llZ kz z1 z2 zs leaf k ++ [(t.stepZ kz z1 z2 zs leaf k).1] ++ [(t.stepZ kz z1 z2 zs leaf k).2]
theorem TreeV.llZ_length (t : TreeV) (kz z1 z2 zs : List Int) (leaf : Nat) : ∀ k, (t.llZ kz z1 z2 zs leaf k).length = k * 2
 | 0 => rfl
 | k + 1 => by simp [TreeV.llZ, TreeV.llZ_length t kz z1 z2 zs leaf k]; omega
theorem TreeV.llZ_at (t : TreeV) (kz z1 z2 zs : List Int) (leaf : Nat) : ∀ m k, k < m → (t.llZ kz z1 z2 zs leaf m).getD (k * 2) [] = (t.stepZ kz z1 z2 zs leaf k).1 ∧ (t.llZ kz z1 z2 zs leaf m).getD (k * 2 + 1) [] = (t.stepZ kz z1 z2 zs leaf k).2
 | m + 1, k, h => by
  have hl := TreeV.llZ_length t kz z1 z2 zs leaf m
  show ((t.llZ kz z1 z2 zs leaf m ++ [_]) ++ [_]).getD _ _ = _ ∧ ((t.llZ kz z1 z2 zs leaf m ++ [_]) ++ [_]).getD _ _ = _
  rw [getD_snoc, getD_snoc, getD_snoc, getD_snoc]
  simp only [List.length_append, List.length_singleton, hl]
  by_cases hk : k = m
  ·subst hk
   rw [if_pos (by omega), if_neg (by omega), if_pos rfl, if_neg (by omega), if_pos rfl]
   exact ⟨rfl, rfl⟩
  ·rw [if_pos (by omega), if_pos (by omega), if_pos (by omega), if_pos (by omega)]
   exact TreeV.llZ_at t kz z1 z2 zs leaf m k (by omega)
theorem two_at {α : Type} (X : List α) (p q r d : α) {n : Nat} (h : X.length = n) : (X ++ [p] ++ [q]).getD n d = p ∧ (X ++ [p] ++ [q]).getD (n + 1) d = q ∧ (X ++ [p] ++ [q]).set n r = X ++ [r] ++ [q] ∧ (X ++ [p] ++ [q]).set (n + 1) r = X ++ [p] ++ [r] := by
 subst h
 refine ⟨?_, ?_, ?_, ?_⟩
 ·rw [getD_snoc, if_pos (by simp), getD_snoc, if_neg (by omega), if_pos rfl]
 ·rw [getD_snoc, if_neg (by simp), if_pos (by simp)]
 ·rw [List.append_assoc, List.set_append_right _ _ (Nat.le_refl _), Nat.sub_self]; simp
 ·rw [List.append_assoc, List.set_append_right _ _ (by omega), Nat.add_sub_cancel_left]; simp
theorem take_more {L : List (List Int)} {f j : Nat} (h : f + j < L.length) : (L.drop f).take (j + 1) = (L.drop f).take j ++ [nthL L (f + j)] := by
 have e : nthL L (f + j) = nthL (L.drop f) j := (nthL_drop L f j).symm
 rw [List.take_add_one, List.getElem?_drop, List.getElem?_eq_getElem h]
 unfold nthL
 rw [List.getD_eq_getElem?_getD, List.getElem?_eq_getElem h]
 rfl
theorem prove_ok (t : TreeV) (kz z1 z2 zs : List Int) (leaf : Nat) (hleaf : (leaf : Int) ≤ 18446744073709551615) (v : Value) (w : World) (h : TreeOk t kz z1 z2 w) (hv : Hold w v zs) (hn : zs.length ≤ 4194304) (he : t.spotE zs.length 0 leaf = 0) :
  Calls Try.prog 5 #[t.val, v, .int .u64 leaf] w fun r w' => ∃ u xs DS, r = .returned (.tuple #[pathVal zs.length leaf u, .int .i64 0]) ∧ (w'.ownsRow w.heap.size 49 2 u ((t.rowsOf zs.length).length - 1) xs ∧ ListsV w.heap.size w' xs (t.llZ kz z1 z2 zs leaf ((t.rowsOf zs.length).length - 1)) DS) ∧ Below w.heap.size w w' := by
 obtain ⟨b0, hb0⟩ : ∃ b0, w.heap.size = b0 := ⟨_, rfl⟩
 obtain ⟨i8, hi8, hz80, hz81, hz82⟩ := info_parts info_u8
 obtain ⟨iS, hiS, hy0, hy1, hy2⟩ := info_parts info_step
 have ht : (zs.length : Int) ≤ 18446744073709551615 := by omega
 have her := err_small h.v hn
 have F := way_facts h.l ht he
 obtain ⟨hkf, h00, i1, i2, hv0⟩ := way_kids h.l ht he
 have hR := TreeV.rows_is her
 have hL := TreeV.leafZ_facts h.v h.l kz z1 z2 zs
 have hlr := TreeV.lvl_rows her kz z1 z2 (leafZ_rows h.v h.l kz z1 z2 zs) hL.2.2
 obtain ⟨m, hm⟩ : ∃ m, (t.rowsOf zs.length).length - 1 = m := ⟨_, rfl⟩
 have hm1 : 1 ≤ m := by have := F.two; omega
 have hm2 : m ≤ 255 := by have := F.most; omega
 have hml : (t.rowsOf zs.length).length = m + 1 := by have := F.two; omega
 have hway := way_stages t h.l zs.length ht leaf he
 rw [hm] at hway
 have HW := hid hway
 have HROWS := hid (fun (W : World) (hb : Below b0 w W) => rows_any t kz z1 z2 zs v W h.l (h.k.below (hb0 ▸ hb)) (h.s.below (hb0 ▸ hb)) (h.p.below (hb0 ▸ hb)) (hv.below (hb0 ▸ hb)) hn)
 have hfew : ∀ k, k < m → ∃ f c d : Nat, (wayS t zs.length leaf (k + 1)).frm = f ∧ (wayS t zs.length leaf (k + 1)).to_ = d ∧ chI t zs.length leaf k = (c : Nat) ∧ f + c < d ∧ d ≤ (t.lvlZ kz z1 z2 (t.leafZ kz z1 z2 zs) k).length ∧ (t.lvlZ kz z1 z2 (t.leafZ kz z1 z2 zs) k).length ≤ 4194305 ∧ (t.rowsZ kz z1 z2 zs).getD k [] = t.lvlZ kz z1 z2 (t.leafZ kz z1 z2 zs) k ∧ k < (t.rowsZ kz z1 z2 zs).length ∧ (∀ j, (nthL (t.lvlZ kz z1 z2 (t.leafZ kz z1 z2 zs) k) j).length ≤ 64) ∧
   t.stepZ kz z1 z2 zs leaf k = (((t.lvlZ kz z1 z2 (t.leafZ kz z1 z2 zs) k).drop f).take c, ((t.lvlZ kz z1 z2 (t.leafZ kz z1 z2 zs) k).drop (f + c + 1)).take (d - (f + c) - 1)) := fun k hk => by
  have hK := hkf k (by omega)
  have hch := chI_eq hK
  have hto := spotIn_to_le (l := t.ln) (by have := (TreeV.valid_facts h.v).2.2.2.2.2.2.2.2.1; have := h.l; unfold TreeV.ln; omega) hR (k := k + 1) (by omega) (by omega) (wayA_lt hR (leaf_span h.l he).2.2.2 (k + 1) (by omega))
  have hlk := hlr k (by omega)
  have hF := TreeV.lvlZ_facts h.v kz z1 z2 hL.1 hL.2.2 k
  have e1 := hK.le
  have e2 := hK.lt
  have hrz := TreeV.rowsZ_at h.v kz z1 z2 zs (k := k) (by omega)
  refine ⟨_, chN t zs.length leaf k, _, rfl, rfl, hch, ?_, ?_, by have := hL.2.1; omega, hrz.1, hrz.2, fun j => ?_, ?_⟩
  ·unfold chN; omega
  ·rw [hlk]; exact hto
  ·unfold nthL
   rw [List.getD_eq_getElem?_getD]
   cases e : (t.lvlZ kz z1 z2 (t.leafZ kz z1 z2 zs) k)[j]? with
   | none => simp
   | some z => exact hF.2.2 z (List.mem_of_getElem? e)
  ·unfold TreeV.stepZ chN
   rw [show (wayS t zs.length leaf (k + 1)).frm + (wayA t.fn (t.rowsOf zs.length) leaf k - (wayS t zs.length leaf (k + 1)).frm) = wayA t.fn (t.rowsOf zs.length) leaf k by omega]
 have HFEW := hid hfew
 have HRW : Hid (∀ k, (wayS t zs.length leaf k).row = k) := hid (fun k => (spotIn_rowat _ _ _ _ _ _).1)
 have HLLS : Hid (∀ k, t.llZ kz z1 z2 zs leaf (k + 1) = t.llZ kz z1 z2 zs leaf k ++ [(t.stepZ kz z1 z2 zs leaf k).1] ++ [(t.stepZ kz z1 z2 zs leaf k).2]) := hid (fun k => rfl)
 have HLL0 : Hid (t.llZ kz z1 z2 zs leaf 0 = []) := hid rfl
 have HLLN : Hid (∀ k, (t.llZ kz z1 z2 zs leaf k).length = k * 2) := hid (t.llZ_length kz z1 z2 zs leaf)
 have hju : IntKind.u64.wrap (zs.length : Int) = (zs.length : Int) := u64_wrap_id _ (by omega) (by omega)
 have HE0 : Hid (t.validE = 0) := hid h.v
 obtain ⟨va, vc, rfl, -, -⟩ := id hv.slice
 rw [hv0] at HROWS
 rw [hm]
 clear F hkf h00 i1 i2 hv0 hm hml hway hfew hR hL hlr her he h hv hn
 unfold TreeV.val pathVal at *
 go_enter Try.func5, Try.ntmps5
 go_upto_region 1 with (fail)
 refine letterW ?_
 intro wA hwA
 have hrT : wA.heap[b0]? = some (.cells #[.int .i64 t.k, .int .i64 t.d, .int .i64 t.f, .int .i64 t.p, .int .u32 t.l, .int .i64 t.i, .slice t.ka t.kl t.kc, .slice t.sa t.sl t.sc, .slice t.pa t.pl t.pc] 26 (0, 0)) := by rw [hwA]; exact (Below.heap_alloc _ _ _ (by simp; omega)).trans (World.alloc_new_at _ _ hb0.symm)
 have hrP : wA.heap[b0 + 1]? = some (.cells #[.int .u64 0, .int .u64 0, .slice none 0 0] 31 (0, 0)) := by rw [hwA]; exact World.alloc_new_at _ _ (by simp; omega)
 have hbA : Below b0 w wA := by rw [hwA, ← hb0]; exact ((Below.refl _ _).alloc (Nat.le_refl _) _).alloc (by simp) _
 have hsA : b0 + 1 < wA.heap.size := (Array.getElem?_eq_some_iff.1 hrP).1
 clear hwA
 go_wp2_with ((with_reducible show wpList _ _ _ (Oper.mk _ (Op.load 26 _) _ _ _ _ :: _) _ _); refine wpList_load_row rfl 26 _ rfl b0 rfl _ _ _ _ hrT Try.underlying26 rfl (by kernel_rfl) ?_)
 refine (HW.out wA).mono ?_; rintro e w2 ⟨g, cap, rfl, hst, hb2⟩
 have hrT2 := rowStay hrT hb2
 have HRP2 := hid (rowStay hrP hb2)
 have HB2 := hid (hbA.trans (hb2.mono (show b0 ≤ wA.heap.size by omega)))
 have HST2 := hid hst
 have hs2 : b0 + 1 < w2.heap.size := by have := hb2.size; omega
 clear hst hb2 hbA hrT hrP HW hsA
 clear wA
 go_wp2_with ((with_reducible show wpList _ _ _ (Oper.mk _ (Op.load 26 _) _ _ _ _ :: _) _ _); refine wpList_load_row rfl 26 _ rfl b0 rfl _ _ _ _ hrT2 Try.underlying26 rfl (by kernel_rfl) ?_)
 refine (HROWS.out w2 HB2.out).mono ?_; rintro e w5 ⟨ru, rvs, rfl, hrw, hb5⟩
 have HRP5 := hid (rowStay HRP2.out hb5)
 have HB5 := hid (HB2.out.trans (hb5.mono (show b0 ≤ w2.heap.size by omega)))
 have HST5 := hid (HST2.out.below hb5)
 have HRV := hid (hrw.le (Nat.zero_le _))
 obtain ⟨ra, rc, rfl, hZi⟩ := hrw.formP
 obtain ⟨bp, hbp⟩ : ∃ bp, w5.heap.size = bp := ⟨_, rfl⟩
 have hs5 : b0 + 1 < bp := by have := hb5.size; omega
 clear hrw hb5 HST2 HRP2 HB2 hrT2 hs2 HROWS
 clear w2
 go_upto_region 9 with (fail)
 refine letterW ?_
 intro wB hwB
 have hpB : wB.heap[bp]? = some (.cells #[.int .u64 zs.length, .int .u64 leaf, .slice none 0 0] 31 (0, 0)) := by rw [hwB]; exact World.alloc_new_at _ _ hbp.symm
 have hbB : Below bp w5 wB := by rw [hwB, ← hbp]; exact (Below.refl _ _).alloc (Nat.le_refl _) _
 have HPB := hid hpB
 have HBB := hid hbB
 clear hwB hpB hbB
 go_wp2_with fail
 go_loopw [49] (fun i wr => ∃ (k : Nat) (u : Value) (xs : List Value) (DS : List (List Value)), i = .int .i64 (k : Nat) ∧ k ≤ m ∧ wr.heap[bp]? = some (.cells #[.int .u64 zs.length, .int .u64 leaf, u] 31 (0, 0)) ∧ wr.ownsRow bp 49 2 u k xs ∧ ListsV bp wr xs (t.llZ kz z1 z2 zs leaf k) DS ∧ Below bp w5 wr) (fun i _ => m - (intOf i).toNat)
 case atStart => exact ⟨0, _, [], [], rfl, Nat.zero_le _, HPB.out, World.ownsRow_nil _ _ _ _, by rw [HLL0.out]; exact ListsV.nil _ _, HBB.out⟩
 case round =>
  clear HPB HBB
  obtain ⟨k, u, xs, DS, rfl, hk, hpb, hown, hls, hb⟩ := hrel
  have hbs : bp ≤ wr.heap.size := by have := hb.size; omega
  have hbp2 : bp < wr.heap.size := (Array.getElem?_eq_some_iff.1 hpb).1
  obtain ⟨ua, uc, rfl⟩ := ownsRow_any hown
  by_cases hlt : k < m
  case pos =>
   have hlt2 : (k : Int) < (m : Int) := by omega
   obtain ⟨f, c, d, hf, hd, hch, hfc, hdl, hl4, hrz, hkr, h64, hsz⟩ := HFEW.out k hlt
   obtain ⟨s0, s1, s2, s3, s4, s5, s6⟩ := HST5.out.2 k hlt
   dsimp only at s0 s1 s2 s3 s4 s5 s6
   rw [HRW.out, show ((k + 1 : Nat) : Int) = (k : Int) + 1 by omega] at s0
   rw [hf] at s2
   rw [hd] at s3
   rw [hch] at s6
   have hll := HLLS.out k
   rw [hsz] at hll
   have hln := HLLN.out k
   have hrow := HRV.out.2.1 k hkr
   rw [hrz] at hrow
   obtain ⟨gR, cR, e1, hgR, hcR⟩ := HRV.out.getP hkr
   simp only [Value.slice.injEq, true_and] at e1
   obtain ⟨rfl, rfl⟩ := e1
   generalize t.lvlZ kz z1 z2 (t.leafZ kz z1 z2 zs) k = R at *
   generalize rvs.getD k undef = X at *
   obtain ⟨Xa, cX, rfl, hX1, hX2, hX3⟩ := hrow.hold
   obtain ⟨gX, oX, rfl, hgX, hX4⟩ := hX3.resolve_left (fun e => by rw [e] at hdl; simp at hdl; omega)
   have HX4 := hid hX4
   have H64 := hid h64
   have HLL := hid hll
   have HLN := hid hln
   have HRW0 := hid hdl
   generalize ((wayS t zs.length leaf (k + 1)).at_ : Int) = A at *
   generalize (wayS t zs.length leaf (k + 1)).last = la at *
   generalize (wayS t zs.length leaf (k + 1)).root = ro at *
   have hgl5 : g < w5.heap.size := HST5.out.1
   have hcl : ∀ o, wr.cell? ⟨g, o, none⟩ = w5.cell? ⟨g, o, none⟩ := fun o => hb.cell (p := ⟨g, o, none⟩) (by show g < bp; omega)
   have c0 := (hcl _).trans s0
   have c1 := (hcl _).trans s1
   have c2 := (hcl _).trans s2
   have c3 := (hcl _).trans s3
   have c4 := (hcl _).trans s4
   have c5 := (hcl _).trans s5
   have c6 := (hcl _).trans s6
   have hglr : g < wr.heap.size := by omega
   have HOWN := hid hown
   have HLS := hid hls
   have HB := hid hb
   have HPB := hid hpb
   have HUB := hid (own_block_lt hown)
   have hdn : (d : Int) ≤ 4194305 := by omega
   have hfd : (f : Int) ≤ d := by omega
   have hdc : (d : Int) ≤ cX := by omega
   have hkZ : (k : Int) < (t.rowsZ kz z1 z2 zs).length := by omega
   clear s0 s1 s2 s3 s4 s5 s6 hcl hf hd hch hrz hsz hll hln hrow hX3 hX4 h64 hdl hown hls hb hpb hX1 hkr
   obtain ⟨bw, hbw⟩ : ∃ bw, wr.heap.size = bw := ⟨_, rfl⟩
   go_upto_region 13 with (fail)
   refine letterW ?_
   intro Y hY
   have hrG : Y.heap[bw]? = some (.cells #[.int .i64 ((k : Int) + 1), .int .u64 A, .int .u64 (f : Nat), .int .u64 (d : Nat), .bool la, .bool ro, .int .u64 (c : Nat)] 46 (0, 0)) := by rw [hY]; exact (Below.heap_alloc _ _ _ (by simp; omega)).trans (World.alloc_new_at _ _ hbw.symm)
   have hrS : Y.heap[bw + 1]? = some (.cells #[.slice none 0 0, .slice none 0 0] 49 (0, 0)) := by rw [hY]; exact World.alloc_new_at _ _ (by simp; omega)
   have hbY : Below bw wr Y := by rw [hY, ← hbw]; exact ((Below.refl _ _).alloc (Nat.le_refl _) _).alloc (by simp) _
   have hsY : bw + 1 < Y.heap.size := (Array.getElem?_eq_some_iff.1 hrS).1
   have hb5Y : Below bp w5 Y := HB.out.trans (hbY.mono (by omega))
   have HBY := hid hbY
   have HB5Y := hid hb5Y
   have HRG := hid hrG
   have HRS := hid hrS
   have t0 : Y.cell? ⟨bw, 0, none⟩ = some (.int .i64 ((k : Int) + 1)) := cell_of_heap hrG 0
   have t2 : Y.cell? ⟨bw, 2, none⟩ = some (.int .u64 (f : Nat)) := cell_of_heap hrG 2
   have t3 : Y.cell? ⟨bw, 3, none⟩ = some (.int .u64 (d : Nat)) := cell_of_heap hrG 3
   have tX : Y.cell? ⟨gR, k, none⟩ = some (.slice (some ⟨gX, oX, none⟩) R.length cX) := (hb5Y.cell (p := ⟨gR, k, none⟩) (by show gR < bp; omega)).trans hcR
   have hgRY : gR < Y.heap.size := by omega
   have hgXY : gX < bp := by omega
   clear hY hrG hrS hbY hb5Y c0 c1 c2 c3 c4 c5 c6 hcR hgR hgX hglr
   go_quiet (fail)
   go_upto_region 14 with (fail)
   refine letterW ?_
   intro V hV
   have hYV : Below Y.heap.size Y V := by rw [hV]; exact below_draws _ _ _
   have HYV := hid hYV
   have hsV : bw + 1 < V.heap.size := by have := hYV.size; omega
   clear hV hYV t0 t2 t3 tX hgRY
   have HVG : Hid (V.heap[bw]? = some (.cells #[.int .i64 ((k : Int) + 1), .int .u64 A, .int .u64 (f : Nat), .int .u64 (d : Nat), .bool la, .bool ro, .int .u64 (c : Nat)] 46 (0, 0))) := hid (rowStay HRG.out HYV.out)
   have HVS : Hid (V.heap[bw + 1]? = some (.cells #[.slice none 0 0, .slice none 0 0] 49 (0, 0))) := hid (rowStay HRS.out HYV.out)
   have hwV : Below bw wr V := HBY.out.trans (HYV.out.mono (by omega))
   have HVP : Hid (V.heap[bp]? = some (.cells #[.int .u64 zs.length, .int .u64 leaf, .slice ua k uc] 31 (0, 0))) := hid (rowStay HPB.out (hbw ▸ hwV))
   have HVU : Hid (V.ownsRow bp 49 2 (.slice ua k uc) k xs) := hid (own_keep HOWN.out (fun q hq => hwV.block q (by have := HUB.out q hq; omega)))
   have HVL : Hid (ListsV bp V xs (t.llZ kz z1 z2 zs leaf k) DS) := hid (HLS.out.below (hbw ▸ hwV))
   have HV5 : Hid (Below bp w5 V) := hid (HB.out.trans (hwV.mono (by omega)))
   have HUBW : Hid (∀ q, (Value.slice ua k uc).ownBlock = some q → q < bw) := hid (fun q hq => by have := HUB.out q hq; omega)
   have HXL := hid (HLS.out.lx.trans HLN.out)
   have HDL := hid (HLS.out.ld.trans HLN.out)
   have hbpw : bp < bw := by omega
   clear hsY hwV HBY HB5Y HRG HRS HYV HPB HOWN HUB HLS HB hbs hbp2 hbw
   clear Y
   clear wr
   go_wp2_with fail
   go_loopw [69] (fun i wr => ∃ (j : Nat) (bv av : Value) (E : List (List Value)), i = .int .i64 (j : Nat) ∧ j ≤ d - f ∧ wr.heap[bw]? = some (.cells #[.int .i64 ((k : Int) + 1), .int .u64 A, .int .u64 (f : Nat), .int .u64 (d : Nat), .bool la, .bool ro, .int .u64 (c : Nat)] 46 (0, 0)) ∧ wr.heap[bw + 1]? = some (.cells #[bv, av] 49 (0, 0)) ∧ wr.heap[bp]? = some (.cells #[.int .u64 zs.length, .int .u64 leaf, .slice ua k uc] 31 (0, 0)) ∧ wr.ownsRow bp 49 2 (.slice ua k uc) k xs ∧ ListsV bp wr (xs ++ [bv] ++ [av]) (t.llZ kz z1 z2 zs leaf k ++ [(R.drop f).take (min j c)] ++ [(R.drop (f + c + 1)).take (j - c - 1)]) E ∧ Below bp w5 wr) (fun i _ => d - f - (intOf i).toNat)
   case atStart => exact ⟨0, _, _, _, rfl, Nat.zero_le _, HVG.out, HVS.out, HVP.out, HVU.out, by rw [Nat.zero_min, List.take_zero, Nat.zero_sub, Nat.zero_sub, List.take_zero]; exact HVL.out.more.more, HV5.out⟩
   case round =>
    clear HVG HVS HVP HVU HVL HV5
    obtain ⟨j, bv, av, E, rfl, hj, hg0, hs0, hp0, hu0, hl0, hb0'⟩ := hrel
    have hX2 := HXL.out
    have hLn : (t.llZ kz z1 z2 zs leaf k).length = k * 2 := HLN.out
    have hdb := hl0.each (k * 2) (by simp [hLn])
    have hda := hl0.each (k * 2 + 1) (by simp [hLn])
    rw [(two_at xs bv av bv undef hX2).1, (two_at _ _ _ [] [] hLn).1] at hdb
    rw [(two_at xs bv av bv undef hX2).2.1, (two_at _ _ _ [] [] hLn).2.1] at hda
    obtain ⟨bva, bvn, bvc, rfl⟩ := own_slice6 hdb.1
    obtain ⟨ava, avn, avc, rfl⟩ := own_slice6 hda.1
    have hs1 : bw + 1 < wr.heap.size := (Array.getElem?_eq_some_iff.1 hs0).1
    have g6 : wr.cell? ⟨bw, 6, none⟩ = some (.int .u64 (c : Nat)) := cell_of_heap hg0 6
    have q0 : wr.cell? ⟨bw + 1, 0, none⟩ = some (.slice bva bvn bvc) := cell_of_heap hs0 0
    have q1 : wr.cell? ⟨bw + 1, 1, none⟩ = some (.slice ava avn avc) := cell_of_heap hs0 1
    have p2 : wr.cell? ⟨bp, 2, none⟩ = some (.slice ua k uc) := cell_of_heap hp0 2
    have hpw : bp < wr.heap.size := by omega
    have HG0 := hid hg0
    have HS0 := hid hs0
    have HP0 := hid hp0
    have HU0 := hid hu0
    have HL0 := hid hl0
    have HB0 := hid hb0'
    have HDB := hid hdb
    have HDA := hid hda
    by_cases hjt : j < d - f
    case pos =>
     have hjt2 : (j : Int) < (d : Int) - (f : Int) := by omega
     obtain ⟨x, hx, hxh⟩ := HX4.out (f + j) (by have := HRW0.out; omega)
     have hz64 := H64.out (f + j)
     have hxw : wr.cell? ⟨gX, oX + (f + j), none⟩ = some x := (hb0'.cell (p := ⟨gX, oX + (f + j), none⟩) (by show gX < bp; omega)).trans hx
     have hxw2 := (hxh.below (hbp ▸ hb0'))
     rw [show oX + (f + j) = oX + f + j by omega] at hxw
     have htk : ((R.drop f).take (j + 1)) = (R.drop f).take j ++ [nthL R (f + j)] := take_more (by have := HRW0.out; omega)
     have htk2 : c < j → (R.drop (f + c + 1)).take (j - c) = (R.drop (f + c + 1)).take (j - c - 1) ++ [nthL R (f + j)] := fun hc => by
      have := take_more (L := R) (f := f + c + 1) (j := j - c - 1) (by have := HRW0.out; omega)
      rw [show j - c - 1 + 1 = j - c by omega, show f + c + 1 + (j - c - 1) = f + j by omega] at this
      exact this
     generalize nthL R (f + j) = z at *
     obtain ⟨xa, xc, rfl, -, -⟩ := id hxw2.slice
     have HXS := hid hxw2.src
     have HXB := hid hxw2.1
     have HTK := hid htk
     have HTK2 := hid htk2
     have hgXw : gX < wr.heap.size := by omega
     clear hg0 hs0 hp0 hu0 hl0 hb0' hdb hda hx hxh hxw2 htk htk2 hX2 hLn
     go_upto_region 18 with (at_builtin; refine wpList_append_now rfl _ _ _ rfl wr wr.heap.size rfl (Below.refl _ _) 5 i8 (.int .u8 0) 1 Try.underlying24 hi8 hz80 hz81 hz82 rfl (.slice none 0 0) 0 [] rfl (World.ownsRow_nil _ _ _ _) _ _ _ rfl HXS.out (by unfold maxLen; omega) (by omega) ?_; intro v' w' hown' hb')
     have hown2 : w'.ownsRow wr.heap.size 5 1 v' z.length (z.map encB) := by simpa using hown'
     have hOB : OwnB wr.heap.size w' v' z := ⟨HXB.out, fresh_of_own hown2⟩
     obtain ⟨da, dn, dc, rfl⟩ := own_slice6 hown2
     have hg1 := rowStay HG0.out hb'
     have hs1' := rowStay HS0.out hb'
     have hp1 := rowStay HP0.out hb'
     have HU1 := hid (own_keep HU0.out (fun q hq => hb'.block q (own_block_lt HU0.out q hq)))
     have HL1 := hid (HL0.out.below hb')
     have HB1 := hid (HB0.out.trans (hb'.mono (by omega)))
     have HNEW := hid (show ∀ g, (Value.slice da dn dc).ownBlock = some g → ∀ b i, (dgV E b i).ownBlock ≠ some g from fun g hg b i e => by
      have := (ownB_lt hOB g hg).1
      have := (HL0.out.dlt b i g e).2
      omega)
     have HOB := hid (hOB.le (show bp ≤ wr.heap.size by omega))
     have hdb1 := HDB.out.1
     have hda1 := HDA.out.1
     have HDB1 := hid (own_keep hdb1 (fun q hq => hb'.block q (own_block_lt hdb1 q hq)))
     have HDA1 := hid (own_keep hda1 (fun q hq => hb'.block q (own_block_lt hda1 q hq)))
     have hbp' : bp ≤ w'.heap.size := by have := hb'.size; omega
     have hs2' : bw + 1 < w'.heap.size := by have := hb'.size; omega
     have n6 : w'.cell? ⟨bw, 6, none⟩ = some (.int .u64 (c : Nat)) := cell_of_heap hg1 6
     have n0 : w'.cell? ⟨bw + 1, 0, none⟩ = some (.slice bva bvn bvc) := cell_of_heap hs1' 0
     have n1 : w'.cell? ⟨bw + 1, 1, none⟩ = some (.slice ava avn avc) := cell_of_heap hs1' 1
     have HG1 := hid hg1
     have HS1 := hid hs1'
     have HP1 := hid hp1
     have hjw : IntKind.u64.wrap (j : Int) = (j : Int) := u64_wrap_id _ (by omega) (by omega)
     have hln8 : ((R.drop f).take (min j c)).length ≤ 8388608 ∧ ((R.drop (f + c + 1)).take (j - c - 1)).length ≤ 8388608 := by simp only [List.length_take]; omega
     obtain ⟨hln8a, hln8b⟩ := hln8
     clear hown' hown2 hOB hg1 hs1' hp1 hdb1 hda1 hb' HG0 HS0 HP0 HU0 HB0 HDB HDA g6 q0 q1 p2 hxw hgXw HL0 HXS HXB hz64
     by_cases hjc : j < c
     case pos =>
      go_wp2_with (at_builtin; refine wpList_pushV rfl _ _ rfl bp (.slice bva bvn bvc) _ _ (.slice da dn dc) rfl HDB1.out rfl rfl hln8a hbp' ?_; intro v' w'' ho hk hsp hat; obtain ⟨na, nn, nc, rfl⟩ := own_slice6 ho; have stay : ∀ (p : Nat) (cs : Array Value) (T : TypeId), T ≠ 24 → w'.heap[p]? = some (.cells cs T (0, 0)) → w''.heap[p]? = some (.cells cs T (0, 0)) := (fun p cs T hT hp => (hsp.block p (Array.getElem?_eq_some_iff.1 hp).1 (fun e => own_off HDB1.out hp hT p e rfl)).trans hp); have hst1 := stay _ _ _ (by decide) HS1.out; have n0 : w''.cell? ⟨bw + 1, 0, none⟩ = some (.slice bva bvn bvc) := cell_of_heap hst1 0; obtain ⟨-, fz⟩ := blockC hst1; have hs9 : bw + 1 < w''.heap.size := (Array.getElem?_eq_some_iff.1 hst1).1; have HSTAY := hid stay; have HHO := hid ho; have HHK := hid hk; have HHSP := hid hsp; have HHAT := hid hat; have HST1 := hid hst1; clear ho hk hsp hat stay hst1)
      have hbu := (But.refl (bw + 1) w'').set 0 (.slice na nn nc)
      have a1 := two_at xs (.slice bva bvn bvc) (.slice ava avn avc) (.slice na nn nc) undef HXL.out
      have a2 := two_at (t.llZ kz z1 z2 zs leaf k) ((R.drop f).take (min j c)) ((R.drop (f + c + 1)).take (j - c - 1)) (((R.drop f).take (min j c)) ++ [z]) [] HLN.out
      have hP := ListsV.put (v' := .slice na nn nc) (x := .slice da dn dc) (z := z) (a := (k * 2)) HL1.out (by simp [HLN.out]) (by rw [a2.1]; exact HHO.out) HOB.out HHK.out (by rw [a1.1]; exact HHSP.out) (by rw [a1.1]; exact HHAT.out) HNEW.out
      rw [a1.2.2.1, a2.1, a2.2.2.1] at hP
      have e9 : (R.drop f).take (min j c) ++ [z] = (R.drop f).take (min (j + 1) c) := by rw [Nat.min_eq_left (by omega), Nat.min_eq_left (by omega), HTK.out]
      rw [e9, show j - c - 1 = j + 1 - c - 1 by omega] at hP
      have hu9 : (w''.setCell ⟨bw + 1, 0, none⟩ (.slice na nn nc)).ownsRow bp 49 2 (.slice ua k uc) k xs := own_keep (own_keep HU1.out (own_spare HDB1.out HU1.out (by decide) HHSP.out)) (fun q hq => hbu.block q (by have := HUBW.out q hq; omega) (by have := HUBW.out q hq; omega))
      exact ⟨⟨j + 1, .slice na nn nc, .slice ava avn avc, _, by go_num, by omega, (hbu.block bw (by omega) (by omega)).trans (HSTAY.out _ _ _ (by decide) HG1.out), block_setCell HST1.out _, (hbu.block bp (by omega) (by omega)).trans (HSTAY.out _ _ _ (by decide) HP1.out), hu9, hP.off HST1.out (by decide) (by decide) hbu, (HB1.out.trans HHK.out.below).setCell (by show bp ≤ bw + 1; omega) _⟩, by simp [intOf]; omega⟩
     have hjc2 : (j < c) = False := eq_false hjc
     by_cases hcj : c < j
     case pos =>
      go_wp2_with (at_builtin; refine wpList_pushV rfl _ _ rfl bp (.slice ava avn avc) _ _ (.slice da dn dc) rfl HDA1.out rfl rfl hln8b hbp' ?_; intro v' w'' ho hk hsp hat; obtain ⟨na, nn, nc, rfl⟩ := own_slice6 ho; have stay : ∀ (p : Nat) (cs : Array Value) (T : TypeId), T ≠ 24 → w'.heap[p]? = some (.cells cs T (0, 0)) → w''.heap[p]? = some (.cells cs T (0, 0)) := (fun p cs T hT hp => (hsp.block p (Array.getElem?_eq_some_iff.1 hp).1 (fun e => own_off HDA1.out hp hT p e rfl)).trans hp); have hst1 := stay _ _ _ (by decide) HS1.out; have n0 : w''.cell? ⟨bw + 1, 1, none⟩ = some (.slice ava avn avc) := cell_of_heap hst1 1; obtain ⟨-, fz⟩ := blockC hst1; have hs9 : bw + 1 < w''.heap.size := (Array.getElem?_eq_some_iff.1 hst1).1; have HSTAY := hid stay; have HHO := hid ho; have HHK := hid hk; have HHSP := hid hsp; have HHAT := hid hat; have HST1 := hid hst1; clear ho hk hsp hat stay hst1)
      have hbu := (But.refl (bw + 1) w'').set 1 (.slice na nn nc)
      have a1 := two_at xs (.slice bva bvn bvc) (.slice ava avn avc) (.slice na nn nc) undef HXL.out
      have a2 := two_at (t.llZ kz z1 z2 zs leaf k) ((R.drop f).take (min j c)) ((R.drop (f + c + 1)).take (j - c - 1)) (((R.drop (f + c + 1)).take (j - c - 1)) ++ [z]) [] HLN.out
      have hP := ListsV.put (v' := .slice na nn nc) (x := .slice da dn dc) (z := z) (a := (k * 2 + 1)) HL1.out (by simp [HLN.out]) (by rw [a2.2.1]; exact HHO.out) HOB.out HHK.out (by rw [a1.2.1]; exact HHSP.out) (by rw [a1.2.1]; exact HHAT.out) HNEW.out
      rw [a1.2.2.2, a2.2.1, a2.2.2.2] at hP
      have e9 : (R.drop (f + c + 1)).take (j - c - 1) ++ [z] = (R.drop (f + c + 1)).take (j + 1 - c - 1) := by rw [show j + 1 - c - 1 = j - c by omega, HTK2.out (by omega)]
      rw [e9, show min j c = min (j + 1) c by omega] at hP
      have hu9 : (w''.setCell ⟨bw + 1, 1, none⟩ (.slice na nn nc)).ownsRow bp 49 2 (.slice ua k uc) k xs := own_keep (own_keep HU1.out (own_spare HDA1.out HU1.out (by decide) HHSP.out)) (fun q hq => hbu.block q (by have := HUBW.out q hq; omega) (by have := HUBW.out q hq; omega))
      exact ⟨⟨j + 1, .slice bva bvn bvc, .slice na nn nc, _, by go_num, by omega, (hbu.block bw (by omega) (by omega)).trans (HSTAY.out _ _ _ (by decide) HG1.out), block_setCell HST1.out _, (hbu.block bp (by omega) (by omega)).trans (HSTAY.out _ _ _ (by decide) HP1.out), hu9, hP.off HST1.out (by decide) (by decide) hbu, (HB1.out.trans HHK.out.below).setCell (by show bp ≤ bw + 1; omega) _⟩, by simp [intOf]; omega⟩
     have hcj2 : (c < j) = False := eq_false hcj
     obtain rfl : j = c := by omega
     go_wp2_with fail
     refine ⟨⟨j + 1, _, _, E, by go_num, by omega, HG1.out, HS1.out, HP1.out, HU1.out, ?_, HB1.out⟩, by simp [intOf]; omega⟩
     have hq := HL1.out
     rw [show min j j = min (j + 1) j by omega, show j - j - 1 = j + 1 - j - 1 by omega] at hq
     exact hq
    obtain rfl : j = d - f := by omega
    have hu1 : (Value.slice bva bvn bvc).oneCell' = true ∧ (Value.slice ava avn avc).oneCell' = true := ⟨rfl, rfl⟩
    clear hg0 hs0 hp0 hu0 hl0 hb0' hdb hda hX2 hLn
    have hm3 : (k : Int) + 1 ≤ 256 := by omega
    have hbpw2 : bp ≤ wr.heap.size := by omega
    go_wp2_with (at_builtin; refine wpList_push rfl _ _ _ rfl bp 49 (by decide) iS _ 2 48 Try.underlying29 hiS hy0 hy1 hy2 rfl (by decide) (.slice ua k uc) k xs [.slice bva bvn bvc, .slice ava avn avc] _ rfl HU0.out rfl rfl (by simp [Value.oneCell']) (by unfold maxLen; omega) (by omega) hbpw2 ?_; intro v' w' ho hk hsp; obtain ⟨na, nn, nc, rfl⟩ := own_slice6 ho; have hst1 : w'.heap[bp]? = some (.cells #[.int .u64 zs.length, .int .u64 leaf, .slice ua k uc] 31 (0, 0)) := (hsp.block bp hpw (fun e => own_off HU0.out HP0.out (by decide) bp e rfl)).trans HP0.out; have n2 : w'.cell? ⟨bp, 2, none⟩ = some (.slice ua k uc) := cell_of_heap hst1 2; obtain ⟨-, fz⟩ := blockC hst1; have hs9 : bp < w'.heap.size := (Array.getElem?_eq_some_iff.1 hst1).1; have HHO := hid ho; have HHK := hid hk; have HHSP := hid hsp; have HST1 := hid hst1; clear ho hk hsp hst1)
    have hbu := (But.refl bp w').set 2 (.slice na nn nc)
    have hlx : ListsV bp w' (xs ++ [.slice bva bvn bvc] ++ [.slice ava avn avc]) _ E := HL0.out.keep HHK.out (fun a q hq => HHSP.out.block q (HL0.out.xlt a q hq).2 (fun e => by
     obtain ⟨cc, hcc⟩ := own_block_at HU0.out q e
     exact HL0.out.xoff hcc (by decide) a q hq rfl))
    have hly := hlx.off HST1.out (by decide) (by decide) hbu
    rw [show min (d - f) c = c by omega, show d - f - c - 1 = d - (f + c) - 1 by omega, ← HLL.out] at hly
    have hu9 : (w'.setCell ⟨bp, 2, none⟩ (.slice na nn nc)).ownsRow bp 49 2 (.slice na nn nc) (k + 1) (xs ++ [.slice bva bvn bvc] ++ [.slice ava avn avc]) := by
     have e : xs ++ [Value.slice bva bvn bvc] ++ [.slice ava avn avc] = xs ++ [.slice bva bvn bvc, .slice ava avn avc] := by simp
     rw [e]
     exact own_keep HHO.out (fun q hq => hbu.block q (own_block_lt HHO.out q hq) (fun e => own_off HHO.out HST1.out (by decide) q hq e))
    exact ⟨⟨k + 1, _, _, E, by go_num, by omega, block_setCell HST1.out _, hu9, hly, (HB0.out.trans HHK.out.below).setCell (Nat.le_refl _) _⟩, by simp [intOf]; omega⟩
  obtain rfl : m = k := by omega
  have HOWN := hid hown
  have HLS := hid hls
  have HPB := hid hpb
  have hRB := rowStay HRP5.out (hbp ▸ hb)
  have HBV := hid (HB5.out.trans (hb.mono (show b0 ≤ bp by omega)))
  obtain ⟨cR, fR⟩ := blockC hRB
  obtain ⟨cP, fP⟩ := blockC hpb
  have hs0 : b0 + 1 < wr.heap.size := by omega
  have HRB := hid hRB
  clear hown hls hpb hRB hb
  go_wp2_with fail
  have hbu := ((((But.refl (b0 + 1) wr).set 0 (.int .u64 zs.length)).set 1 (.int .u64 leaf)).set 2 (.slice ua m uc))
  exact bodyPost_ret (results_row_tmp rfl _ _ _ _ _ _ _ rfl (block_set3 HRB.out _ _ _) Try.underlying31 rfl (by kernel_rfl)) rfl ⟨_, xs, DS, rfl, by rw [hb0]; exact ⟨ownsRow_le (own_keep HOWN.out (fun q hq => hbu.block q (own_block_lt HOWN.out q hq) (by have := own_block_ge HOWN.out q hq; omega))) (by omega), (HLS.out.off HRB.out (by decide) (by decide) hbu).le (by omega)⟩, by rw [hb0]; exact below_set3 HBV.out (by omega) _ _ _⟩
end Go.Proofs.Ytahenngmaoellaa
