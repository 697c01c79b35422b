/- What a path leads to, by the program: path.Root. No condition. -/
import Derived.Test.YtahenngmaoellaaN43
import Derived.Test.YtahenngmaoellaaN42
import Derived.Test.YtahenngmaoellaaN44
import Derived.Deep.DeepCutAuto
import Derived.Test.YtahenngmaoellaaN39
set_option linter.all false
set_option maxRecDepth 100000
set_option maxHeartbeats 8000000
namespace Go.Proofs.Ytahenngmaoellaa
open Go.ChangeShapes Go.WideShapes Go.ChangeAt Go.RowKit Go.Joins Go.Shelf Go.Maps
open Go.Lib (hid)
attribute [local go_sem] Oper.semAt_some
/-- What comes up a way. -/
def TreeV.pathR (t : TreeV) (kz z1 z2 : List Int) (total leaf : Nat) (ss : List StepV) (piece : List Int) : Nat → List Int
 | 0 => t.giveZ kz z1 z2 (wayS t total leaf 0) piece
 | k + 1 => t.giveZ kz z1 z2 (wayS t total leaf (k + 1)) (midL (nths ss k) (t.pathR kz z1 z2 total leaf ss piece k))
/-- What a node of the way is handed. -/
def pathD (t : TreeV) (kz z1 z2 : List Int) (total leaf : Nat) (ss : List StepV) (piece : List Int) : Nat → List Int
 | 0 => piece
 | k + 1 => t.pathR kz z1 z2 total leaf ss piece k
theorem spotOk_way {t : TreeV} (hl : 0 ≤ t.l ∧ t.l ≤ 4294967295) {total leaf : Nat} (ht : (total : Int) ≤ 18446744073709551615) (h : t.spotE total 0 leaf = 0) {k : Nat} (hk : k < (t.rowsOf total).length) : SpotOk t total (wayS t total leaf k) := by
 have her : t.err total = 0 := by
  by_cases h' : t.err total = 0
  ·exact h'
  ·unfold TreeV.spotE at h; rw [if_pos h'] at h; exact absurd h h'
 have hleaf : leaf < nth (t.rowsOf total) 0 := by
  unfold TreeV.spotE at h
  rw [if_neg (by simp [her])] at h
  by_cases hth : t.there total 0 leaf
  ·exact hth.2.2
  ·rw [if_neg hth] at h; omega
 have hR := TreeV.rows_is her
 obtain ⟨q1, q2, q3, q4, -⟩ := way_step her hleaf hk
 have hP := TreeV.parOk3 hl ht her hk (wayA_lt hR hleaf k hk)
 refine ⟨by rw [q3, q4]; exact hP.1, by rw [q3]; exact hP.2, by rw [q3, q4]; exact q1, by rw [q3, q4]; exact q2⟩
theorem TreeV.giveZ_len {t : TreeV} (h : t.validE = 0) (kz z1 z2 : List Int) (S : SpotV) (ds : List Int) : (t.giveZ kz z1 z2 S ds).length ≤ 64 ∧ t.giveZ kz z1 z2 S ds ≠ [] := by
 have h1 := TreeV.node_lenE h kz z1 z2 S.row S.at_ S.last S.root ds
 have h2 := TreeV.outN_ok h S.root
 have h3 : mB t.big ≤ 64 := by cases t.big <;> decide
 refine ⟨?_, fun e => ?_⟩
 ·show (t.node _ _ _ _ _ _ _ _).length ≤ 64; omega
 ·have : (t.node kz z1 z2 S.row S.at_ S.last S.root ds).length = 0 := by
   have e2 : t.node kz z1 z2 S.row S.at_ S.last S.root ds = [] := e
   rw [e2]; rfl
  omega
theorem TreeV.pathR_len {t : TreeV} (h : t.validE = 0) (kz z1 z2 : List Int) (total leaf : Nat) (ss : List StepV) (piece : List Int) (k : Nat) : (t.pathR kz z1 z2 total leaf ss piece k).length ≤ 64 ∧ t.pathR kz z1 z2 total leaf ss piece k ≠ [] := by
 cases k <;> exact TreeV.giveZ_len h ..
theorem info_fn : (Try.prog.info? 67).map (fun i => (i.zero, i.size, i.bytes)) = some (some .nilFunc, 1, 8) := by kernel_rfl
/-- The functions, the first j + 1. -/
def fnsL (bt bp bl : Nat) (BI BG : Nat → Nat) (j : Nat) : List Value := .func (.func 19) #[] #[.pointer (some ⟨bt, 0, none⟩), .pointer (some ⟨bp, 0, none⟩), .pointer (some ⟨bl, 0, none⟩)] :: (List.range j).map fun i => .func (.func 21) #[] #[.pointer (some ⟨bp, 0, none⟩), .pointer (some ⟨BI i, 0, none⟩), .pointer (some ⟨bt, 0, none⟩), .pointer (some ⟨BG i, 0, none⟩)]
theorem fnsL_succ (bt bp bl : Nat) (BI BG : Nat → Nat) (j x y : Nat) : fnsL bt bp bl (fun i => if i = j then x else BI i) (fun i => if i = j then y else BG i) (j + 1) = fnsL bt bp bl BI BG j ++ [.func (.func 21) #[] #[.pointer (some ⟨bp, 0, none⟩), .pointer (some ⟨x, 0, none⟩), .pointer (some ⟨bt, 0, none⟩), .pointer (some ⟨y, 0, none⟩)]] := by
 unfold fnsL
 rw [List.range_succ, List.map_append, List.cons_append]
 congr 2
 ·refine List.map_congr_left fun i hi => ?_
  have := List.mem_range.1 hi
  show Value.func _ _ #[_, .pointer (some ⟨if i = j then x else BI i, 0, none⟩), _, .pointer (some ⟨if i = j then y else BG i, 0, none⟩)] = _
  rw [if_neg (by omega), if_neg (by omega)]
 ·simp
def stageC (t : TreeV) (total leaf j : Nat) : Array Value := #[.int .i64 ((wayS t total leaf (j + 1)).row : Nat), .int .u64 ((wayS t total leaf (j + 1)).at_ : Nat), .int .u64 ((wayS t total leaf (j + 1)).frm : Nat), .int .u64 ((wayS t total leaf (j + 1)).to_ : Nat), .bool (wayS t total leaf (j + 1)).last, .bool (wayS t total leaf (j + 1)).root, .int .u64 (chI t total leaf j)]
/-- What Root answers. -/
def RootSays (t : TreeV) (kz z1 z2 : List Int) (total leaf : Nat) (ss : List StepV) (piece : List Int) (b : Nat) (w : World) (v : Value) (e : Int) : Prop :=
 (t.spotE total 0 leaf ≠ 0 ∧ e = t.spotE total 0 leaf ∧ v = .slice none 0 0) ∨
 (t.spotE total 0 leaf = 0 ∧ ¬ ((piece.length : Int) = ((wayS t total leaf 0).to_ : Int) - ((wayS t total leaf 0).frm : Int) ∧ FitsP t.i ((t.rowsOf total).length - 1) (chI t total leaf) (afI t total leaf) ss) ∧ e = 4 ∧ v = .slice none 0 0) ∨
 (t.spotE total 0 leaf = 0 ∧ ((piece.length : Int) = ((wayS t total leaf 0).to_ : Int) - ((wayS t total leaf 0).frm : Int) ∧ FitsP t.i ((t.rowsOf total).length - 1) (chI t total leaf) (afI t total leaf) ss) ∧ e = 0 ∧ OwnB b w v (t.pathR kz z1 z2 total leaf ss piece ((t.rowsOf total).length - 1)))
theorem leaf_span {t : TreeV} (hl : 0 ≤ t.l ∧ t.l ≤ 4294967295) {total leaf : Nat} (h : t.spotE total 0 leaf = 0) : (wayS t total leaf 0).frm ≤ (wayS t total leaf 0).to_ ∧ (wayS t total leaf 0).to_ ≤ total ∧ (wayS t total leaf 0).frm = leaf * t.ln ∧ leaf < nth (t.rowsOf total) 0 := by
 have her : t.err total = 0 := by
  by_cases h' : t.err total = 0
  ·exact h'
  ·unfold TreeV.spotE at h; rw [if_pos h'] at h; exact absurd h h'
 have hleaf : leaf < nth (t.rowsOf total) 0 := by
  unfold TreeV.spotE at h
  rw [if_neg (by simp [her])] at h
  by_cases hth : t.there total 0 leaf
  ·exact hth.2.2
  ·rw [if_neg hth] at h; omega
 obtain ⟨hl1, hl2, hln, h0⟩ := TreeV.ok_facts hl her
 have hR := TreeV.rows_is her
 have hn : ¬ (1 ≤ 0 ∧ nth (t.rowsOf total) 0 = 1) := by omega
 unfold wayS wayA
 by_cases h2 : leaf = nth (t.rowsOf total) 0 - 1
 ·rw [spotIn_last' hn h2]
  rw [hR.first] at hleaf
  have := lvs_lt hl1 hleaf
  exact ⟨by simpa using this, by simp, by simp, by rw [hR.first]; exact hleaf⟩
 ·rw [spotIn_mid' hn h2]
  rw [hR.first] at hleaf h2
  have := lvs_lt (total := total) (l := t.ln) (k := leaf + 1) hl1 (by omega)
  refine ⟨?_, by simpa using this, by simp, by rw [hR.first]; exact hleaf⟩
  simp only [if_true]
  exact Nat.mul_le_mul_right _ (by omega)
theorem root_err (t : TreeV) (hl : 0 ≤ t.l ∧ t.l ≤ 4294967295) (total leaf : Nat) (ht : (total : Int) ≤ 18446744073709551615) (he : t.spotE total 0 leaf ≠ 0) (u v : Value) (w : World) :
  Calls Try.prog 9 #[t.val, .agg #[.int .u64 total, .int .u64 leaf, u], v] w fun r w' => r = .returned (.tuple #[.slice none 0 0, .int .i64 (t.spotE total 0 leaf)]) ∧ Below w.heap.size w w' := by
 obtain ⟨b0, hb0⟩ : ∃ b0, w.heap.size = b0 := ⟨_, rfl⟩
 have HW := hid (way_errs t hl total ht leaf he)
 have hq : (t.spotE total 0 leaf != 0) = true := by rw [bne_iff_ne]; exact he
 generalize t.spotE total 0 leaf = ev at *
 clear he
 unfold TreeV.val at *
 go_enter Try.func9, Try.ntmps9
 go_upto_region 1 with (fail)
 refine letterW ?_
 intro wA hwA
 have hrT : wA.heap[b0]? = some (.cells #[.int .i64 t.k, .int .i64 t.d, .int .i64 t.f, .int .i64 t.p, .int .u32 t.l, .int .i64 t.i, .slice t.ka t.kl t.kc, .slice t.sa t.sl t.sc, .slice t.pa t.pl t.pc] 26 (0, 0)) := by rw [hwA]; exact (Below.heap_alloc _ _ _ (by simp; omega)).trans (World.alloc_new_at _ _ hb0.symm)
 have hrP : wA.heap[b0 + 1]? = some (.cells #[.int .u64 total, .int .u64 leaf, u] 31 (0, 0)) := by rw [hwA]; exact World.alloc_new_at _ _ (by simp; omega)
 have hbA : Below b0 w wA := by rw [hwA, ← hb0]; exact ((Below.refl _ _).alloc (Nat.le_refl _) _).alloc (by simp) _
 have hsA : b0 + 1 < wA.heap.size := (Array.getElem?_eq_some_iff.1 hrP).1
 have k0 : wA.cell? ⟨b0 + 1, 0, none⟩ = some (.int .u64 total) := cell_of_heap hrP 0
 have k1 : wA.cell? ⟨b0 + 1, 1, none⟩ = some (.int .u64 leaf) := cell_of_heap hrP 1
 clear hwA
 go_wp2_with ((with_reducible show wpList _ _ _ (Oper.mk _ (Op.load 26 _) _ _ _ _ :: _) _ _); refine wpList_load_row rfl 26 _ rfl b0 rfl _ _ _ _ hrT Try.underlying26 rfl (by kernel_rfl) ?_)
 refine (HW.out wA).mono ?_; rintro e w2 ⟨rfl, hb2⟩
 have HB := hid (hbA.trans (hb2.mono (show b0 ≤ wA.heap.size by omega)))
 clear hb2 hbA
 go_wp2_with fail
 go_ret2
 exact ⟨rfl, by rw [hb0]; exact HB.out⟩
theorem root_ok (t : TreeV) (kz z1 z2 piece : List Int) (total leaf : Nat) (ht : (total : Int) ≤ 18446744073709551615) (hleaf : (leaf : Int) ≤ 18446744073709551615) (he : t.spotE total 0 leaf = 0) (u pv : Value) (ss : List StepV) (w : World) (h : TreeOk t kz z1 z2 w) (hs : StepsAt w u ss) (ho : StepsOk 1048576 ss) (hp : Hold w pv piece) (hpl : piece.length ≤ 1048576) :
  Calls Try.prog 9 #[t.val, .agg #[.int .u64 total, .int .u64 leaf, u], pv] w fun r w' => ∃ v e, r = .returned (.tuple #[v, .int .i64 e]) ∧ RootSays t kz z1 z2 total leaf ss piece w.heap.size w' v e ∧ Below w.heap.size w w' := by
 obtain ⟨b0, hb0⟩ : ∃ b0, w.heap.size = b0 := ⟨_, rfl⟩
 obtain ⟨i0, hi, hz0, hz1, hz2⟩ := info_parts info_fn
 have F := way_facts h.l ht he
 obtain ⟨hkf, h00, i1, i2, hv0⟩ := way_kids h.l ht he
 obtain ⟨m, hm⟩ : ∃ m, (t.rowsOf total).length - 1 = m := ⟨_, rfl⟩
 have hm1 : 1 ≤ m := by have := F.two; omega
 have hm2 : m ≤ 255 := by have := F.most; omega
 have hml : (t.rowsOf total).length = m + 1 := by have := F.two; omega
 have hway := way_stages t h.l total ht leaf he
 rw [hm] at hway
 have HW := hid hway
 have HKI := hid (kid_ints hkf)
 rw [hm] at HKI
 have HSPK := hid (fun (k : Nat) (hk : k ≤ m) => spotOk_way h.l ht he (k := k) (by rw [hml]; omega))
 obtain ⟨S0, hS0⟩ : ∃ S, wayS t total leaf 0 = S := ⟨_, rfl⟩
 have hsp0 := HSPK.out 0 (by omega)
 have hrow0 : (wayS t total leaf 0).row = 0 ∧ (wayS t total leaf 0).at_ = leaf := ⟨(spotIn_rowat _ _ _ _ _ _).1, (spotIn_rowat _ _ _ _ _ _).2.1⟩
 rw [hS0] at hsp0 hrow0
 have hspot := fun (W : World) => spot_any t h.l total ht ((0 : Nat) : Int) leaf W
 rw [show t.spotR total ((0 : Nat) : Int) leaf = S0 by have := hsp0.s; rw [hrow0.1, hrow0.2] at this; exact this, show t.spotE total ((0 : Nat) : Int) leaf = 0 from he] at hspot
 unfold SpotV.val at hspot
 have HSP0 := hid hspot
 have hsp1 := leaf_span h.l he
 rw [hS0] at hsp1
 have h0t : (S0.frm : Int) ≤ S0.to_ ∧ (S0.to_ : Int) ≤ 18446744073709551615 := by omega
 obtain ⟨h0t1, h0t2⟩ := h0t
 have hju : IntKind.u64.wrap (piece.length : Int) = (piece.length : Int) := u64_wrap_id _ (by omega) (by omega)
 have hjs : IntKind.u64.wrap ((S0.to_ : Int) - (S0.frm : Int)) = (S0.to_ : Int) - (S0.frm : Int) := u64_wrap_id _ (by omega) (by omega)
 have HFIT := hid (fun (W : World) (g cap : Nat) (h1 : StepsAt W u ss) (hst : StagesIs W g m (fun j => ((wayS t total leaf (j + 1)).row : Int)) (fun j => ((wayS t total leaf (j + 1)).at_ : Int)) (fun j => ((wayS t total leaf (j + 1)).frm : Int)) (fun j => ((wayS t total leaf (j + 1)).to_ : Int)) (chI t total leaf) (fun j => (wayS t total leaf (j + 1)).last) (fun j => (wayS t total leaf (j + 1)).root)) => fits_any t total leaf u ss W h1 ho g cap m hst.1 hm2 hm1 _ _ _ _ (chI t total leaf) (afI t total leaf) _ _ hst.2 HKI.out)
 have HSAY : Hid (∀ (W : World) (v : Value) (e : Int), RootSays t kz z1 z2 total leaf ss piece b0 W v e ↔ ((t.spotE total 0 leaf ≠ 0 ∧ e = t.spotE total 0 leaf ∧ v = .slice none 0 0) ∨ (t.spotE total 0 leaf = 0 ∧ ¬ ((piece.length : Int) = (S0.to_ : Int) - (S0.frm : Int) ∧ FitsP t.i m (chI t total leaf) (afI t total leaf) ss) ∧ e = 4 ∧ v = .slice none 0 0) ∨ (t.spotE total 0 leaf = 0 ∧ ((piece.length : Int) = (S0.to_ : Int) - (S0.frm : Int) ∧ FitsP t.i m (chI t total leaf) (afI t total leaf) ss) ∧ e = 0 ∧ OwnB b0 W v (t.pathR kz z1 z2 total leaf ss piece m)))) := hid (fun W v e => by unfold RootSays; rw [hS0, hm])
 have HE := hid he
 have HT0 := hid h
 have HS := hid hs
 have HO := hid ho
 have HP := hid hp
 obtain ⟨pa, pc, rfl, -, -⟩ := id hp.slice
 obtain ⟨ua, uc, UU, VV, rfl, hun, -⟩ := id hs
 have HPD : Hid (t.pathR kz z1 z2 total leaf ss piece 0 = t.giveZ kz z1 z2 S0 piece) := hid (by unfold TreeV.pathR; rw [hS0])
 have HS0 := hid hsp0
 have HI12 := hid (⟨i1, i2⟩ : 1 ≤ t.i ∧ t.i ≤ 64)
 have HV0 := hid hv0
 have HR0 := hid hrow0
 clear F hkf h00 i1 i2 hv0 hm hml hway hsp0 hrow0 hspot hsp1 he h hs ho hp hS0 hleaf
 unfold TreeV.val at *
 go_enter Try.func9, Try.ntmps9
 go_upto_region 1 with (fail)
 refine letterW ?_
 intro wA hwA
 have hrT : wA.heap[b0]? = some (.cells #[.int .i64 t.k, .int .i64 t.d, .int .i64 t.f, .int .i64 t.p, .int .u32 t.l, .int .i64 t.i, .slice t.ka t.kl t.kc, .slice t.sa t.sl t.sc, .slice t.pa t.pl t.pc] 26 (0, 0)) := by rw [hwA]; exact (Below.heap_alloc _ _ _ (by simp; omega)).trans (World.alloc_new_at _ _ hb0.symm)
 have hrP : wA.heap[b0 + 1]? = some (.cells #[.int .u64 total, .int .u64 leaf, .slice ua ss.length uc] 31 (0, 0)) := by rw [hwA]; exact World.alloc_new_at _ _ (by simp; omega)
 have hbA : Below b0 w wA := by rw [hwA, ← hb0]; exact ((Below.refl _ _).alloc (Nat.le_refl _) _).alloc (by simp) _
 have hsA : b0 + 1 < wA.heap.size := (Array.getElem?_eq_some_iff.1 hrP).1
 have k0 : wA.cell? ⟨b0 + 1, 0, none⟩ = some (.int .u64 total) := cell_of_heap hrP 0
 have k1 : wA.cell? ⟨b0 + 1, 1, none⟩ = some (.int .u64 leaf) := cell_of_heap hrP 1
 clear hwA
 go_wp2_with ((with_reducible show wpList _ _ _ (Oper.mk _ (Op.load 26 _) _ _ _ _ :: _) _ _); refine wpList_load_row rfl 26 _ rfl b0 rfl _ _ _ _ hrT Try.underlying26 rfl (by kernel_rfl) ?_)
 refine (HW.out wA).mono ?_; rintro e w2 ⟨g, cap, rfl, hst, hb2⟩
 clear k0 k1
 have hrT2 := rowStay hrT hb2
 have hrP2 := rowStay hrP hb2
 have HB2 := hid (hbA.trans (hb2.mono (show b0 ≤ wA.heap.size by omega)))
 have HST := hid hst
 have hs2 : b0 + 1 < w2.heap.size := by have := hb2.size; omega
 have k0 : w2.cell? ⟨b0 + 1, 0, none⟩ = some (.int .u64 total) := cell_of_heap hrP2 0
 have k1 : w2.cell? ⟨b0 + 1, 1, none⟩ = some (.int .u64 leaf) := cell_of_heap hrP2 1
 have HRT2 := hid hrT2
 have HRP2 := hid hrP2
 clear hst hb2 hbA hrT hrP HW hsA
 clear wA
 go_upto_region 4 with (fail)
 go_wp2_with ((with_reducible show wpList _ _ _ (Oper.mk _ (Op.load 26 _) _ _ _ _ :: _) _ _); refine wpList_load_row rfl 26 _ rfl b0 rfl _ _ _ _ hrT2 Try.underlying26 rfl (by kernel_rfl) ?_)
 refine (HSP0.out w2).mono ?_; rintro e w3 ⟨rfl, hb3⟩
 have HRT3 := hid (rowStay HRT2.out hb3)
 have HRP3 := hid (rowStay HRP2.out hb3)
 have HB3 := hid (HB2.out.trans (hb3.mono (show b0 ≤ w2.heap.size by omega)))
 have HST3 := hid (HST.out.below hb3)
 have hs3 : b0 + 1 < w3.heap.size := by have := hb3.size; omega
 clear hb3 hrT2 hrP2 k0 k1 HRT2 HRP2 HB2 HST hs2
 go_upto_region 5 with ((with_reducible show wpList _ _ _ (Oper.mk none (Op.store 44 _ _) _ _ _ _ :: _) _ _); refine wpList_store_row rfl 44 _ _ rfl w3.heap.size #[.int .i64 (S0.row : Nat), .int .u64 (S0.at_ : Nat), .int .u64 (S0.frm : Nat), .int .u64 (S0.to_ : Nat), .bool S0.last, .bool S0.root] rfl rfl 44 _ (World.alloc_heap_new _ _) (by kernel_rfl) rfl (by simp [Value.oneCell']) ?_)
 refine letterW ?_
 intro V hV
 obtain ⟨b3, hb3⟩ : ∃ b3, w3.heap.size = b3 := ⟨_, rfl⟩
 have hrL : V.heap[b3]? = some (.cells #[.int .i64 (S0.row : Nat), .int .u64 (S0.at_ : Nat), .int .u64 (S0.frm : Nat), .int .u64 (S0.to_ : Nat), .bool S0.last, .bool S0.root] 44 (0, 0)) := by rw [hV, ← hb3]; exact setRow_heap _ _ _ _ _ _ (World.alloc_heap_new _ _)
 have hbV : Below b3 w3 V := by rw [hV, ← hb3]; exact below_setRow ((Below.refl _ _).alloc (Nat.le_refl _) _) (Nat.le_refl _) _
 have HRT := hid ((hbV.block b0 (by omega)).trans HRT3.out)
 have HRP := hid ((hbV.block (b0 + 1) (by omega)).trans HRP3.out)
 have HBV := hid (HB3.out.trans (hbV.mono (show b0 ≤ b3 by omega)))
 have HSTV := hid (HST3.out.below (hb3 ▸ hbV))
 have HRL := hid hrL
 rw [hb3]
 have hlt : b0 + 1 < b3 ∧ b3 < V.heap.size := by have := (Array.getElem?_eq_some_iff.1 hrL).1; omega
 obtain ⟨hlt, hVs⟩ := hlt
 have c2 : V.cell? ⟨b3, 2, none⟩ = some (.int .u64 (S0.frm : Nat)) := cell_of_heap hrL 2
 have c3 : V.cell? ⟨b3, 3, none⟩ = some (.int .u64 (S0.to_ : Nat)) := cell_of_heap hrL 3
 have hVs0 : b0 < V.heap.size ∧ b0 + 1 < V.heap.size := by omega
 obtain ⟨hVs0, hVs1⟩ := hVs0
 clear hV hbV hrL hb3 HRT3 HRP3 HB3 HST3 hs3 HSP0
 by_cases hlen : (piece.length : Int) = (S0.to_ : Int) - (S0.frm : Int)
 case neg =>
  have hq : ((piece.length : Int) != (S0.to_ : Int) - (S0.frm : Int)) = true := by rw [bne_iff_ne]; exact hlen
  have HLEN := hid hlen
  clear hlen
  go_wp2_with fail
  go_ret2
  exact ⟨_, _, rfl, by rw [hb0]; exact (HSAY.out _ _ _).2 (.inr (.inl ⟨HE.out, fun h => HLEN.out h.1, rfl, rfl⟩)), by rw [hb0]; exact HBV.out⟩
 have hq : ((piece.length : Int) != (S0.to_ : Int) - (S0.frm : Int)) = false := by rw [hlen]; simp
 have HLEN := hid hlen
 clear hlen
 have tc0 : V.cell? ⟨b0, 0, none⟩ = some (.int .i64 t.k) := cell_of_heap HRT.out 0
 have tc1 : V.cell? ⟨b0, 1, none⟩ = some (.int .i64 t.d) := cell_of_heap HRT.out 1
 have tc2 : V.cell? ⟨b0, 2, none⟩ = some (.int .i64 t.f) := cell_of_heap HRT.out 2
 have tc3 : V.cell? ⟨b0, 3, none⟩ = some (.int .i64 t.p) := cell_of_heap HRT.out 3
 have tc4 : V.cell? ⟨b0, 4, none⟩ = some (.int .u32 t.l) := cell_of_heap HRT.out 4
 have tc5 : V.cell? ⟨b0, 5, none⟩ = some (.int .i64 t.i) := cell_of_heap HRT.out 5
 have tc6 : V.cell? ⟨b0, 6, none⟩ = some (.slice t.ka t.kl t.kc) := cell_of_heap HRT.out 6
 have tc7 : V.cell? ⟨b0, 7, none⟩ = some (.slice t.sa t.sl t.sc) := cell_of_heap HRT.out 7
 have tc8 : V.cell? ⟨b0, 8, none⟩ = some (.slice t.pa t.pl t.pc) := cell_of_heap HRT.out 8
 have pc0 : V.cell? ⟨b0 + 1, 0, none⟩ = some (.int .u64 total) := cell_of_heap HRP.out 0
 have pc1 : V.cell? ⟨b0 + 1, 1, none⟩ = some (.int .u64 leaf) := cell_of_heap HRP.out 1
 have pc2 : V.cell? ⟨b0 + 1, 2, none⟩ = some (.slice ua ss.length uc) := cell_of_heap HRP.out 2
 go_wp2_with fail
 refine (HFIT.out V g cap (HS.out.below (hb0 ▸ HBV.out)) HSTV.out).mono ?_; rintro e w5 ⟨bb, rfl, hbf, hb5⟩
 have HBF := hid hbf
 have HRT5 := hid (rowStay HRT.out hb5)
 have HRP5 := hid (rowStay HRP.out hb5)
 have HRL5 := hid (rowStay HRL.out hb5)
 have HB5 := hid (HBV.out.trans (hb5.mono (show b0 ≤ V.heap.size by omega)))
 have HST5 := hid (HSTV.out.below hb5)
 have hs5 : b3 < w5.heap.size := by have := hb5.size; omega
 clear hbf hb5 HRT HRP HRL HBV HSTV c2 c3 hVs hVs0 hVs1 HFIT tc0 tc1 tc2 tc3 tc4 tc5 tc6 tc7 tc8 pc0 pc1 pc2
 clear V
 cases bb
 case false =>
  go_wp2_with fail
  go_ret2
  exact ⟨_, _, rfl, by rw [hb0]; exact (HSAY.out _ _ _).2 (.inr (.inl ⟨HE.out, fun h => absurd (HBF.out.2 h.2) (by decide), rfl, rfl⟩)), by rw [hb0]; exact HB5.out⟩
 go_upto_region 8 with (fail)
 go_upto_region 9 with (at_builtin; refine wpList_push rfl _ _ _ rfl w5.heap.size 67 (by decide) i0 .nilFunc 1 8 Try.underlying65 hi hz0 hz1 hz2 rfl (by decide) (.slice none 0 0) 0 [] [.func (.func 19) #[] #[.pointer (some ⟨b0, 0, none⟩), .pointer (some ⟨b0 + 1, 0, none⟩), .pointer (some ⟨b3, 0, none⟩)]] _ rfl (World.ownsRow_nil _ _ _ _) rfl rfl (by simp [Value.oneCell']) (by unfold maxLen; omega) (by omega) (Nat.le_refl _) ?_; intro v' w' hown' hkb' hsp')
 have HOWN := hid hown'
 have hbW : Below w5.heap.size w5 w' := ⟨hkb'.os, hkb'.tape, hkb'.output, hkb'.size, fun k hk => hkb'.block k hk⟩
 have HBW := hid hbW
 have hmI : (m : Int) ≤ 255 := by omega
 have hgl5 : g < w5.heap.size := HST5.out.1
 clear hown' hkb' hsp' hbW
 go_wp2_with fail
 go_loopw [61, 12] (fun i v wr => ∃ (j : Nat) (BI BG : Nat → Nat), i = .int .i64 (j : Nat) ∧ j ≤ m ∧ wr.ownsRow w5.heap.size 67 1 v (j + 1) (fnsL b0 (b0 + 1) b3 BI BG j) ∧ (∀ q, q < j → wr.heap[BI q]? = some (.cells #[.int .i64 (q : Nat)] 3 (0, 0)) ∧ wr.heap[BG q]? = some (.cells (stageC t total leaf q) 46 (0, 0))) ∧ Below w5.heap.size w5 wr) (fun i _ _ => m - (intOf i).toNat)
 case atStart => exact ⟨0, fun _ => 0, fun _ => 0, rfl, Nat.zero_le _, HOWN.out, fun q hq => absurd hq (by omega), HBW.out⟩
 case round =>
  clear HOWN HBW
  obtain ⟨j, BI, BG, rfl, hj, hown, hbx, hb⟩ := hrel
  by_cases hlt : j < m
  case pos =>
   have hlt2 : (j : Int) < (m : Int) := by omega
   obtain ⟨s0, s1, s2, s3, s4, s5, s6⟩ := HST5.out.2 j hlt
   have hcl : ∀ o, wr.cell? ⟨g, o, none⟩ = w5.cell? ⟨g, o, none⟩ := fun o => hb.cell (p := ⟨g, o, none⟩) hgl5
   have z0 := (hcl _).trans s0
   have z1 := (hcl _).trans s1
   have z2 := (hcl _).trans s2
   have z3 := (hcl _).trans s3
   have z4 := (hcl _).trans s4
   have z5 := (hcl _).trans s5
   have z6 := (hcl _).trans s6
   have hglr : g < wr.heap.size := by have := hb.size; omega
   obtain ⟨va, vn, vc, rfl⟩ := own_slice hown
   obtain rfl : j + 1 = vn := (own_len hown).symm
   have HOW := hid hown
   have HBX := hid hbx
   have HB := hid hb
   have hwr : w5.heap.size ≤ wr.heap.size := hb.size
   clear s0 s1 s2 s3 s4 s5 s6 hcl hown hbx hb
   go_upto_region 12 with ((with_reducible show wpList _ _ _ (Oper.mk none (Op.store 46 _ _) _ _ _ _ :: _) _ _); refine wpList_store_row rfl 46 _ _ rfl (wr.heap.size + 1) (stageC t total leaf j) rfl rfl 46 _ (World.alloc_new_at _ _ (by simp)) (by kernel_rfl) rfl (by simp [Value.oneCell', stageC]) ?_)
   refine letterW ?_
   intro Y hY
   obtain ⟨bw, hbw⟩ : ∃ bw, wr.heap.size = bw := ⟨_, rfl⟩
   have hrG : Y.heap[bw + 1]? = some (.cells (stageC t total leaf j) 46 (0, 0)) := by rw [hY, ← hbw]; exact setRow_heap _ _ _ _ _ _ (World.alloc_new_at _ _ (by simp))
   have hrI : Y.heap[bw]? = some (.cells #[.int .i64 (j : Nat)] 3 (0, 0)) := by rw [hY, ← hbw]; exact ((below_setRow ((Below.refl _ _).alloc (by simp) _) (Nat.le_refl (wr.heap.size + 1)) _).block wr.heap.size (by omega)).trans (World.alloc_heap_new _ _)
   have hbY : Below bw wr Y := by rw [hY, ← hbw]; exact below_setRow (((Below.refl _ _).alloc (Nat.le_refl _) _).alloc (by simp) _) (by omega) _
   have hownY : Y.ownsRow w5.heap.size 67 1 (.slice va (j + 1) vc) (j + 1) (fnsL b0 (b0 + 1) b3 BI BG j) := pOwnsRow_same' HOW.out (fun g2 _ h2 => hbY.block g2 (by omega))
   have HOY := hid hownY
   have HRI := hid hrI
   have HRG := hid hrG
   have hsY : bw + 1 < Y.heap.size := (Array.getElem?_eq_some_iff.1 hrG).1
   have HBY := hid (HB.out.trans (hbY.mono (show w5.heap.size ≤ bw by omega)))
   have HBXY : Hid (∀ q, q < j → Y.heap[BI q]? = some (.cells #[.int .i64 (q : Nat)] 3 (0, 0)) ∧ Y.heap[BG q]? = some (.cells (stageC t total leaf q) 46 (0, 0))) := hid (fun q hq => ⟨rowStay (HBX.out q hq).1 (hbw ▸ hbY), rowStay (HBX.out q hq).2 (hbw ▸ hbY)⟩)
   rw [hbw]
   have hgY : g < Y.heap.size := by omega
   have hwY : w5.heap.size ≤ Y.heap.size := by omega
   clear hY hrG hrI hbY hownY HOW HBX HB hbw z0 z1 z2 z3 z4 z5 z6 hglr hwr
   clear wr
   go_wp2_with (at_builtin; refine wpList_push rfl _ _ _ rfl w5.heap.size 67 (by decide) i0 .nilFunc 1 8 Try.underlying65 hi hz0 hz1 hz2 rfl (by decide) (.slice va (j + 1) vc) (j + 1) (fnsL b0 (b0 + 1) b3 BI BG j) [.func (.func 21) #[] #[.pointer (some ⟨b0 + 1, 0, none⟩), .pointer (some ⟨bw, 0, none⟩), .pointer (some ⟨b0, 0, none⟩), .pointer (some ⟨bw + 1, 0, none⟩)]] _ rfl HOY.out rfl rfl (by simp [Value.oneCell']) (by unfold maxLen; omega) (by omega) hwY ?_; intro v' w' hown' hkb' hsp')
   have hbZ : Below w5.heap.size Y w' := ⟨hkb'.os, hkb'.tape, hkb'.output, hkb'.size, fun k hk => hkb'.block k hk⟩
   have stay : ∀ (p : Nat) (c : Array Value) (T : TypeId), T ≠ 67 → Y.heap[p]? = some (.cells c T (0, 0)) → w'.heap[p]? = some (.cells c T (0, 0)) := fun p c T hT hp => (hsp'.block p (Array.getElem?_eq_some_iff.1 hp).1 (fun e => pOwn_ne HOY.out hp hT e.symm)).trans hp
   refine ⟨⟨j + 1, fun i => if i = j then bw else BI i, fun i => if i = j then bw + 1 else BG i, by go_num, by omega, by rw [fnsL_succ]; exact hown', fun q hq => ?_, HBY.out.trans hbZ⟩, by simp [intOf] <;> omega⟩
   by_cases hqj : q = j
   ·subst hqj
    simp only [if_true]
    exact ⟨stay _ _ _ (by decide) HRI.out, stay _ _ _ (by decide) HRG.out⟩
   ·simp only [if_neg hqj]
    exact ⟨stay _ _ _ (by decide) (HBXY.out q (by omega)).1, stay _ _ _ (by decide) (HBXY.out q (by omega)).2⟩
  obtain rfl : m = j := by omega
  obtain ⟨wm, rfl⟩ : ∃ wm, wm = wr := ⟨_, rfl⟩
  obtain ⟨gf, cf, rfl⟩ := ownsRow_form hown (by omega)
  have hfc : ∀ i u, (fnsL b0 (b0 + 1) b3 BI BG m)[i]? = some u → wm.cell? ⟨gf, i, none⟩ = some u := by
   obtain ⟨cur, e1, e2, e3, -⟩ := own_row hown
   intro i u hi
   rw [cell_of_heap e1 i]
   have h8 : (cur.toList.take (m + 1))[i]? = some u := by rw [e3]; exact hi
   rw [List.getElem?_take] at h8
   split at h8
   ·rw [← Array.getElem?_toList]; exact h8
   ·cases h8
  have hgf : gf < wm.heap.size := by obtain ⟨cur, e1, -⟩ := own_row hown; exact (Array.getElem?_eq_some_iff.1 e1).1
  have HF0 := hid (hfc 0 _ rfl)
  have HFK : Hid (∀ k, k < m → wm.cell? ⟨gf, k + 1, none⟩ = some (.func (.func 21) #[] #[.pointer (some ⟨b0 + 1, 0, none⟩), .pointer (some ⟨BI k, 0, none⟩), .pointer (some ⟨b0, 0, none⟩), .pointer (some ⟨BG k, 0, none⟩)])) := hid (fun k hk => hfc (k + 1) _ (by simp [fnsL, hk]))
  have HBX := hid hbx
  have HRT6 := hid (rowStay HRT5.out hb)
  have HRP6 := hid (rowStay HRP5.out hb)
  have HRL6 := hid (rowStay HRL5.out hb)
  have HB6 := hid (HB5.out.trans (hb.mono (show b0 ≤ w5.heap.size by omega)))
  have hs6 : b3 < wm.heap.size := by have := hb.size; omega
  have hfit := HBF.out.1 (by first | rfl | trivial)
  have HTW := hid (HT0.out.below (hb0 ▸ HB6.out))
  have HPW := hid (HP.out.below (hb0 ▸ HB6.out))
  have hsW := HS.out.below (hb0 ▸ HB6.out)
  clear hown hfc hb hbx HRT5 HRP5 HRL5 HB5 HST5 hgl5 hs5
  obtain ⟨a', uc', UU, VV, eqs, -, hrows⟩ := hsW
  simp only [Value.slice.injEq, true_and] at eqs
  obtain ⟨rfl, rfl⟩ := eqs
  rcases hrows with h8 | ⟨bu, ou, rfl, hbu, hUV⟩
  ·have := hfit.1; rw [h8] at this; simp at this; omega
  have HUV := hid hUV
  have HFIT := hid hfit
  have HSL := hid hfit.1
  clear hUV hfit
  have hDL : ∀ q, (pathD t kz z1 z2 total leaf ss piece q).length ≤ 1048576 := by
   intro q
   cases q with
   | zero => exact hpl
   | succ q => have := (TreeV.pathR_len HV0.out kz z1 z2 total leaf ss piece q).1; show (t.pathR kz z1 z2 total leaf ss piece q).length ≤ _; omega
  have HDL := hid hDL
  have hmw : m + 1 ≤ 256 := by omega
  clear hDL
  go_wp2_with fail
  go_loopw [74, 15] (fun i d W => ∃ q : Nat, i = .int .i64 (q : Nat) ∧ q ≤ m + 1 ∧ Hold W d (pathD t kz z1 z2 total leaf ss piece q) ∧ (1 ≤ q → OwnB b0 W d (pathD t kz z1 z2 total leaf ss piece q)) ∧ Below wm.heap.size wm W) (fun i _ _ => m + 1 - (intOf i).toNat)
  case atStart => exact ⟨0, rfl, Nat.zero_le _, HPW.out, fun h => absurd h (by decide), Below.refl _ _⟩
  case round =>
   obtain ⟨q, rfl, hqm, hD, hO, hb⟩ := hrel
   clear HPW
   have hgr : gf < wr.heap.size := by have := hb.size; omega
   have HB := hid (HB6.out.trans (hb.mono (show b0 ≤ wm.heap.size by omega)))
   by_cases hlt : q < m + 1
   case pos =>
    have hlt2 : (q : Int) < (m : Int) + 1 := by omega
    by_cases hq0 : q = 0
    case pos =>
     have c0 : wr.cell? ⟨gf, q, none⟩ = some (.func (.func 19) #[] #[.pointer (some ⟨b0, 0, none⟩), .pointer (some ⟨b0 + 1, 0, none⟩), .pointer (some ⟨b3, 0, none⟩)]) := by rw [hq0]; exact (hb.cell (p := ⟨gf, 0, none⟩) hgf).trans HF0.out
     have hrt := rowStay HRT6.out hb
     have hrp := rowStay HRP6.out hb
     have hrl := rowStay HRL6.out hb
     have hD1 := hD
     rw [hq0] at hD1
     obtain ⟨da, dc, rfl, -, -⟩ := id hD1.slice
     change Hold wr (.slice da piece.length dc) piece at hD1
     have hG := root1_ok t kz z1 z2 piece total ht S0 b0 (b0 + 1) b3 leaf _ da dc wr (HTW.out.below hb) HS0.out hD1 (by omega) hrt hrp hrl
     have HG := hid hG
     have HQ := hid hq0
     have hsr : b0 ≤ wr.heap.size := by have := hb.size; omega
     clear hD hO hrt hrp hrl hD1 hG hq0
     have HB0 := hid hb
     clear hb
     go_wp2_with fail
     refine HG.out.mono ?_; rintro e w9 ⟨x, rfl, hx, hb9⟩
     have HX := hid hx
     have HB9 := hid hb9
     clear hx hb9
     go_wp2_with fail
     have hp1 : pathD t kz z1 z2 total leaf ss piece (q + 1) = t.giveZ kz z1 z2 S0 piece := by rw [HQ.out]; exact HPD.out
     exact ⟨⟨q + 1, by go_num, by omega, by rw [hp1]; exact HX.out.hold, fun _ => by rw [hp1]; exact HX.out.le hsr, HB0.out.trans (HB9.out.mono (show wm.heap.size ≤ wr.heap.size from HB0.out.size))⟩, by simp [intOf] <;> omega⟩
    case neg =>
     obtain ⟨k, hk⟩ : ∃ k, q = k + 1 := ⟨q - 1, by omega⟩
     have hkm : k < m := by omega
     have c0 : wr.cell? ⟨gf, q, none⟩ = some (.func (.func 21) #[] #[.pointer (some ⟨b0 + 1, 0, none⟩), .pointer (some ⟨BI k, 0, none⟩), .pointer (some ⟨b0, 0, none⟩), .pointer (some ⟨BG k, 0, none⟩)]) := by rw [hk]; exact (hb.cell (p := ⟨gf, k + 1, none⟩) hgf).trans (HFK.out k hkm)
     have hrt := rowStay HRT6.out hb
     have hrp := rowStay HRP6.out hb
     obtain ⟨hri, hrg⟩ := HBX.out k hkm
     have hri := rowStay hri hb
     have hrg := rowStay hrg hb
     unfold stageC at hrg
     obtain ⟨hu1, hu2, hu3, hu4⟩ := HUV.out k (by have := HSL.out; omega)
     have hD1 := hD
     rw [hk] at hD1
     obtain ⟨da, dc, rfl, -, -⟩ := id hD1.slice
     change Hold wr (.slice da (t.pathR kz z1 z2 total leaf ss piece k).length dc) (t.pathR kz z1 z2 total leaf ss piece k) at hD1
     have hl := TreeV.pathR_len HV0.out kz z1 z2 total leaf ss piece k
     have hG := root2_ok t kz z1 z2 (t.pathR kz z1 z2 total leaf ss piece k) total ht (wayS t total leaf (k + 1)) _ (nths ss k) b0 (b0 + 1) (BI k) (BG k) bu ou k ss.length uc leaf (UU k) (VV k) (.slice da (t.pathR kz z1 z2 total leaf ss piece k).length dc) wr (HTW.out.below hb) (HSPK.out (k + 1) (by omega)) hD1 hl.2 hl.1 HI12.out hrt hrp hri hrg (by have := HSL.out; omega) ((hb.cell (p := ⟨bu, ou + k * 2, none⟩) hbu).trans hu1) ((hb.cell (p := ⟨bu, ou + k * 2 + 1, none⟩) hbu).trans hu2) (by have := hb.size; omega) (hu3.below hb) (hu4.below hb) (HO.out.2 _ (nths_mem (by have := HSL.out; omega))) (HFIT.out.2 k hkm).2.2
     have HG := hid hG
     have hsr : b0 ≤ wr.heap.size := by have := hb.size; omega
     have HK := hid hk
     clear hD hO hrt hrp hri hrg hu1 hu2 hu3 hu4 hl hD1 hG hk
     have HB0 := hid hb
     clear hb
     go_wp2_with fail
     refine HG.out.mono ?_; rintro e w9 ⟨x, rfl, hx, hb9⟩
     have HX := hid hx
     have HB9 := hid hb9
     clear hx hb9
     go_wp2_with fail
     have hp1 : pathD t kz z1 z2 total leaf ss piece (q + 1) = t.giveZ kz z1 z2 (wayS t total leaf (k + 1)) (midL (nths ss k) (t.pathR kz z1 z2 total leaf ss piece k)) := by rw [HK.out]; rfl
     exact ⟨⟨q + 1, by go_num, by omega, by rw [hp1]; exact HX.out.hold, fun _ => by rw [hp1]; exact HX.out.le hsr, HB0.out.trans (HB9.out.mono (show wm.heap.size ≤ wr.heap.size from HB0.out.size))⟩, by simp [intOf] <;> omega⟩
   obtain rfl : q = m + 1 := by omega
   have HX := hid (hO (by omega))
   clear hD hO hb
   go_wp2_with fail
   go_ret2
   exact ⟨_, _, rfl, by rw [hb0]; exact (HSAY.out _ _ _).2 (.inr (.inr ⟨HE.out, ⟨HLEN.out, HFIT.out⟩, rfl, HX.out⟩)), by rw [hb0]; exact HB.out⟩
end Go.Proofs.Ytahenngmaoellaa
namespace Go.Proofs.Ytahenngmaoellaa
open Go.ChangeShapes Go.WideShapes Go.ChangeAt Go.RowKit Go.Joins Go.Shelf Go.Maps
open Go.Lib (hid)
theorem rowL_take (L : List (List Int)) : ∀ k, k ≤ L.length → rowL L k = (L.take k).flatten
 | 0, _ => rfl
 | k + 1, h => by
  have e : nthd L k = nthL L k := rfl
  rw [take_flat (by omega), rowL, rowL_take L k (by omega), e]
theorem rowL_all (L : List (List Int)) : rowL L L.length = L.flatten := by rw [rowL_take L _ (Nat.le_refl _), List.take_length]
/-- The digests beside a node of a leaf's way. -/
def TreeV.stepZ (t : TreeV) (kz z1 z2 zs : List Int) (leaf k : Nat) : StepV :=
 (((t.lvlZ kz z1 z2 (t.leafZ kz z1 z2 zs) k).drop (wayS t zs.length leaf (k + 1)).frm).take (wayA t.fn (t.rowsOf zs.length) leaf k - (wayS t zs.length leaf (k + 1)).frm),
  ((t.lvlZ kz z1 z2 (t.leafZ kz z1 z2 zs) k).drop (wayA t.fn (t.rowsOf zs.length) leaf k + 1)).take ((wayS t zs.length leaf (k + 1)).to_ - wayA t.fn (t.rowsOf zs.length) leaf k - 1))
def TreeV.stepsZ (t : TreeV) (kz z1 z2 zs : List Int) (leaf m : Nat) : List StepV := (List.range m).map (t.stepZ kz z1 z2 zs leaf)
theorem TreeV.stepsZ_at (t : TreeV) (kz z1 z2 zs : List Int) (leaf : Nat) {m k : Nat} (h : k < m) : nths (t.stepsZ kz z1 z2 zs leaf m) k = t.stepZ kz z1 z2 zs leaf k := by
 unfold nths TreeV.stepsZ
 rw [List.getD_eq_getElem?_getD, List.getElem?_map, List.getElem?_range h]
 rfl
theorem TreeV.stepsZ_length (t : TreeV) (kz z1 z2 zs : List Int) (leaf m : Nat) : (t.stepsZ kz z1 z2 zs leaf m).length = m := by simp [TreeV.stepsZ]
theorem mid_flat {X Y : List (List Int)} {a at_ b : Nat} (h1 : a ≤ at_) (h2 : at_ < b) (h3 : b ≤ Y.length) (h : ∀ k, k ≠ at_ → X[k]? = Y[k]?) :
  ((X.drop a).take (at_ - a)).flatten ++ nthL Y at_ ++ ((X.drop (at_ + 1)).take (b - at_ - 1)).flatten = ((Y.drop a).take (b - a)).flatten := by
 have e1 : (X.drop a).take (at_ - a) = (Y.drop a).take (at_ - a) := by
  refine List.ext_getElem? fun j => ?_
  rw [List.getElem?_take, List.getElem?_take]
  split
  ·rw [List.getElem?_drop, List.getElem?_drop, h _ (by omega)]
  ·rfl
 have e2 : (X.drop (at_ + 1)).take (b - at_ - 1) = (Y.drop (at_ + 1)).take (b - at_ - 1) := by
  refine List.ext_getElem? fun j => ?_
  rw [List.getElem?_take, List.getElem?_take]
  split
  ·rw [List.getElem?_drop, List.getElem?_drop, h _ (by omega)]
  ·rfl
 have e3 : (Y.drop a).take (b - a) = (Y.drop a).take (at_ - a) ++ (nthL Y at_ :: (Y.drop (at_ + 1)).take (b - at_ - 1)) := by
  have q1 : b - a = (at_ - a) + (b - at_) := by omega
  have q2 : b - at_ = (b - at_ - 1) + 1 := by omega
  rw [q1, List.take_add, List.drop_drop, show a + (at_ - a) = at_ by omega, List.drop_eq_getElem_cons (show at_ < Y.length by omega), q2, List.take_succ_cons]
  simp only [Nat.add_sub_cancel]
  congr 2
  unfold nthL
  rw [List.getD_eq_getElem?_getD, List.getElem?_eq_getElem (by omega)]; rfl
 rw [e1, e2, e3, List.flatten_append, List.flatten_cons, List.append_assoc]
/-- What comes up a leaf's way is what the tree has there: of the message with that piece. -/
theorem TreeV.path_up {t : TreeV} (h : t.validE = 0) (hl : 0 ≤ t.l ∧ t.l ≤ 4294967295) (kz z1 z2 zs ys : List Int) (hyz : ys.length = zs.length) (hn : zs.length ≤ 4194304) {leaf : Nat} (hleaf : leaf < nth (t.rowsOf zs.length) 0)
  (hs : ∀ k, k ≠ leaf → nthL (cutZ t.ln ys) k = nthL (cutZ t.ln zs) k) (m : Nat) (hm : (t.rowsOf zs.length).length = m + 1) : ∀ r, r < (t.rowsOf zs.length).length →
  (t.lvlZ kz z1 z2 (t.leafZ kz z1 z2 ys) r).length = (t.lvlZ kz z1 z2 (t.leafZ kz z1 z2 zs) r).length ∧
  (∀ k, k ≠ wayA t.fn (t.rowsOf zs.length) leaf r → (t.lvlZ kz z1 z2 (t.leafZ kz z1 z2 zs) r)[k]? = (t.lvlZ kz z1 z2 (t.leafZ kz z1 z2 ys) r)[k]?) ∧
  t.pathR kz z1 z2 zs.length leaf (t.stepsZ kz z1 z2 zs leaf m) (nthL (cutZ t.ln ys) leaf) r = nthL (t.lvlZ kz z1 z2 (t.leafZ kz z1 z2 ys) r) (wayA t.fn (t.rowsOf zs.length) leaf r) := by
 have he := err_small h hn
 have hR := TreeV.rows_is he
 have hLz := TreeV.leafZ_facts h hl kz z1 z2 zs
 have hLy := TreeV.leafZ_facts h hl kz z1 z2 ys
 have hln : 1 ≤ t.ln := by
  have := (TreeV.valid_facts h).2.2.2.2.2.2.2.2.1
  unfold TreeV.ln; omega
 have hcy := cutZ_length ys hln
 have hcz := cutZ_length zs hln
 have h0z := leafZ_rows h hl kz z1 z2 zs
 have h0y := leafZ_rows h hl kz z1 z2 ys
 rw [hyz] at hcy h0y
 have hget : ∀ {L M : List (List Int)}, L.length = M.length → ∀ {i : Nat}, nthL L i = nthL M i → L[i]? = M[i]? := by
  intro L M hLM i hi
  by_cases hc : i < L.length
  ·unfold nthL at hi
   rw [List.getD_eq_getElem?_getD, List.getD_eq_getElem?_getD, List.getElem?_eq_getElem hc, List.getElem?_eq_getElem (by omega)] at hi
   rw [List.getElem?_eq_getElem hc, List.getElem?_eq_getElem (by omega)]
   exact congrArg some hi
  ·rw [List.getElem?_eq_none (by omega), List.getElem?_eq_none (by omega)]
 intro r
 induction r with
 | zero =>
  intro hr
  refine ⟨by show (t.leafZ kz z1 z2 ys).length = (t.leafZ kz z1 z2 zs).length; omega, fun k hk => ?_, ?_⟩
  ·refine hget (by show (t.leafZ kz z1 z2 zs).length = (t.leafZ kz z1 z2 ys).length; omega) ?_
   show nthL (t.leafZ kz z1 z2 zs) k = nthL (t.leafZ kz z1 z2 ys) k
   unfold TreeV.leafZ
   by_cases hc : k < (cutZ t.ln zs).length
   ·rw [TreeV.rowZ_nth _ _ _ _ _ _ _ hc, TreeV.rowZ_nth _ _ _ _ _ _ _ (by omega), hs k hk, hcy, hcz]
   ·unfold nthL
    rw [List.getD_eq_getElem?_getD, List.getD_eq_getElem?_getD, List.getElem?_eq_none (by rw [TreeV.rowZ_length]; omega), List.getElem?_eq_none (by rw [TreeV.rowZ_length]; omega)]
  ·show t.giveZ kz z1 z2 (wayS t zs.length leaf 0) (nthL (cutZ t.ln ys) leaf) = nthL (t.leafZ kz z1 z2 ys) leaf
   have hlf := hleaf
   rw [hR.first] at hlf
   unfold TreeV.leafZ
   rw [TreeV.rowZ_nth _ _ _ _ _ _ _ (by omega), hcy]
   unfold wayS wayA TreeV.giveZ
   have hn0 : ¬ (1 ≤ 0 ∧ nth (t.rowsOf zs.length) 0 = 1) := by omega
   by_cases h2 : leaf = nth (t.rowsOf zs.length) 0 - 1
   ·rw [spotIn_last' hn0 h2]
    rw [hR.first] at h2
    rw [decide_eq_true (by omega)]
   ·rw [spotIn_mid' hn0 h2]
    rw [hR.first] at h2
    rw [decide_eq_false (by omega)]
 | succ r ih =>
  intro hr
  obtain ⟨i1, i2, i3⟩ := ih (by omega)
  have hA := wayA_lt hR hleaf (r + 1) hr
  have hch := child_of' hR hr (wayA_lt hR hleaf r (by omega))
  have hlz := TreeV.lvl_rows he kz z1 z2 h0z hLz.2.2
  have hly := TreeV.lvl_rows he kz z1 z2 h0y hLy.2.2
  obtain ⟨Ly, hLy0⟩ : ∃ L, t.lvlZ kz z1 z2 (t.leafZ kz z1 z2 ys) r = L := ⟨_, rfl⟩
  obtain ⟨Lz, hLz0⟩ : ∃ L, t.lvlZ kz z1 z2 (t.leafZ kz z1 z2 zs) r = L := ⟨_, rfl⟩
  have hlr := hly r (by omega)
  have hup := TreeV.upZ_rows h (row := r + 1) (by omega) (L := Ly) (by rw [← hLy0]; exact (TreeV.lvlZ_facts h kz z1 z2 hLy.1 hLy.2.2 r).1)
  have hnx := hR.next r hr
  rw [hLy0] at hlr
  rw [hlr, ← hnx] at hup
  obtain ⟨D, hD⟩ : ∃ D, t.upZ (r + 1) Ly = D := ⟨_, rfl⟩
  rw [hD] at hup
  have hst : t.stepZ kz z1 z2 zs leaf r = ((Lz.drop (wayS t zs.length leaf (r + 1)).frm).take (wayA t.fn (t.rowsOf zs.length) leaf r - (wayS t zs.length leaf (r + 1)).frm), (Lz.drop (wayA t.fn (t.rowsOf zs.length) leaf r + 1)).take ((wayS t zs.length leaf (r + 1)).to_ - wayA t.fn (t.rowsOf zs.length) leaf r - 1)) := by unfold TreeV.stepZ; rw [hLz0]
  rw [hLy0, hLz0] at i1 i2
  rw [hLy0] at i3
  have ey : t.lvlZ kz z1 z2 (t.leafZ kz z1 z2 ys) (r + 1) = t.rowZ kz z1 z2 (r + 1) (t.rootZ (r + 1) Ly.length) D D.length := by
   show t.rowZ kz z1 z2 (r + 1) (t.rootZ (r + 1) (t.lvlZ kz z1 z2 (t.leafZ kz z1 z2 ys) r).length) (t.upZ (r + 1) (t.lvlZ kz z1 z2 (t.leafZ kz z1 z2 ys) r)) (t.upZ (r + 1) (t.lvlZ kz z1 z2 (t.leafZ kz z1 z2 ys) r)).length = _
   rw [hLy0, hD]
  have ez : t.lvlZ kz z1 z2 (t.leafZ kz z1 z2 zs) (r + 1) = t.rowZ kz z1 z2 (r + 1) (t.rootZ (r + 1) Ly.length) (t.upZ (r + 1) Lz) (t.upZ (r + 1) Lz).length := by
   show t.rowZ kz z1 z2 (r + 1) (t.rootZ (r + 1) (t.lvlZ kz z1 z2 (t.leafZ kz z1 z2 zs) r).length) (t.upZ (r + 1) (t.lvlZ kz z1 z2 (t.leafZ kz z1 z2 zs) r)) (t.upZ (r + 1) (t.lvlZ kz z1 z2 (t.leafZ kz z1 z2 zs) r)).length = _
   rw [hLz0, i1]
  have hul : (t.upZ (r + 1) Lz).length = D.length := by
   rw [← hD]; unfold TreeV.upZ; rw [i1]
   split
   ·rw [List.length_singleton, List.length_singleton]
   ·rw [flats_length, flats_length]
  have hno : ∀ k, k ≠ wayA t.fn (t.rowsOf zs.length) leaf (r + 1) → nthL (t.upZ (r + 1) Lz) k = nthL D k := by
   intro k hk
   rw [← hD]
   have hk2 : k ≠ if nth (t.rowsOf zs.length) (r + 1) = 1 then 0 else wayA t.fn (t.rowsOf zs.length) leaf r / t.fn := hk
   unfold TreeV.upZ
   rw [← i1]
   by_cases hq : t.rootZ (r + 1) Ly.length = true
   ·rw [if_pos hq, if_pos hq]
    rw [hlr] at hq
    rw [if_pos (hup.2.1 hq)] at hk2
    unfold nthL
    rw [List.getD_eq_getElem?_getD, List.getD_eq_getElem?_getD, List.getElem?_eq_none (by simp; omega), List.getElem?_eq_none (by simp; omega)]
   ·rw [if_neg hq, if_neg hq]
    have hqf : t.rootZ (r + 1) Ly.length = false := by simpa using hq
    have hfn := TreeV.fn_pos h hqf
    rw [hlr] at hq
    rw [if_neg (fun e => hq (hup.2.2 e))] at hk2
    by_cases hkc : k < cdiv Ly.length t.fn
    ·simp only [nthL, flats, List.getD_eq_getElem?_getD, List.getElem?_map, List.getElem?_range hkc, Option.map_some, Option.getD_some]
     congr 1
     refine List.ext_getElem? fun j => ?_
     unfold piece
     rw [List.getElem?_take, List.getElem?_take]
     split
     ·rename_i hj
      rw [List.getElem?_drop, List.getElem?_drop]
      refine i2 _ fun e => hk2 ?_
      rw [← e, Nat.mul_comm, Nat.mul_add_div (by omega), Nat.div_eq_of_lt hj]
      omega
     ·rfl
    ·unfold nthL
     rw [List.getD_eq_getElem?_getD, List.getD_eq_getElem?_getD, List.getElem?_eq_none (by rw [flats_length]; omega), List.getElem?_eq_none (by rw [flats_length]; omega)]
  refine ⟨by rw [ey, ez, TreeV.rowZ_length, TreeV.rowZ_length, hul], fun k hk => ?_, ?_⟩
  ·rw [ey, ez]
   refine hget (by rw [TreeV.rowZ_length, TreeV.rowZ_length, hul]) ?_
   by_cases hc : k < D.length
   ·rw [TreeV.rowZ_nth _ _ _ _ _ _ _ (by omega), TreeV.rowZ_nth _ _ _ _ _ _ _ hc, hno k hk, hul]
   ·unfold nthL
    rw [List.getD_eq_getElem?_getD, List.getD_eq_getElem?_getD, List.getElem?_eq_none (by rw [TreeV.rowZ_length]; omega), List.getElem?_eq_none (by rw [TreeV.rowZ_length]; omega)]
  ·have hi : wayA t.fn (t.rowsOf zs.length) leaf (r + 1) < D.length := by omega
   obtain ⟨-, a, b, hsp, hab, hbl, hit⟩ := node_spot he kz z1 z2 h0y hLy.2.2 hr hLy0 hD hi
   have hws : wayS t zs.length leaf (r + 1) = ⟨r + 1, wayA t.fn (t.rowsOf zs.length) leaf (r + 1), a, b, decide (wayA t.fn (t.rowsOf zs.length) leaf (r + 1) + 1 = D.length), t.rootZ (r + 1) Ly.length⟩ := hsp
   have hch2 : (wayS t zs.length leaf (r + 1)).frm ≤ wayA t.fn (t.rowsOf zs.length) leaf r ∧ wayA t.fn (t.rowsOf zs.length) leaf r < (wayS t zs.length leaf (r + 1)).to_ := ⟨hch.2.1, hch.2.2⟩
   show t.giveZ kz z1 z2 (wayS t zs.length leaf (r + 1)) (midL (nths (t.stepsZ kz z1 z2 zs leaf m) r) (t.pathR kz z1 z2 zs.length leaf (t.stepsZ kz z1 z2 zs leaf m) (nthL (cutZ t.ln ys) leaf) r)) = _
   rw [i3, TreeV.stepsZ_at _ _ _ _ _ _ (by omega), hst, ey, TreeV.rowZ_nth _ _ _ _ _ _ _ hi]
   rw [hws] at hch2 ⊢
   unfold midL
   rw [rowL_all, rowL_all, mid_flat hch2.1 hch2.2 hbl i2, ← hit]
   rfl
/-- The root that a message's path tells, with any piece. -/
theorem TreeV.path_root {t : TreeV} (h : t.validE = 0) (hl : 0 ≤ t.l ∧ t.l ≤ 4294967295) (kz z1 z2 zs ys : List Int) (hyz : ys.length = zs.length) (hn : zs.length ≤ 4194304) {leaf : Nat} (hleaf : leaf < nth (t.rowsOf zs.length) 0)
  (hs : ∀ k, k ≠ leaf → nthL (cutZ t.ln ys) k = nthL (cutZ t.ln zs) k) (m : Nat) (hm : (t.rowsOf zs.length).length - 1 = m) :
  t.pathR kz z1 z2 zs.length leaf (t.stepsZ kz z1 z2 zs leaf m) (nthL (cutZ t.ln ys) leaf) m = t.digZ kz z1 z2 ys := by
 have he := err_small h hn
 have hR := TreeV.rows_is he
 have hlen := hR.len
 have hu := TreeV.path_up h hl kz z1 z2 zs ys hyz hn hleaf hs m (by omega) m (by omega)
 rw [hu.2.2]
 unfold TreeV.digZ
 rw [if_pos h, hyz, hm]
 have hA := wayA_lt hR hleaf m (by omega)
 have hla := hR.last
 rw [hm] at hla
 rw [show wayA t.fn (t.rowsOf zs.length) leaf m = 0 by omega]
end Go.Proofs.Ytahenngmaoellaa
