/- What a path leads to, told of all; Check on both sides. No condition. -/
import Derived.Test.YtahenngmaoellaaN45
import Derived.Test.YtahenngmaoellaaN20
import Derived.Test.YtahenngmaoellaaN48
import Derived.Test.YtahenngmaoellaaN47
set_option linter.all false
set_option maxRecDepth 100000
set_option maxHeartbeats 8000000
namespace Go.Proofs.Ytahenngmaoellaa
open Go.ChangeShapes Go.WideShapes Go.ChangeAt Go.RowKit Go.Joins Go.Shelf Go.Maps
open Go.Lib (hid)
attribute [local go_sem] Oper.semAt_some
theorem TreeH.below {w w' : World} {t : TreeV} {kz z1 z2 : List Int} (h : TreeH w t kz z1 z2) (hb : Below w.heap.size w w') : TreeH w' t kz z1 z2 := ⟨h.k.below hb, h.s.below hb, h.p.below hb⟩
/-- Does the piece, does the path fit? -/
def TreeV.fitsQ (t : TreeV) (total leaf : Nat) (ss : List StepV) (piece : List Int) : Prop := (piece.length : Int) = ((wayS t total leaf 0).to_ : Int) - ((wayS t total leaf 0).frm : Int) ∧ FitsP t.i ((t.rowsOf total).length - 1) (chI t total leaf) (afI t total leaf) ss
open Classical in
noncomputable def TreeV.rootE (t : TreeV) (total leaf : Nat) (ss : List StepV) (piece : List Int) : Int :=
 if t.spotE total 0 leaf ≠ 0 then t.spotE total 0 leaf else if t.fitsQ total leaf ss piece then 0 else 4
open Classical in
noncomputable def TreeV.rootD (t : TreeV) (kz z1 z2 : List Int) (total leaf : Nat) (ss : List StepV) (piece : List Int) : List Int :=
 if t.spotE total 0 leaf = 0 ∧ t.fitsQ total leaf ss piece then t.pathR kz z1 z2 total leaf ss piece ((t.rowsOf total).length - 1) else []
noncomputable def TreeV.checkE (t : TreeV) (kz z1 z2 : List Int) (total leaf : Nat) (ss : List StepV) (piece root : List Int) : Int :=
 if t.rootE total leaf ss piece ≠ 0 then t.rootE total leaf ss piece else if t.rootD kz z1 z2 total leaf ss piece = root then 0 else 110
theorem ownB_nil (b : Nat) (w : World) : OwnB b w (.slice none 0 0) [] := ⟨(fun a ha => by cases ha), .inl ⟨rfl, rfl⟩⟩
theorem rootSays_is {t : TreeV} {kz z1 z2 : List Int} {total leaf : Nat} {ss : List StepV} {piece : List Int} {b : Nat} {w : World} {v : Value} {e : Int} (h : RootSays t kz z1 z2 total leaf ss piece b w v e) : e = t.rootE total leaf ss piece ∧ OwnB b w v (t.rootD kz z1 z2 total leaf ss piece) := by
 unfold TreeV.rootE TreeV.rootD TreeV.fitsQ
 rcases h with ⟨h1, rfl, rfl⟩ | ⟨h1, h2, rfl, rfl⟩ | ⟨h1, h2, rfl, h3⟩
 ·rw [if_pos h1, if_neg (fun h => h1 h.1)]; exact ⟨rfl, ownB_nil _ _⟩
 ·rw [if_neg (by simp [h1]), if_neg h2, if_neg (fun h => h2 h.2)]; exact ⟨rfl, ownB_nil _ _⟩
 ·rw [if_neg (by simp [h1]), if_pos h2, if_pos ⟨h1, h2⟩]; exact ⟨rfl, h3⟩
theorem root_any (t : TreeV) (kz z1 z2 piece : List Int) (total leaf : Nat) (ht : (total : Int) ≤ 18446744073709551615) (hleaf : (leaf : Int) ≤ 18446744073709551615) (hl : 0 ≤ t.l ∧ t.l ≤ 4294967295) (u pv : Value) (ss : List StepV) (w : World) (h : TreeH w t kz z1 z2) (hs : StepsAt w u ss) (ho : StepsOk 1048576 ss) (hp : Hold w pv piece) (hpl : piece.length ≤ 1048576) :
  Calls Try.prog 9 #[t.val, .agg #[.int .u64 total, .int .u64 leaf, u], pv] w fun r w' => ∃ v, r = .returned (.tuple #[v, .int .i64 (t.rootE total leaf ss piece)]) ∧ OwnB w.heap.size w' v (t.rootD kz z1 z2 total leaf ss piece) ∧ Below w.heap.size w w' := by
 by_cases he : t.spotE total 0 leaf = 0
 ·have hv : t.validE = 0 := (way_kids hl ht he).2.2.2.2
  refine (root_ok t kz z1 z2 piece total leaf ht hleaf he u pv ss w ⟨hv, hl, h.k, h.s, h.p⟩ hs ho hp hpl).mono ?_
  rintro r w' ⟨v, e, rfl, hsay, hb⟩
  obtain ⟨rfl, ho⟩ := rootSays_is hsay
  exact ⟨v, rfl, ho, hb⟩
 ·refine (root_err t hl total leaf ht he u pv w).mono ?_
  rintro r w' ⟨rfl, hb⟩
  obtain ⟨e, ho⟩ := rootSays_is (kz := kz) (z1 := z1) (z2 := z2) (ss := ss) (piece := piece) (b := w.heap.size) (w := w') (.inl ⟨he, rfl, rfl⟩)
  exact ⟨_, by rw [← e], ho, hb⟩
theorem check_any (t : TreeV) (kz z1 z2 piece root : List Int) (total leaf : Nat) (ht : (total : Int) ≤ 18446744073709551615) (hleaf : (leaf : Int) ≤ 18446744073709551615) (hl : 0 ≤ t.l ∧ t.l ≤ 4294967295) (u pv rv : Value) (ss : List StepV) (w : World) (h : TreeH w t kz z1 z2) (hs : StepsAt w u ss) (ho : StepsOk 1048576 ss) (hp : Hold w pv piece) (hpl : piece.length ≤ 1048576) (hr : Hold w rv root) :
  Calls Try.prog 6 #[t.val, .agg #[.int .u64 total, .int .u64 leaf, u], pv, rv] w fun r w' => r = .returned (.int .i64 (t.checkE kz z1 z2 total leaf ss piece root)) ∧ Below w.heap.size w w' := by
 obtain ⟨b0, hb0⟩ : ∃ b0, w.heap.size = b0 := ⟨_, rfl⟩
 have HRA := hid (fun (W : World) (hb : Below b0 w W) => root_any t kz z1 z2 piece total leaf ht hleaf hl u pv ss W (h.below (hb0 ▸ hb)) (hs.below (hb0 ▸ hb)) ho (hp.below (hb0 ▸ hb)) hpl)
 have HRT := hid hr
 obtain ⟨ra, rc, rfl, -, -⟩ := id hr.slice
 obtain ⟨pa, pc, rfl, -, -⟩ := id hp.slice
 obtain ⟨E, hE⟩ : ∃ E, t.rootE total leaf ss piece = E := ⟨_, rfl⟩
 obtain ⟨D, hD⟩ : ∃ D, t.rootD kz z1 z2 total leaf ss piece = D := ⟨_, rfl⟩
 obtain ⟨C, hC⟩ : ∃ C, t.checkE kz z1 z2 total leaf ss piece root = C := ⟨_, rfl⟩
 have hCC : C = if E ≠ 0 then E else if D = root then 0 else 110 := by rw [← hC]; unfold TreeV.checkE; rw [hE, hD]
 have HC := hid hCC
 rw [hE, hD] at HRA
 rw [hC]
 have hrl : (0 : Int) ≤ root.length := by omega
 clear hE hD hC hCC h hs ho hp hr
 unfold TreeV.val at *
 go_enter Try.func6, Try.ntmps6
 go_upto_region 1 with (fail)
 refine letterW ?_
 intro wA hwA
 have hrT : wA.heap[b0]? = some (.cells #[.int .i64 t.k, .int .i64 t.d, .int .i64 t.f, .int .i64 t.p, .int .u32 t.l, .int .i64 t.i, .slice t.ka t.kl t.kc, .slice t.sa t.sl t.sc, .slice t.pa t.pl t.pc] 26 (0, 0)) := by rw [hwA]; exact (Below.heap_alloc _ _ _ (by simp; omega)).trans (World.alloc_new_at _ _ hb0.symm)
 have hrP : wA.heap[b0 + 1]? = some (.cells #[.int .u64 total, .int .u64 leaf, u] 31 (0, 0)) := by rw [hwA]; exact World.alloc_new_at _ _ (by simp; omega)
 have hbA : Below b0 w wA := by rw [hwA, ← hb0]; exact ((Below.refl _ _).alloc (Nat.le_refl _) _).alloc (by simp) _
 have hsA : b0 + 1 < wA.heap.size := (Array.getElem?_eq_some_iff.1 hrP).1
 clear hwA
 go_wp2_with (first | ((with_reducible show wpList _ _ _ (Oper.mk _ (Op.load 26 _) _ _ _ _ :: _) _ _); refine wpList_load_row rfl 26 _ rfl b0 rfl _ _ _ _ hrT Try.underlying26 rfl (by kernel_rfl) ?_) | ((with_reducible show wpList _ _ _ (Oper.mk _ (Op.load 31 _) _ _ _ _ :: _) _ _); refine wpList_load_row rfl 31 _ rfl (b0 + 1) rfl _ _ _ _ hrP Try.underlying31 rfl (by kernel_rfl) ?_))
 refine (HRA.out wA hbA).mono ?_; rintro e w2 ⟨v, rfl, hv, hb2⟩
 have HB := hid (hbA.trans (hb2.mono (show b0 ≤ wA.heap.size by omega)))
 have HV := hid hv
 obtain ⟨va, vc, rfl, -, -⟩ := id hv.hold.slice
 clear hv hb2 hbA hrT hrP
 by_cases hE : E = 0
 case neg =>
  have hq : (E != 0) = true := by rw [bne_iff_ne]; exact hE
  have hCE : C = E := by rw [HC.out, if_pos hE]
  clear hE HC
  go_wp2_with fail
  go_ret
  exact ⟨by rw [hCE]; rfl, by rw [hb0]; exact HB.out⟩
 subst hE
 have HSM := hid (same_ok D root _ _ w2 HV.out.hold (HRT.out.below (hb0 ▸ HB.out)))
 go_wp2_with fail
 refine HSM.out.mono ?_; rintro e w3 ⟨rfl, rfl⟩
 by_cases hdr : D = root
 ·have hd : decide (D = root) = true := decide_eq_true hdr
  have hCE : C = 0 := by rw [HC.out, if_neg (by simp), if_pos hdr]
  rw [hd]
  clear hdr hd HSM HC
  go_wp2_with fail
  go_ret
  exact ⟨by rw [hCE]; rfl, by rw [hb0]; exact HB.out⟩
 ·have hd : decide (D = root) = false := decide_eq_false hdr
  have hCE : C = 110 := by rw [HC.out, if_neg (by simp), if_neg hdr]
  rw [hd]
  clear hdr hd HSM HC
  go_wp2_with fail
  go_ret
  exact ⟨by rw [hCE]; rfl, by rw [hb0]; exact HB.out⟩
end Go.Proofs.Ytahenngmaoellaa
namespace Go.Proofs.Ytahenngmaoellaa
open Go.ChangeShapes Go.WideShapes Go.ChangeAt Go.RowKit Go.Joins Go.Shelf Go.Maps
open Go.Lib (hid)
theorem cut_at {n : Nat} (hn : 1 ≤ n) (zs : List Int) (k : Nat) : nthL (cutZ n zs) k = (zs.drop (k * n)).take n := by
 unfold cutZ
 by_cases hz : zs = []
 ·rw [if_pos hz, hz]
  cases k <;> simp [nthL]
 ·rw [if_neg hz]
  by_cases hk : k < cdiv zs.length n
  ·simp [nthL, pieces, piece, List.getD_eq_getElem?_getD, hk]
  ·have h2 := mt (lt_cdiv (n := zs.length) (d := n) (j := k) hn).2 hk
   rw [List.drop_eq_nil_of_le (by omega)]
   unfold nthL
   rw [List.getD_eq_getElem?_getD, List.getElem?_eq_none (by rw [pieces_length]; omega)]
   simp
theorem TreeV.lvl_item {t : TreeV} (h : t.validE = 0) (hl : 0 ≤ t.l ∧ t.l ≤ 4294967295) (kz z1 z2 zs : List Int) (hn : zs.length ≤ 4194304) {m k : Nat} (hm : (t.rowsOf zs.length).length - 1 = m) (hk : k < m) : ∀ d ∈ t.lvlZ kz z1 z2 (t.leafZ kz z1 z2 zs) k, (d.length : Int) = t.i ∧ ∀ a ∈ d, 0 ≤ a ∧ a ≤ 255 := by
 have her := err_small h hn
 have hL := TreeV.leafZ_facts h hl kz z1 z2 zs
 have htop := top_rows her kz z1 z2 (leafZ_rows h hl kz z1 z2 zs) hL.2.2
 rw [hm] at htop
 have hrt : t.rtR kz z1 z2 zs k = false := by
  cases k with
  | zero => rfl
  | succ r =>
   have := htop.2.2 (r + 1) (by omega) hk
   rw [Nat.add_sub_cancel] at this
   exact this
 rw [TreeV.lvl_is, hrt]
 intro d hd
 obtain ⟨i, -, rfl⟩ := List.mem_map.1 hd
 exact ⟨TreeV.node_lenE h .., fun a ha => TreeV.node_bounds _ _ _ _ _ _ _ _ _ a ha⟩
theorem TreeV.spot_leaf {t : TreeV} (h : t.validE = 0) {n leaf : Nat} (hn : n ≤ 4194304) (hleaf : leaf < lvs n t.ln) : t.spotE n 0 leaf = 0 := by
 have her := err_small h hn
 have hR := TreeV.rows_is her
 have hlen := hR.len
 unfold TreeV.spotE
 rw [if_neg (by simp [her]), if_pos ⟨by omega, by show 0 < _; omega, by show leaf < nth (t.rowsOf n) 0; rw [hR.first]; exact hleaf⟩]
theorem TreeV.steps_fit {t : TreeV} (h : t.validE = 0) (hl : 0 ≤ t.l ∧ t.l ≤ 4294967295) (kz z1 z2 zs : List Int) (hn : zs.length ≤ 1048576) {leaf m : Nat} (he : t.spotE zs.length 0 leaf = 0) (hm : (t.rowsOf zs.length).length - 1 = m) :
  FitsP t.i m (chI t zs.length leaf) (afI t zs.length leaf) (t.stepsZ kz z1 z2 zs leaf m) ∧ StepsOk 1048576 (t.stepsZ kz z1 z2 zs leaf m) := by
 have her := err_small h (show zs.length ≤ 4194304 by omega)
 have hR := TreeV.rows_is her
 have hlen := hR.len
 have hmost := hR.most
 have hL := TreeV.leafZ_facts h hl kz z1 z2 zs
 have hlr := TreeV.lvl_rows her kz z1 z2 (leafZ_rows h hl kz z1 z2 zs) hL.2.2
 obtain ⟨hkf, -, i1, i2, -⟩ := way_kids hl (show (zs.length : Int) ≤ 18446744073709551615 by omega) he
 have hvf := TreeV.valid_facts h
 have hpn : t.pn ≤ 255 := by have := hvf.2.2.2.2.2.2.2.1; unfold TreeV.pn; omega
 have hone : ∀ k, k < m → ((t.stepZ kz z1 z2 zs leaf k).1.length : Int) = chI t zs.length leaf k ∧ ((t.stepZ kz z1 z2 zs leaf k).2.length : Int) = afI t zs.length leaf k ∧ (t.stepZ kz z1 z2 zs leaf k).1.length ≤ 1048576 ∧ (t.stepZ kz z1 z2 zs leaf k).2.length ≤ 1048576 ∧
   ∀ d ∈ (t.stepZ kz z1 z2 zs leaf k).1 ++ (t.stepZ kz z1 z2 zs leaf k).2, (d.length : Int) = t.i ∧ ∀ a ∈ d, 0 ≤ a ∧ a ≤ 255 := fun k hk => by
  have hK := hkf k (by omega)
  have hto := spotIn_to_le (l := t.ln) (by have := hvf.2.2.2.2.2.2.2.2.1; unfold TreeV.ln; omega) hR (k := k + 1) (by omega) (by omega) (wayA_lt hR (leaf_span hl he).2.2.2 (k + 1) (by omega))
  have hto2 : (wayS t zs.length leaf (k + 1)).to_ ≤ nth (t.rowsOf zs.length) k := hto
  have hlk := hlr k (by omega)
  have hF := TreeV.lvlZ_facts h kz z1 z2 hL.1 hL.2.2 k
  have e1 := hK.le
  have e2 := hK.lt
  have h3 := hL.2.1
  have h4 := hF.2.1
  have hit := TreeV.lvl_item h hl kz z1 z2 zs (by omega) hm hk
  have l1 : (t.stepZ kz z1 z2 zs leaf k).1.length = chN t zs.length leaf k := by
   unfold TreeV.stepZ chN
   simp only [List.length_take, List.length_drop]
   omega
  have l2 : (t.stepZ kz z1 z2 zs leaf k).2.length = afN t zs.length leaf k := by
   unfold TreeV.stepZ afN
   simp only [List.length_take, List.length_drop]
   omega
  refine ⟨by rw [l1, chI_eq hK], by rw [l2]; rfl, ?_, ?_, fun d hd => ?_⟩
  ·rw [l1]; unfold chN; omega
  ·rw [l2]; unfold afN; omega
  ·refine hit d ?_
   rcases List.mem_append.1 hd with hd | hd
   ·exact List.mem_of_mem_drop (List.mem_of_mem_take hd)
   ·exact List.mem_of_mem_drop (List.mem_of_mem_take hd)
 refine ⟨⟨TreeV.stepsZ_length .., fun j hj => ?_⟩, ?_, fun s hs => ?_⟩
 ·obtain ⟨a1, a2, -, -, a5⟩ := hone j hj
  unfold StepFits
  rw [TreeV.stepsZ_at _ _ _ _ _ _ hj]
  exact ⟨a1, a2, fun d hd => (a5 d hd).1⟩
 ·rw [TreeV.stepsZ_length]; omega
 ·obtain ⟨k, hk, rfl⟩ := List.mem_map.1 hs
  obtain ⟨-, -, a3, a4, a5⟩ := hone k (List.mem_range.1 hk)
  exact ⟨⟨a3, fun d hd => ⟨by have := (a5 d (List.mem_append_left _ hd)).1; omega, (a5 d (List.mem_append_left _ hd)).2⟩⟩, ⟨a4, fun d hd => ⟨by have := (a5 d (List.mem_append_right _ hd)).1; omega, (a5 d (List.mem_append_right _ hd)).2⟩⟩⟩
/-- The path of a message leads to the digest of the message with that piece. -/
theorem TreeV.prove_root {t : TreeV} (h : t.validE = 0) (hl : 0 ≤ t.l ∧ t.l ≤ 4294967295) (kz z1 z2 zs ys : List Int) (hyz : ys.length = zs.length) (hn : zs.length ≤ 1048576) {leaf m : Nat} (hleaf : leaf < lvs zs.length t.ln) (hm : (t.rowsOf zs.length).length - 1 = m)
  (hs : ∀ k, k ≠ leaf → nthL (cutZ t.ln ys) k = nthL (cutZ t.ln zs) k) :
  t.fitsQ zs.length leaf (t.stepsZ kz z1 z2 zs leaf m) (nthL (cutZ t.ln ys) leaf) ∧ t.rootE zs.length leaf (t.stepsZ kz z1 z2 zs leaf m) (nthL (cutZ t.ln ys) leaf) = 0 ∧ t.rootD kz z1 z2 zs.length leaf (t.stepsZ kz z1 z2 zs leaf m) (nthL (cutZ t.ln ys) leaf) = t.digZ kz z1 z2 ys := by
 have he := TreeV.spot_leaf h (show zs.length ≤ 4194304 by omega) hleaf
 have her := err_small h (show zs.length ≤ 4194304 by omega)
 have hR := TreeV.rows_is her
 have hln : 1 ≤ t.ln := by
  have := (TreeV.valid_facts h).2.2.2.2.2.2.2.2.1
  unfold TreeV.ln; omega
 have hfit : t.fitsQ zs.length leaf (t.stepsZ kz z1 z2 zs leaf m) (nthL (cutZ t.ln ys) leaf) := by
  refine ⟨?_, by rw [hm]; exact (TreeV.steps_fit h hl kz z1 z2 zs hn he hm).1⟩
  rw [cut_at hln, List.length_take, List.length_drop, hyz]
  have hsp := leaf_span hl he
  have hn0 : ¬ (1 ≤ 0 ∧ nth (t.rowsOf zs.length) 0 = 1) := by omega
  unfold wayS wayA at *
  by_cases h2 : leaf = nth (t.rowsOf zs.length) 0 - 1
  ·rw [spotIn_last' hn0 h2] at hsp ⊢
   simp only [if_true] at hsp ⊢
   rw [hR.first] at h2
   have : zs.length ≤ leaf * t.ln + t.ln := by
    unfold lvs at h2
    have h5 := cdiv_ge (m := zs.length) (d := t.ln) (k := leaf + 1) (by omega)
    by_cases h6 : zs.length = 0
    ·omega
    ·have h7 : cdiv zs.length t.ln ≤ leaf + 1 := by
      have := cdiv_pos (d := t.ln) (n := zs.length) (by omega)
      omega
     have := h5 h7
     rw [Nat.add_mul, Nat.one_mul] at this
     exact this
   omega
  ·rw [spotIn_mid' hn0 h2] at hsp ⊢
   simp only [if_true] at hsp ⊢
   rw [Nat.add_mul, Nat.one_mul] at hsp ⊢
   omega
 refine ⟨hfit, ?_, ?_⟩
 ·unfold TreeV.rootE
  rw [if_neg (by simp [he]), if_pos hfit]
 ·unfold TreeV.rootD
  rw [if_pos ⟨he, hfit⟩, hm]
  exact TreeV.path_root h hl kz z1 z2 zs ys hyz (by omega) (by rw [hR.first]; exact hleaf) hs m hm
theorem rows_at {B : Nat} {w : World} {v : Value} {L : List (List Int)} {ds : List Value} (h : DigV B w v L ds) : pRowsAt w v L := by
 rcases h.1.2 with ⟨rfl, e⟩ | ⟨g, cap, cur, rfl, -⟩
 ·exact ⟨none, 0, fun _ => undef, by rw [e], fun _ => rfl, .inl (List.eq_nil_of_length_eq_zero e)⟩
 ·refine ⟨_, cap, fun i => ds.getD i undef, rfl, (fun e => by cases e), ?_⟩
  by_cases h0 : L.length = 0
  ·exact .inl (List.eq_nil_of_length_eq_zero h0)
  ·obtain ⟨g', cap', e, -, h2, h3⟩ := row_at h.1 (by omega)
   simp only [Value.slice.injEq, Option.some.injEq, Addr.mk.injEq, and_true, true_and] at e
   obtain ⟨rfl, -⟩ := e
   refine .inr ⟨g, 0, rfl, h2, fun i hi => ⟨?_, (h.2 i hi).hold.holds8⟩⟩
   rw [Nat.zero_add]
   refine h3 i _ ?_
   have := h.len
   show ds[i]? = some (ds.getD i undef)
   rw [List.getD_eq_getElem?_getD, List.getElem?_eq_getElem (by omega)]; rfl
theorem steps_at {B m leaf : Nat} {w : World} {u : Value} {xs : List Value} {DS : List (List Value)} {t : TreeV} {kz z1 z2 zs : List Int} (ho : w.ownsRow B 49 2 u m xs) (h : ListsV B w xs (t.llZ kz z1 z2 zs leaf m) DS) : StepsAt w u (t.stepsZ kz z1 z2 zs leaf m) := by
 have hll := TreeV.llZ_length t kz z1 z2 zs leaf m
 have hsl := TreeV.stepsZ_length t kz z1 z2 zs leaf m
 rcases ho.2 with ⟨rfl, e⟩ | ⟨g, cap, cur, rfl, h1, h2, h3, h4, h5, h6⟩
 ·exact ⟨none, 0, fun _ => undef, fun _ => undef, by rw [hsl, e], fun _ => rfl, .inl (List.eq_nil_of_length_eq_zero (by omega))⟩
 ·refine ⟨_, cap, fun i => xs.getD (i * 2) undef, fun i => xs.getD (i * 2 + 1) undef, by rw [hsl], (fun e => by cases e), .inr ⟨g, 0, rfl, (Array.getElem?_eq_some_iff.1 h2).1, fun i hi => ?_⟩⟩
  rw [hsl] at hi
  have hx := h.lx
  have hc : ∀ j, j < m * 2 → w.cell? ⟨g, 0 + j, none⟩ = some (xs.getD j undef) := fun j hj => by
   rw [cell_of_heap h2 (0 + j), Nat.zero_add]
   have e : cur.toList[j]? = xs[j]? := by rw [← h6, List.getElem?_take, if_pos (by omega)]
   rw [← Array.getElem?_toList, e, List.getD_eq_getElem?_getD, List.getElem?_eq_getElem (by omega)]; rfl
  have ha := TreeV.llZ_at t kz z1 z2 zs leaf m i hi
  rw [TreeV.stepsZ_at _ _ _ _ _ _ hi]
  have r1 := rows_at (h.each (i * 2) (by omega))
  have r2 := rows_at (h.each (i * 2 + 1) (by omega))
  rw [ha.1] at r1
  rw [ha.2] at r2
  exact ⟨hc _ (by omega), by have := hc (i * 2 + 1) (by omega); rw [show 0 + (i * 2 + 1) = 0 + i * 2 + 1 by omega] at this; exact this, r1, r2⟩
end Go.Proofs.Ytahenngmaoellaa
