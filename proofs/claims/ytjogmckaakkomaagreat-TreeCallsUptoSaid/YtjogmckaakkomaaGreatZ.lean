/- All calls, by the reference; two like calls. No condition. -/
import Derived.Test.YtjogmckaakkomaaGreatY
import Derived.Test.YtjogmckaakkomaaGreatB47
set_option linter.all false
set_option maxRecDepth 100000
set_option maxHeartbeats 8000000
namespace Go.Proofs.YtjogmckaakkomaaGreat
open Go.ChangeShapes Go.WideShapes Go.ChangeAt Go.RowKit Go.Joins Go.Shelf Go.Maps
open Go.Lib (hid)
attribute [local go_sem] Oper.semAt_some
theorem take_flatG {α : Type} {L : List (List α)} {j : Nat} (h : j < L.length) : (L.take (j + 1)).flatten = (L.take j).flatten ++ L.getD j [] := by
 rw [List.take_succ, List.flatten_append]
 simp [List.getD_eq_getElem?_getD, h]
theorem TreeV.allC_at (t : TreeV) (kz z1 z2 zs : List Int) {m i : Nat} (h : i < m) : (t.allC kz z1 z2 zs m).getD i [] = t.callsR kz z1 z2 zs i := by simp [TreeV.allC, List.getD_eq_getElem?_getD, h]
theorem TreeV.callsR_len {t : TreeV} (h : t.validE = 0) (hl : 0 ≤ t.l ∧ t.l ≤ 4294967295) (kz z1 z2 zs : List Int) (r : Nat) : 1 ≤ (t.callsR kz z1 z2 zs r).length ∧ (t.callsR kz z1 z2 zs r).length ≤ zs.length + 1 := by
 have := TreeV.dataR_facts h hl kz z1 z2 zs r
 unfold TreeV.callsR
 rw [TreeV.rowC_length]
 exact ⟨this.1, this.2.1⟩
theorem TreeV.callsR_sw (t : TreeV) (a1 : Option Addr) (c1 : Nat) (a2 : Option Addr) (c2 : Nat) (a3 : Option Addr) (c3 : Nat) (kz z1 z2 zs : List Int) : ∀ r, (t.sw a1 c1 a2 c2 a3 c3).callsR kz z1 z2 zs r = t.callsR kz z1 z2 zs r
 | 0 => rfl
 | r + 1 => by
  show TreeV.rowC _ _ _ _ _ (TreeV.rootZ _ _ (TreeV.lvlZ _ _ _ _ _ r).length) (TreeV.upZ _ _ (TreeV.lvlZ _ _ _ _ _ r)) (TreeV.upZ _ _ (TreeV.lvlZ _ _ _ _ _ r)).length = _
  rw [TreeV.lvlZ_sw]
  rfl
/-- All calls of a tree's nodes (none of a tree that may not be). -/
def TreeV.calZ (t : TreeV) (kz z1 z2 zs : List Int) : List CallS := if t.validE = 0 then (t.allC kz z1 z2 zs ((t.rowsOf zs.length).length - 1 + 1)).flatten else []
theorem TreeV.calZ_sw (t : TreeV) (a1 : Option Addr) (c1 : Nat) (a2 : Option Addr) (c2 : Nat) (a3 : Option Addr) (c3 : Nat) (kz z1 z2 zs : List Int) : (t.sw a1 c1 a2 c2 a3 c3).calZ kz z1 z2 zs = t.calZ kz z1 z2 zs := by
 unfold TreeV.calZ TreeV.allC
 rw [show (t.sw a1 c1 a2 c2 a3 c3).callsR kz z1 z2 zs = t.callsR kz z1 z2 zs from funext (TreeV.callsR_sw t a1 c1 a2 c2 a3 c3 kz z1 z2 zs)]
 rfl
/-- What both Calls answer. -/
def CalIs (t : TreeV) (kz z1 z2 zs : List Int) (w : World) (e : Ending) (w' : World) : Prop :=
 ∃ u, e = .returned (.tuple #[u, .int .i64 t.validE]) ∧ CallsO w w.heap.size w' u (t.calZ kz z1 z2 zs) ∧ Below w.heap.size w w'
theorem calls_any (t : TreeV) (kz z1 z2 zs : List Int) (v : Value) (w : World) (hl : 0 ≤ t.l ∧ t.l ≤ 4294967295) (hk : Hold w (.slice t.ka t.kl t.kc) kz) (hs : Hold w (.slice t.sa t.sl t.sc) z1) (hp : Hold w (.slice t.pa t.pl t.pc) z2) (hv : Hold w v zs) (hn : zs.length ≤ 4194304) :
  Calls Tryz.prog 11 #[t.val, v] w fun e w' => CalIs t kz z1 z2 zs w e w' := by
 by_cases h : t.validE = 0
 ·refine (calls_ok t kz z1 z2 zs v w ⟨h, hl, hk, hs, hp⟩ hv hn).mono ?_
  rintro e w' ⟨u, rfl, ⟨R, hR, ho⟩, hb⟩
  have hL := TreeV.leafZ_facts h hl kz z1 z2 zs
  have hT := top_rows (err_small h hn) kz z1 z2 (leafZ_rows h hl kz z1 z2 zs) hL.2.2
  rw [TreeV.topAt_one hR hT] at ho
  refine ⟨u, by rw [h], ?_, hb⟩
  unfold TreeV.calZ
  rw [if_pos h, TreeV.allC_succ, List.flatten_append, List.flatten_singleton]
  exact ho
 ·refine (calls_err t v w h).mono ?_
  rintro e w' ⟨rfl, hb⟩
  exact ⟨_, rfl, by unfold TreeV.calZ; rw [if_neg h]; exact CallsO.nil _ _ _, hb⟩
theorem calls10_err (t : TreeV) (v : Value) (w : World) (h : t.validE ≠ 0) :
  Calls Tryz.prog 14 #[t.val, v] w fun e w' => e = .returned (.tuple #[.slice none 0 0, .int .i64 t.validE]) ∧ Below w.heap.size w w' := by
 obtain ⟨b0, hb0⟩ : ∃ b0, w.heap.size = b0 := ⟨_, rfl⟩
 have HVL := hid (fun W => levels_err t v W h)
 have hbA : Below b0 w (w.alloc (.cells #[.int .i64 t.k, .int .i64 t.d, .int .i64 t.f, .int .i64 t.p, .int .u32 t.l, .int .i64 t.i, .slice t.ka t.kl t.kc, .slice t.sa t.sl t.sc, .slice t.pa t.pl t.pc] 34)) := by rw [← hb0]; exact (Below.refl _ _).alloc (Nat.le_refl _) _
 have hrA := World.alloc_heap_new w (.cells #[.int .i64 t.k, .int .i64 t.d, .int .i64 t.f, .int .i64 t.p, .int .u32 t.l, .int .i64 t.i, .slice t.ka t.kl t.kc, .slice t.sa t.sl t.sc, .slice t.pa t.pl t.pc] 34)
 rw [hb0] at hrA
 generalize t.validE = ev at *
 have hq : (ev != 0) = true := by rw [bne_iff_ne]; exact h
 clear h
 unfold TreeV.val at *
 go_enter Tryz.func14, Tryz.ntmps14
 go_upto_region 1 with (fail)
 generalize w.alloc (.cells #[.int .i64 t.k, .int .i64 t.d, .int .i64 t.f, .int .i64 t.p, .int .u32 t.l, .int .i64 t.i, .slice t.ka t.kl t.kc, .slice t.sa t.sl t.sc, .slice t.pa t.pl t.pc] 34) = wA at *
 go_wp2_with ((with_reducible show wpList _ _ _ (Oper.mk _ (Op.load 34 _) _ _ _ _ :: _) _ _); refine wpList_load_row rfl 34 _ rfl b0 rfl _ _ _ _ hrA Tryz.underlying34 rfl (by kernel_rfl) ?_)
 refine (HVL.out wA).mono ?_; rintro e w2 ⟨rfl, hb2⟩
 have HB2 := hid (hbA.trans (hb2.mono (by have := (Array.getElem?_eq_some_iff.1 hrA).1; omega)))
 clear hrA hbA hb2
 go_wp2
 go_ret2
 exact ⟨rfl, by rw [hb0]; exact HB2.out⟩
theorem calls10_ok (t : TreeV) (kz z1 z2 zs : List Int) (v : Value) (w : World) (h : TreeOk t kz z1 z2 w) (hv : Hold w v zs) (hn : zs.length ≤ 4194304) :
  Calls Tryz.prog 14 #[t.val, v] w fun e w' => ∃ u, e = .returned (.tuple #[u, .int .i64 0]) ∧ CallsO w w.heap.size w' u (t.allC kz z1 z2 zs ((t.rowsOf zs.length).length - 1 + 1)).flatten ∧ Below w.heap.size w w' := by
 obtain ⟨b0, hb0⟩ : ∃ b0, w.heap.size = b0 := ⟨_, rfl⟩
 have HLV := hid (fun (W : World) (hb : Below b0 w W) => levels_ok t kz z1 z2 zs v w W h hv (hb0 ▸ hb) hn)
 have hR := TreeV.rows_is (err_small h.v hn)
 have hpn : t.pn ≤ 255 := by have := (TreeV.valid_facts h.v).2.2.2.2.2.2.2.1; unfold TreeV.pn; omega
 have hlen := hR.len
 have hmost := hR.most
 have hAL := t.allC_length kz z1 z2 zs ((t.rowsOf zs.length).length - 1 + 1)
 have HAN := hid (show ∀ i, i < (t.allC kz z1 z2 zs ((t.rowsOf zs.length).length - 1 + 1)).length → (t.allC kz z1 z2 zs ((t.rowsOf zs.length).length - 1 + 1)).getD i [] ≠ [] ∧ ((t.allC kz z1 z2 zs ((t.rowsOf zs.length).length - 1 + 1)).getD i []).length ≤ 8388608 from fun i hi => by
  rw [hAL] at hi
  rw [TreeV.allC_at t kz z1 z2 zs hi]
  have := TreeV.callsR_len h.v h.l kz z1 z2 zs i
  exact ⟨List.length_pos_iff.1 (by omega), by omega⟩)
 have HAM := hid (show ∀ l ∈ t.allC kz z1 z2 zs ((t.rowsOf zs.length).length - 1 + 1), l.length ≤ 8388608 from fun l hl => by
  obtain ⟨q, -, rfl⟩ := List.mem_map.1 hl
  have := (TreeV.callsR_len h.v h.l kz z1 z2 zs q).2
  omega)
 generalize t.allC kz z1 z2 zs ((t.rowsOf zs.length).length - 1 + 1) = AC at *
 have hACn : AC.length ≤ 256 := by omega
 have hAC1 : 1 ≤ AC.length := by omega
 have hbA : Below b0 w (w.alloc (.cells #[.int .i64 t.k, .int .i64 t.d, .int .i64 t.f, .int .i64 t.p, .int .u32 t.l, .int .i64 t.i, .slice t.ka t.kl t.kc, .slice t.sa t.sl t.sc, .slice t.pa t.pl t.pc] 34)) := by rw [← hb0]; exact (Below.refl _ _).alloc (Nat.le_refl _) _
 have hrA := World.alloc_heap_new w (.cells #[.int .i64 t.k, .int .i64 t.d, .int .i64 t.f, .int .i64 t.p, .int .u32 t.l, .int .i64 t.i, .slice t.ka t.kl t.kc, .slice t.sa t.sl t.sc, .slice t.pa t.pl t.pc] 34)
 rw [hb0] at hrA
 clear h hv hR hpn hlen hmost hAL
 unfold TreeV.val at *
 go_enter Tryz.func14, Tryz.ntmps14
 go_upto_region 1 with (fail)
 generalize w.alloc (.cells #[.int .i64 t.k, .int .i64 t.d, .int .i64 t.f, .int .i64 t.p, .int .u32 t.l, .int .i64 t.i, .slice t.ka t.kl t.kc, .slice t.sa t.sl t.sc, .slice t.pa t.pl t.pc] 34) = wA at *
 go_wp2_with ((with_reducible show wpList _ _ _ (Oper.mk _ (Op.load 34 _) _ _ _ _ :: _) _ _); refine wpList_load_row rfl 34 _ rfl b0 rfl _ _ _ _ hrA Tryz.underlying34 rfl (by kernel_rfl) ?_)
 refine (HLV.out wA hbA).mono ?_; rintro e w2 ⟨u, rfl, hl, hb2⟩
 have hsA : b0 < wA.heap.size := (Array.getElem?_eq_some_iff.1 hrA).1
 have HB2 := hid (hbA.trans (hb2.mono (show b0 ≤ wA.heap.size by omega)))
 have HLL := hid (hl.le (show b0 ≤ wA.heap.size by omega))
 obtain ⟨vs, hvo, hvx⟩ := hl
 obtain ⟨g, cap, rfl, -, hg2, hg3⟩ := row_at hvo (by omega)
 have hvl : vs.length = AC.length := by have := hvo.1; simpa using this
 have HG3 := hid hg3
 have HVX := hid (show ∀ i, i < AC.length → CallsO w b0 w2 (vs.getD i undef) (AC.getD i []) from fun i hi => (hvx i hi).le (by omega))
 obtain ⟨bN, hbN⟩ : ∃ bN, w2.heap.size = bN := ⟨_, rfl⟩
 have hb0N : b0 < bN := by have := hb2.size; omega
 have hACi : (AC.length : Int) ≤ 256 := by omega
 clear hvo hvx hg3 hb2 hrA hbA hsA
 go_wp2_with fail
 go_loopw [8, 9] (fun s i wr => ∃ j : Nat, i = .int .i64 (j : Nat) ∧ j ≤ AC.length ∧ CallsO w b0 wr s (AC.take j).flatten ∧ (∀ g, s.ownBlock = some g → bN ≤ g) ∧ Below bN w2 wr) (fun _ i _ => AC.length - (intOf i).toNat)
 case atStart => exact ⟨0, rfl, Nat.zero_le _, CallsO.nil _ _ _, (fun g h => by cases h), Below.refl _ _⟩
 case round =>
  obtain ⟨j, rfl, hj, ho, hoF, hb⟩ := hrel
  by_cases hlt : j < AC.length
  case pos =>
   have hlt2 : (j : Int) < AC.length := by omega
   have hvj := (HVX.out j hlt).below (show w.heap.size ≤ w2.heap.size by omega) (hbN ▸ hb)
   have hcj : w2.cell? ⟨g, j, none⟩ = some (vs.getD j undef) := HG3.out j _ (by rw [List.getD_eq_getElem?_getD, List.getElem?_eq_getElem (by omega)]; rfl)
   obtain ⟨X, hX⟩ : ∃ X, vs.getD j undef = X := ⟨_, rfl⟩
   rw [hX] at hvj hcj
   obtain ⟨cs, -, hcr, -⟩ := id hvj
   obtain ⟨a8, n8, k8, rfl⟩ := own_slice6 hcr
   obtain ⟨cs2, -, hcr2, -⟩ := id ho
   obtain ⟨a9, n9, k9, rfl⟩ := own_slice6 hcr2
   have hcw : wr.cell? ⟨g, j, none⟩ = some (.slice a8 n8 k8) := (hb.cell (p := ⟨g, j, none⟩) (show g < bN by omega)).trans hcj
   have hbr : bN ≤ wr.heap.size := by have := hb.size; omega
   have hgr : g < wr.heap.size := by omega
   have HVJ := hid hvj
   have HO := hid ho
   have HOF := hid hoF
   have HB := hid hb
   have hfl : (AC.take j).flatten.length + (AC.getD j []).length ≤ 1099511627776 := by
    have h1 := flat_bound (L := AC.take j) (n := 8388608) (fun l hl => HAM.out l (List.mem_of_mem_take hl))
    have h2 : 8388608 * (AC.take j).length ≤ 8388608 * 256 := Nat.mul_le_mul_left _ (by simp; omega)
    have h3 := (HAN.out j hlt).2
    omega
   have HFL := hid hfl
   clear hvj hcr hcr2 ho hoF hb hcj hX hfl
   go_wp2_with (at_builtin; refine wpList_catC (w0 := w) rfl _ _ rfl b0 (.slice a9 n9 k9) (.slice a8 n8 k8) (AC.take j).flatten (AC.getD j []) rfl HO.out rfl HVJ.out (HAN.out j hlt).1 HFL.out (by omega) (by omega) ?_; intro v' w' hc' hkb' hsp' hat')
   have hk : KB bN wr w' := ⟨hsp'.os, hsp'.tape, hsp'.output, hsp'.size, fun k hk => hsp'.block k (by omega) (fun e => by have := HOF.out k e; omega), hkb'.bytes⟩
   refine ⟨⟨j + 1, rfl, by omega, by rw [take_flatG hlt]; exact hc', fun g' hg' => ?_, HB.out.trans hk.below⟩, by simp [intOf]; omega⟩
   rcases hat' with h | h
   ·rw [h] at hg'; exact HOF.out g' hg'
   ·rw [h] at hg'; simp only [Option.some.injEq] at hg'; omega
  obtain rfl : j = AC.length := by omega
  rw [List.take_length] at ho
  obtain ⟨cs2, -, hcr2, -⟩ := id ho
  obtain ⟨a9, n9, k9, rfl⟩ := own_slice6 hcr2
  have HO := hid ho
  have HB := hid hb
  clear ho hoF hb hcr2
  go_wp2
  go_ret2
  exact ⟨_, rfl, by rw [hb0]; exact HO.out, by rw [hb0]; exact HB2.out.trans (HB.out.mono (by omega))⟩
theorem calls10_any (t : TreeV) (kz z1 z2 zs : List Int) (v : Value) (w : World) (hl : 0 ≤ t.l ∧ t.l ≤ 4294967295) (hk : Hold w (.slice t.ka t.kl t.kc) kz) (hs : Hold w (.slice t.sa t.sl t.sc) z1) (hp : Hold w (.slice t.pa t.pl t.pc) z2) (hv : Hold w v zs) (hn : zs.length ≤ 4194304) :
  Calls Tryz.prog 14 #[t.val, v] w fun e w' => CalIs t kz z1 z2 zs w e w' := by
 by_cases h : t.validE = 0
 ·refine (calls10_ok t kz z1 z2 zs v w ⟨h, hl, hk, hs, hp⟩ hv hn).mono ?_
  rintro e w' ⟨u, rfl, ho, hb⟩
  exact ⟨u, by rw [h], by unfold TreeV.calZ; rw [if_pos h]; exact ho, hb⟩
 ·refine (calls10_err t v w h).mono ?_
  rintro e w' ⟨rfl, hb⟩
  exact ⟨_, rfl, by unfold TreeV.calZ; rw [if_neg h]; exact CallsO.nil _ _ _, hb⟩
theorem refSame_ok (zs : List Int) (u v : Value) (w : World) (hu : Hold w u zs) (hv : Hold w v zs) :
  Calls Tryz.prog 29 #[u, v] w fun e w' => e = .returned (.bool true) ∧ ∃ m, w' = w.drewN m := by
 have hl : (zs.length : Int) ≤ 9223372036854775807 := by obtain ⟨a, c, -, h1, h2⟩ := hu.slice; omega
 obtain ⟨a, cap, rfl, h⟩ := hu.holds8
 obtain ⟨a', cap', rfl, h'⟩ := hv.holds8
 clear hu hv
 by_cases h0 : zs = []
 ·subst h0
  clear h h'
  go_enter Tryz.func29, Tryz.ntmps29
  go_wp2_with fail
  go_loopw [5] (fun i wr => i = .int .i64 0 ∧ w = wr) (fun _ _ => 0)
  case atStart => exact ⟨rfl, rfl⟩
  case round =>
   obtain ⟨rfl, rfl⟩ := hrel
   go_wp2
   go_ret
   exact ⟨rfl, 0, rfl⟩
 ·obtain ⟨b, off, rfl, hb1, hb2⟩ := h.resolve_left h0
  obtain ⟨b', off', rfl, hb1', hb2'⟩ := h'.resolve_left h0
  have H2 := hid hb2
  have H2' := hid hb2'
  clear h h' hb2 hb2'
  go_enter Tryz.func29, Tryz.ntmps29
  go_wp2_with fail
  go_loopw [5] (fun i wr => ∃ (k n : Nat), i = .int .i64 k ∧ k ≤ zs.length ∧ wr = w.drewN n) (fun i _ => zs.length - (intOf i).toNat)
  case atStart => exact ⟨0, 0, rfl, Nat.zero_le _, rfl⟩
  case round =>
   obtain ⟨k, n, rfl, hk, rfl⟩ := hrel
   by_cases hlt : k < zs.length
   ·have e1 : w.cell? ⟨b, off + k, none⟩ = some (.int .u8 (nthz zs k)) := H2.out k hlt
    have e2 : w.cell? ⟨b', off' + k, none⟩ = some (.int .u8 (nthz zs k)) := H2'.out k hlt
    go_wp2
    go_quiet (fail)
    go_wp2
    exact ⟨⟨k + 1, n + nq, by go_num, by omega, rfl⟩, by simp [intOf]; omega⟩
   ·obtain rfl : k = zs.length := by omega
    go_wp2
    go_ret
    exact ⟨rfl, n, rfl⟩
theorem CallAt.cells {w0 w : World} {B : Nat} {s : CallS} {c : List Value} (h : CallAt w0 B w s c) : ∃ bv kv dv, c = [.int .i64 s.k, bv, kv, .bool s.la, .int .i64 s.o, dv] ∧ Hold w bv s.bs ∧ Hold w kv s.kz ∧ Hold w dv s.ds := by
 obtain ⟨a1, n1, c1, a2, n2, c2, a3, n3, c3, rfl, h1, h2, h3⟩ := h
 exact ⟨_, _, _, rfl, h1.hold, h2.hold, h3.hold⟩
theorem alike10_ok (s : CallS) (bv1 kv1 dv1 bv2 kv2 dv2 : Value) (w : World) (h1 : Hold w bv1 s.bs) (h2 : Hold w kv1 s.kz) (h3 : Hold w dv1 s.ds) (h4 : Hold w bv2 s.bs) (h5 : Hold w kv2 s.kz) (h6 : Hold w dv2 s.ds) :
  Calls Tryz.prog 15 #[.agg #[.int .i64 s.k, bv1, kv1, .bool s.la, .int .i64 s.o, dv1], .agg #[.int .i64 s.k, bv2, kv2, .bool s.la, .int .i64 s.o, dv2]] w fun e w' => e = .returned (.bool true) ∧ Below w.heap.size w w' := by
 obtain ⟨b0, hb0⟩ : ∃ b0, w.heap.size = b0 := ⟨_, rfl⟩
 obtain ⟨b1, hb1⟩ : ∃ b1, (w.alloc (.cells #[.int .i64 s.k, bv1, kv1, .bool s.la, .int .i64 s.o, dv1] 25)).heap.size = b1 := ⟨_, rfl⟩
 have hsz : w.heap.size < (w.alloc (.cells #[.int .i64 s.k, bv1, kv1, .bool s.la, .int .i64 s.o, dv1] 25)).heap.size := (Array.getElem?_eq_some_iff.1 (World.alloc_heap_new w (.cells #[.int .i64 s.k, bv1, kv1, .bool s.la, .int .i64 s.o, dv1] 25))).1
 have hne : b0 < b1 := by rw [← hb0, ← hb1]; exact hsz
 have hbA : Below b0 w ((w.alloc (.cells #[.int .i64 s.k, bv1, kv1, .bool s.la, .int .i64 s.o, dv1] 25)).alloc (.cells #[.int .i64 s.k, bv2, kv2, .bool s.la, .int .i64 s.o, dv2] 25)) := by rw [← hb0]; exact ((Below.refl _ _).alloc (Nat.le_refl _) _).alloc (Nat.le_of_lt hsz) _
 have r0 : ((w.alloc (.cells #[.int .i64 s.k, bv1, kv1, .bool s.la, .int .i64 s.o, dv1] 25)).alloc (.cells #[.int .i64 s.k, bv2, kv2, .bool s.la, .int .i64 s.o, dv2] 25)).heap[b0]? = some (.cells #[.int .i64 s.k, bv1, kv1, .bool s.la, .int .i64 s.o, dv1] 25 (0, 0)) := by
  rw [← hb0]; exact (Below.heap_alloc _ _ _ hsz).trans (World.alloc_heap_new w _)
 have r1 : ((w.alloc (.cells #[.int .i64 s.k, bv1, kv1, .bool s.la, .int .i64 s.o, dv1] 25)).alloc (.cells #[.int .i64 s.k, bv2, kv2, .bool s.la, .int .i64 s.o, dv2] 25)).heap[b1]? = some (.cells #[.int .i64 s.k, bv2, kv2, .bool s.la, .int .i64 s.o, dv2] 25 (0, 0)) := by
  rw [← hb1]; exact World.alloc_heap_new (w.alloc _) _
 have S4 := hid (fun (W : World) (hb : Below b0 w W) => refSame_ok s.bs bv1 bv2 W (h1.below (hb0 ▸ hb)) (h4.below (hb0 ▸ hb)))
 have S5 := hid (fun (W : World) (hb : Below b0 w W) => refSame_ok s.kz kv1 kv2 W (h2.below (hb0 ▸ hb)) (h5.below (hb0 ▸ hb)))
 have S6 := hid (fun (W : World) (hb : Below b0 w W) => refSame_ok s.ds dv1 dv2 W (h3.below (hb0 ▸ hb)) (h6.below (hb0 ▸ hb)))
 clear h1 h2 h3 h4 h5 h6
 go_enter Tryz.func15, Tryz.ntmps15
 go_upto_region 1 with (fail)
 generalize (w.alloc (.cells #[.int .i64 s.k, bv1, kv1, .bool s.la, .int .i64 s.o, dv1] 25)).alloc (.cells #[.int .i64 s.k, bv2, kv2, .bool s.la, .int .i64 s.o, dv2] 25) = W at *
 have c00 : W.cell? ⟨b0, 0, none⟩ = some (.int .i64 s.k) := cell_of_heap r0 0
 have c01 : W.cell? ⟨b0, 1, none⟩ = some (bv1) := cell_of_heap r0 1
 have c02 : W.cell? ⟨b0, 2, none⟩ = some (kv1) := cell_of_heap r0 2
 have c03 : W.cell? ⟨b0, 3, none⟩ = some (.bool s.la) := cell_of_heap r0 3
 have c04 : W.cell? ⟨b0, 4, none⟩ = some (.int .i64 s.o) := cell_of_heap r0 4
 have c05 : W.cell? ⟨b0, 5, none⟩ = some (dv1) := cell_of_heap r0 5
 have c10 : W.cell? ⟨b1, 0, none⟩ = some (.int .i64 s.k) := cell_of_heap r1 0
 have c11 : W.cell? ⟨b1, 1, none⟩ = some (bv2) := cell_of_heap r1 1
 have c12 : W.cell? ⟨b1, 2, none⟩ = some (kv2) := cell_of_heap r1 2
 have c13 : W.cell? ⟨b1, 3, none⟩ = some (.bool s.la) := cell_of_heap r1 3
 have c14 : W.cell? ⟨b1, 4, none⟩ = some (.int .i64 s.o) := cell_of_heap r1 4
 have c15 : W.cell? ⟨b1, 5, none⟩ = some (dv2) := cell_of_heap r1 5
 have HA := hid hbA
 have hs0 : b0 < W.heap.size := (Array.getElem?_eq_some_iff.1 r0).1
 have hs1 : b1 < W.heap.size := (Array.getElem?_eq_some_iff.1 r1).1
 have q1 : (s.k == s.k) = true := beq_self_eq_true _
 have q2 : (s.la == s.la) = true := beq_self_eq_true _
 have q3 : (s.o == s.o) = true := beq_self_eq_true _
 clear r0 r1 hbA hb1 hsz
 go_wp2_with fail
 refine (S4.out _ HA.out).mono ?_; rintro e w4 ⟨rfl, m4, rfl⟩
 have HA4 := hid (HA.out.trans ((below_drewN W m4).mono (by omega)))
 go_wp2_with fail
 refine (S5.out _ HA4.out).mono ?_; rintro e w5 ⟨rfl, m5, rfl⟩
 have HA5 := hid (HA.out.trans ((below_drewN W (m4 + m5)).mono (by omega)))
 go_wp2_with fail
 refine (S6.out _ HA5.out).mono ?_; rintro e w6 ⟨rfl, m6, rfl⟩
 have HA6 := hid (HA.out.trans ((below_drewN W (m4 + m5 + m6)).mono (by omega)))
 go_wp2_with fail
 go_ret
 exact ⟨rfl, by rw [hb0]; exact HA6.out⟩
end Go.Proofs.YtjogmckaakkomaaGreat
