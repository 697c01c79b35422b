/- A tree's calls, rows and data: what the law of the nodes asks of them. No condition. -/
import Derived.Test.YtchepcilkcdemaaNQ
import Derived.Test.YtchepcilkcdemaaFA
import Derived.Test.YtchepcilkcdemaaFB
import Derived.Test.YtchepcilkcdemaaB43
import Derived.Test.YtchepcilkcdemaaB46
import Derived.Test.YtchepcilkcdemaaB45
import Derived.Deep.CondSized
import Derived.JoinedCond
set_option linter.all false
set_option maxRecDepth 100000
set_option maxHeartbeats 8000000
namespace Go.Proofs.Ytchepcilkcdemaa
open Go.ChangeShapes Go.WideShapes Go.ChangeAt Go.RowKit Go.Joins Go.Shelf Go.Maps
open Go.Lib (hid)
attribute [local go_sem] Oper.semAt_some
theorem nodeP_hold {t : TreeV} {kz z1 z2 : List Int} {w : World} (h : TreeOk t kz z1 z2 w) {row at_ : Nat} (hr : row ≤ 255) (ha : at_ < 281474976710656) (la rt : Bool) (ds : List Int) (dv bv kv : Value) (W : World)
  (ho : Hold W bv (t.blk z1 z2 row at_)) (hk : Hold W kv (keyL row kz)) (hd : Hold W dv ds) (hl : ds.length ≤ 1073741824) :
  Calls Try.prog 25 #[.agg #[.int .i64 t.k, bv, kv, .bool la, .int .i64 (t.outN rt), dv]] W fun e w' => ∃ u, e = .returned (.tuple #[u, .int .i64 0]) ∧ OwnB W.heap.size w' u (t.node kz z1 z2 row at_ la rt ds) ∧ Below W.heap.size W w' := by
 obtain ⟨h1, h2, h3, h4⟩ := h.okD hr ha
 rw [← TreeV.kB_big h.v]
 refine (nodeCall_any t.big _ _ ds la _ bv kv dv W ho hk hd (by omega) h1 h2 (h4 rt)).mono ?_
 rintro e w' ⟨⟨u, rfl, hu⟩, hb⟩
 exact ⟨u, rfl, ⟨TreeV.node_bounds t kz z1 z2 row at_ la rt ds, hu⟩, hb⟩
theorem TreeV.lvl_map (t : TreeV) (kz z1 z2 zs : List Int) (r : Nat) : (t.callsR kz z1 z2 zs r).map t.outC = t.lvlZ kz z1 z2 (t.leafZ kz z1 z2 zs) r := by
 rw [TreeV.lvl_is]
 unfold TreeV.callsR TreeV.rowC TreeV.rowZ
 rw [List.map_map]
 rfl
theorem nodes_facts {t : TreeV} {kz z1 z2 : List Int} {w : World} (h : TreeOk t kz z1 z2 w) (zs : List Int) (hn : zs.length ≤ 4194304) : ∃ (AC : List (List CallS)) (DD : Nat → List (List Int)),
  t.calZ kz z1 z2 zs = AC.flatten ∧ t.rowsZ kz z1 z2 zs = AC.map (·.map t.outC) ∧ 2 ≤ AC.length ∧ AC.length ≤ 256 ∧
  (∀ r, r < AC.length → (AC.getD r []).length = (DD r).length ∧ (AC.getD r []).length ≤ 8388608 ∧ (DD r).flatten.length ≤ 1073741824 ∧ ((AC.getD r []).map t.outC).flatten.length ≤ 1073741824 ∧ ∀ k, k < (DD r).length → ∀ s, (AC.getD r []).getD k .zero = s → s.ds = nthL (DD r) k ∧ ∀ (W : World) (bv kv dv : Value), Hold W bv s.bs → Hold W kv s.kz → Hold W dv s.ds →
   Calls Try.prog 25 #[.agg #[.int .i64 s.k, bv, kv, .bool s.la, .int .i64 s.o, dv]] W fun e w' => ∃ u, e = .returned (.tuple #[u, .int .i64 0]) ∧ OwnB W.heap.size w' u (t.outC s) ∧ Below W.heap.size W w') ∧
  (DD 0).flatten = zs ∧ (∀ r, r + 1 < AC.length → (DD (r + 1)).flatten = ((AC.getD r []).map t.outC).flatten) ∧ (AC.getD (AC.length - 1) []).map t.outC = [t.digZ kz z1 z2 zs] := by
 have he := err_small h.v hn
 have hR := TreeV.rows_is he
 have hpn : t.pn ≤ 255 := by have := (TreeV.valid_facts h.v).2.2.2.2.2.2.2.1; unfold TreeV.pn; omega
 have hlen := hR.len
 have hmost := hR.most
 have hL := TreeV.leafZ_facts h.v h.l kz z1 z2 zs
 have hln : 1 ≤ t.ln := by
  have := (TreeV.valid_facts h.v).2.2.2.2.2.2.2.2.1
  have := h.l
  unfold TreeV.ln; omega
 have hat : ∀ r, r < (t.rowsOf zs.length).length - 1 + 1 → (t.allC kz z1 z2 zs ((t.rowsOf zs.length).length - 1 + 1)).getD r [] = t.callsR kz z1 z2 zs r := fun r hr => TreeV.allC_at t kz z1 z2 zs hr
 have hfl : ∀ r, (t.lvlZ kz z1 z2 (t.leafZ kz z1 z2 zs) r).flatten.length ≤ 1073741824 := fun r => by
  have hF := TreeV.lvlZ_facts h.v kz z1 z2 hL.1 hL.2.2 r
  have := flatten_len64 hF.2.2
  have := hL.2.1
  have := hF.2.1
  omega
 have hdd : ∀ r, (t.dataR kz z1 z2 zs (r + 1)).flatten = (t.lvlZ kz z1 z2 (t.leafZ kz z1 z2 zs) r).flatten := fun r => TreeV.up_flat h.v (r + 1) _
 have hd0 : (t.dataR kz z1 z2 zs 0).flatten = zs := cut_flat hln zs
 refine ⟨t.allC kz z1 z2 zs ((t.rowsOf zs.length).length - 1 + 1), t.dataR kz z1 z2 zs, by unfold TreeV.calZ; rw [if_pos h.v], by unfold TreeV.rowsZ; rw [if_pos h.v], by rw [TreeV.allC_length]; omega, by rw [TreeV.allC_length]; omega, fun r hr => ?_, hd0, fun r hr => ?_, ?_⟩
 ·rw [TreeV.allC_length] at hr
  rw [hat r hr, TreeV.lvl_map]
  have hdf := TreeV.dataR_facts h.v h.l kz z1 z2 zs r
  have hcl : (t.callsR kz z1 z2 zs r).length = (t.dataR kz z1 z2 zs r).length := by unfold TreeV.callsR; rw [TreeV.rowC_length]
  refine ⟨hcl, by omega, ?_, hfl r, fun k hk s hs => ?_⟩
  ·cases r with
   | zero => rw [hd0]; omega
   | succ r => rw [hdd r]; exact hfl r
  ·rw [TreeV.callsR_at t kz z1 z2 zs hk] at hs
   subst hs
   exact ⟨rfl, fun W bv kv dv p1 p2 p3 => nodeP_hold h (by omega) (by omega) _ _ _ dv bv kv W p1 p2 p3 (by have := hdf.2.2 k; show (nthL _ _).length ≤ _; omega)⟩
 ·rw [TreeV.allC_length] at hr
  rw [hat r (by omega), TreeV.lvl_map]
  exact hdd r
 ·rw [TreeV.allC_length, Nat.add_sub_cancel, hat _ (by omega), TreeV.lvl_map]
  have hT := top_rows he kz z1 z2 (leafZ_rows h.v h.l kz z1 z2 zs) hL.2.2
  have h1 := (TreeV.top_len h.v kz z1 z2 hT).1
  obtain ⟨a, ha⟩ := List.length_eq_one_iff.1 h1
  unfold TreeV.digZ
  rw [if_pos h.v, ha]
  rfl
theorem nodes_any (t : TreeV) (kz z1 z2 zs : List Int) (w : World) (hl : 0 ≤ t.l ∧ t.l ≤ 4294967295) (hn : zs.length ≤ 4194304) :
  Calls Try.prog 24 #[t.val, .int .u64 zs.length] w fun e w' => ∃ n : Int, e = .returned (.tuple #[.int .u64 n, .int .i64 t.validE]) ∧ (t.validE = 0 → n = ((t.calZ kz z1 z2 zs).length : Nat)) ∧ Below w.heap.size w w' := by
 by_cases h : t.validE = 0
 ·have he := err_small h hn
  refine (shNodes_ok t hl zs.length (by omega) he w).mono ?_
  rintro e w' ⟨rfl, hb⟩
  refine ⟨_, by rw [h], fun _ => ?_, hb⟩
  have hc := TreeV.calls_count h hl kz z1 z2 zs hn
  have h2 : sumU (rowsL t.fn t.pn (lvs zs.length t.ln)) = (t.calZ kz z1 z2 zs).length := by
   rw [hc]
   refine sumU_sum ?_
   show (t.rowsOf zs.length).sum < _
   rw [← hc]
   unfold TreeV.calZ
   rw [if_pos h]
   have hR := TreeV.rows_is he
   have hpn : t.pn ≤ 255 := by have := (TreeV.valid_facts h).2.2.2.2.2.2.2.1; unfold TreeV.pn; omega
   have hmost := hR.most
   have hlen := hR.len
   have h3 := flat_bound (L := t.allC kz z1 z2 zs ((t.rowsOf zs.length).length - 1 + 1)) (n := 8388608) (fun l hl2 => by
    obtain ⟨q, -, rfl⟩ := List.mem_map.1 hl2
    have := (TreeV.callsR_len h hl kz z1 z2 zs q).2
    omega)
   rw [TreeV.allC_length] at h3
   have h4 : 8388608 * ((t.rowsOf zs.length).length - 1 + 1) ≤ 8388608 * 256 := Nat.mul_le_mul_left _ (by omega)
   omega
  rw [h2]
 ·have he : t.err zs.length = t.validE := by unfold TreeV.err; rw [if_pos h]
  refine (shNodes_err t hl zs.length (by omega) (by rw [he]; exact h) w).mono ?_
  rintro e w' ⟨rfl, hb⟩
  exact ⟨0, by rw [he], fun h2 => absurd h2 h, hb⟩
theorem own_hold {w : World} {B : Nat} {v : Value} {zs : List Int} (h : w.ownsRow B 5 1 v zs.length (zs.map encB)) (hz : ∀ z ∈ zs, 0 ≤ z ∧ z ≤ 255) : Hold w v zs := hold_of_own h hz
theorem flat_bytes {w : World} {B : Nat} {v : Value} {L : List (List Int)} (h : ListO B w v L) : ∀ z ∈ L.flatten, 0 ≤ z ∧ z ≤ 255 := fun z hz => by
 obtain ⟨l, hl, hzl⟩ := List.mem_flatten.1 hz
 obtain ⟨vs, -, hx⟩ := h
 obtain ⟨i, hi, rfl⟩ := List.mem_iff_getElem.1 hl
 have := hx i hi
 unfold nthL at this
 rw [List.getD_eq_getElem?_getD (l := L), List.getElem?_eq_getElem hi] at this
 exact this.1 z hzl
theorem take_flatN {L : List (List Int)} {k : Nat} (h : k < L.length) : (L.take (k + 1)).flatten = (L.take k).flatten ++ nthL L k := take_flat h
theorem below_apart {B : Nat} {w w' : World} {v : Value} (hs : Spare (fun k => v.ownBlock ≠ some k) w w') (hB : ∀ g, v.ownBlock = some g → B ≤ g) (h : B ≤ w.heap.size) : Below B w w' := ⟨hs.os, hs.tape, hs.output, hs.size, fun k hk => hs.block k (by omega) (fun e => by have := hB k e; omega)⟩
/-- The same list, told. -/
def EqL (a b : List Int) : Prop := a = b
theorem EqL.out {a b : List Int} (h : EqL a b) : a = b := h
/-- What the row below gave, joined. -/
def belZ (DD : Nat → List (List Int)) : Nat → List Int
 | 0 => []
 | r + 1 => (DD (r + 1)).flatten
theorem OwnB.apart {B : Nat} {w w' : World} {y v : Value} {zy : List Int} (h : OwnB B w y zy) (hs : Spare (fun k => v.ownBlock ≠ some k) w w') (hv : ∀ g, v.ownBlock = some g → g < B) : OwnB B w' y zy := by
 refine ⟨h.1, ?_⟩
 rcases h.2 with h2 | ⟨g, cap, cur, rfl, h1, h2, h3⟩
 ·exact .inl h2
 ·refine .inr ⟨g, cap, cur, rfl, h1, ?_, h3⟩
  rw [hs.block g (Array.getElem?_eq_some_iff.1 h2).1 fun e => by have := hv g e; omega]
  exact h2
theorem own_apart2 {B n T s : Nat} {w w' : World} {y v : Value} {xs : List Value} (h : w.ownsRow B T s y n xs) (hs : Spare (fun k => v.ownBlock ≠ some k) w w') (hv : ∀ g, v.ownBlock = some g → y.ownBlock ≠ some g) : w'.ownsRow B T s y n xs :=
 own_keep h fun g hg => hs.block g (own_block_lt h g hg) fun e => hv g e hg
theorem treeNodes_walk (t : TreeV) (kz z1 z2 zs : List Int) (v : Value) (w : World) (hl : 0 ≤ t.l ∧ t.l ≤ 4294967295) (h1 : Hold w (.slice t.ka t.kl t.kc) kz) (h2 : Hold w (.slice t.sa t.sl t.sc) z1) (h3 : Hold w (.slice t.pa t.pl t.pc) z2) (hv : Hold w v zs) (hn : zs.length ≤ 4194304) (hk : t.kl ≤ 70368744177664) (hs : t.sl ≤ 70368744177664) (hp : t.pl ≤ 70368744177664) :
  Calls Try.prog 7 #[t.val, v] w (Trues w) := by
 obtain ⟨b0, hb0⟩ : ∃ b0, w.heap.size = b0 := ⟨_, rfl⟩
 have HOWN := hid (fun (W : World) (hb : Below b0 w W) => own10_ok t kz z1 z2 W (h1.below (hb0 ▸ hb)) (h2.below (hb0 ▸ hb)) (h3.below (hb0 ▸ hb)) hk hs hp)
 have hha := fun (W : World) (a1 : Option Addr) (c1 : Nat) (a2 : Option Addr) (c2 : Nat) (a3 : Option Addr) (c3 : Nat) (hh : Hold W (.slice a1 t.kl c1) kz ∧ Hold W (.slice a2 t.sl c2) z1 ∧ Hold W (.slice a3 t.pl c3) z2) (hb : Below b0 w W) => hash_any (t.sw a1 c1 a2 c2 a3 c3) kz z1 z2 zs v W hl hh.1 hh.2.1 hh.2.2 (hv.below (hb0 ▸ hb)) hn
 have hca := fun (W : World) (a1 : Option Addr) (c1 : Nat) (a2 : Option Addr) (c2 : Nat) (a3 : Option Addr) (c3 : Nat) (hh : Hold W (.slice a1 t.kl c1) kz ∧ Hold W (.slice a2 t.sl c2) z1 ∧ Hold W (.slice a3 t.pl c3) z2) (hb : Below b0 w W) => calls_any (t.sw a1 c1 a2 c2 a3 c3) kz z1 z2 zs v W hl hh.1 hh.2.1 hh.2.2 (hv.below (hb0 ▸ hb)) hn
 have hro := fun (W : World) (a1 : Option Addr) (c1 : Nat) (a2 : Option Addr) (c2 : Nat) (a3 : Option Addr) (c3 : Nat) (hh : Hold W (.slice a1 t.kl c1) kz ∧ Hold W (.slice a2 t.sl c2) z1 ∧ Hold W (.slice a3 t.pl c3) z2) (hb : Below b0 w W) => rows_any (t.sw a1 c1 a2 c2 a3 c3) kz z1 z2 zs v W hl hh.1 hh.2.1 hh.2.2 (hv.below (hb0 ▸ hb)) hn
 have hno := fun (W : World) (a1 : Option Addr) (c1 : Nat) (a2 : Option Addr) (c2 : Nat) (a3 : Option Addr) (c3 : Nat) => nodes_any (t.sw a1 c1 a2 c2 a3 c3) kz z1 z2 zs W hl hn
 unfold DigIs at hha
 unfold CalIs at hca
 simp only [TreeV.digZ_sw, TreeV.calZ_sw, TreeV.rowsZ_sw, show ∀ a1 c1 a2 c2 a3 c3, (t.sw a1 c1 a2 c2 a3 c3).validE = t.validE from fun _ _ _ _ _ _ => rfl] at hha hca hro hno
 have hnf := fun (he : t.validE = 0) => nodes_facts (t := t) (kz := kz) (z1 := z1) (z2 := z2) (w := w) ⟨he, hl, h1, h2, h3⟩ zs hn
 generalize t.digZ kz z1 z2 zs = Z at *
 generalize t.calZ kz z1 z2 zs = CZ at *
 generalize t.rowsZ kz z1 z2 zs = RZ at *
 generalize t.validE = ev at *
 have HHA := hid hha
 have HCA := hid hca
 have HRO := hid hro
 have HNO := hid hno
 have HNF := hid hnf
 have HV := hid hv
 obtain ⟨va, vc, rfl, hvc1, hvc2⟩ := hv.slice
 have hju : IntKind.u64.wrap (zs.length : Int) = (zs.length : Int) := u64_wrap_id _ (by omega) (by omega)
 have hbA : Below b0 w (w.alloc (.cells #[.int .i64 t.k, .int .i64 t.d, .int .i64 t.f, .int .i64 t.p, .int .u32 t.l, .int .i64 t.i, .slice t.ka t.kl t.kc, .slice t.sa t.sl t.sc, .slice t.pa t.pl t.pc] 26)) := by rw [← hb0]; exact (Below.refl _ _).alloc (Nat.le_refl _) _
 have hrA := World.alloc_heap_new w (.cells #[.int .i64 t.k, .int .i64 t.d, .int .i64 t.f, .int .i64 t.p, .int .u32 t.l, .int .i64 t.i, .slice t.ka t.kl t.kc, .slice t.sa t.sl t.sc, .slice t.pa t.pl t.pc] 26)
 rw [hb0] at hrA
 have hee : (ev != ev) = false := by simp
 clear hl h1 h2 h3 hv hk hs hp hha hca hro hno hnf
 unfold TreeV.val at *
 go_enter Try.func7, Try.ntmps7
 go_upto_region 1 with (fail)
 generalize w.alloc (.cells #[.int .i64 t.k, .int .i64 t.d, .int .i64 t.f, .int .i64 t.p, .int .u32 t.l, .int .i64 t.i, .slice t.ka t.kl t.kc, .slice t.sa t.sl t.sc, .slice t.pa t.pl t.pc] 26) = wA at *
 have hsA : b0 < wA.heap.size := (Array.getElem?_eq_some_iff.1 hrA).1
 go_wp2_with fail
 refine (alive_ok wA).mono ?_; rintro e wq ⟨rfl, hbq⟩
 have hrq := rowStay hrA hbq
 have HBwq := hid (hbA.trans (hbq.mono (Nat.le_of_lt hsA)))
 have hswq : b0 < wq.heap.size := (Array.getElem?_eq_some_iff.1 hrq).1
 clear hrA hbA hbq
 go_wp2_with ((with_reducible show wpList _ _ _ (Oper.mk _ (Op.load 26 _) _ _ _ _ :: _) _ _); refine wpList_load_row rfl 26 _ rfl b0 rfl _ _ _ _ hrq Try.underlying26 rfl (by kernel_rfl) ?_)
 refine (HOWN.out wq HBwq.out).mono ?_; rintro e woA ⟨uA, rfl, hu, hb1⟩
 obtain ⟨a1, c1, a2, c2, a3, c3, rfl, k1, k2, k3⟩ := hu
 have HKA := hid (show Hold woA (.slice a1 t.kl c1) kz ∧ Hold woA (.slice a2 t.sl c2) z1 ∧ Hold woA (.slice a3 t.pl c3) z2 from ⟨k1.hold, k2.hold, k3.hold⟩)
 have HBwoA := hid (HBwq.out.trans (hb1.mono (Nat.le_of_lt hswq)))
 have hrwoA := rowStay hrq hb1
 have hswoA : b0 < woA.heap.size := by have := hb1.size; omega
 have HDwoA := hid hb1
 clear k1 k2 k3 hb1 hrq
 unfold TreeV.val
 go_wp2_with fail
 refine (HCA.out woA _ _ _ _ _ _ HKA.out HBwoA.out).mono ?_; rintro e w3 ⟨l, rfl, hlo, hb3⟩
 have hr3 := rowStay hrwoA hb3
 have HBw3 := hid (HBwoA.out.trans (hb3.mono (Nat.le_of_lt hswoA)))
 have hsw3 : b0 < w3.heap.size := (Array.getElem?_eq_some_iff.1 hr3).1
 have hs3 := hb3.size
 have HC3 := hid hlo
 obtain ⟨la, lc, rfl⟩ := hlo.form
 clear hlo hb3 hrwoA HKA HDwoA
 go_wp2_with ((with_reducible show wpList _ _ _ (Oper.mk _ (Op.load 26 _) _ _ _ _ :: _) _ _); refine wpList_load_row rfl 26 _ rfl b0 rfl _ _ _ _ hr3 Try.underlying26 rfl (by kernel_rfl) ?_)
 refine (HOWN.out w3 HBw3.out).mono ?_; rintro e woB ⟨uB, rfl, hu, hb1⟩
 obtain ⟨a1, c1, a2, c2, a3, c3, rfl, k1, k2, k3⟩ := hu
 have HKB := hid (show Hold woB (.slice a1 t.kl c1) kz ∧ Hold woB (.slice a2 t.sl c2) z1 ∧ Hold woB (.slice a3 t.pl c3) z2 from ⟨k1.hold, k2.hold, k3.hold⟩)
 have HBwoB := hid (HBw3.out.trans (hb1.mono (Nat.le_of_lt hsw3)))
 have hrwoB := rowStay hr3 hb1
 have hswoB : b0 < woB.heap.size := by have := hb1.size; omega
 have HDwoB := hid hb1
 clear k1 k2 k3 hb1 hr3
 unfold TreeV.val
 go_wp2_with fail
 refine (HRO.out woB _ _ _ _ _ _ HKB.out HBwoB.out).mono ?_; rintro e w4 ⟨rv, rvs, rfl, hrw, hb4⟩
 have hr4 := rowStay hrwoB hb4
 have HBw4 := hid (HBwoB.out.trans (hb4.mono (Nat.le_of_lt hswoB)))
 have hsw4 : b0 < w4.heap.size := (Array.getElem?_eq_some_iff.1 hr4).1
 have hb34 : Below w3.heap.size w3 w4 := HDwoB.out.trans (hb4.mono HDwoB.out.size)
 have HC4 := hid (HC3.out.below hs3 hb34)
 have hs4 : woA.heap.size ≤ w4.heap.size := by have := hb34.size; omega
 have HR4 := hid hrw
 obtain ⟨ra, rc, rfl, hRi⟩ := hrw.form
 clear hrw hb4 hrwoB HKB HDwoB HC3 hb34
 go_wp2_with ((with_reducible show wpList _ _ _ (Oper.mk _ (Op.load 26 _) _ _ _ _ :: _) _ _); refine wpList_load_row rfl 26 _ rfl b0 rfl _ _ _ _ hr4 Try.underlying26 rfl (by kernel_rfl) ?_)
 refine (HOWN.out w4 HBw4.out).mono ?_; rintro e woC ⟨uC, rfl, hu, hb1⟩
 obtain ⟨a1, c1, a2, c2, a3, c3, rfl, k1, k2, k3⟩ := hu
 have HKC := hid (show Hold woC (.slice a1 t.kl c1) kz ∧ Hold woC (.slice a2 t.sl c2) z1 ∧ Hold woC (.slice a3 t.pl c3) z2 from ⟨k1.hold, k2.hold, k3.hold⟩)
 have HBwoC := hid (HBw4.out.trans (hb1.mono (Nat.le_of_lt hsw4)))
 have hrwoC := rowStay hr4 hb1
 have hswoC : b0 < woC.heap.size := by have := hb1.size; omega
 have HDwoC := hid hb1
 clear k1 k2 k3 hb1 hr4
 unfold TreeV.val
 go_wp2_with fail
 refine (HHA.out woC _ _ _ _ _ _ HKC.out HBwoC.out).mono ?_; rintro e w5 ⟨d, rfl, hd, hb5⟩
 have hr5 := rowStay hrwoC hb5
 have HBw5 := hid (HBwoC.out.trans (hb5.mono (Nat.le_of_lt hswoC)))
 have hsw5 : b0 < w5.heap.size := (Array.getElem?_eq_some_iff.1 hr5).1
 have hb45 : Below w4.heap.size w4 w5 := HDwoC.out.trans (hb5.mono HDwoC.out.size)
 have HC5 := hid (HC4.out.below hs4 hb45)
 have hs5 : woA.heap.size ≤ w5.heap.size := by have := hb45.size; omega
 have HR5 := hid (HR4.out.below hb45)
 have HD := hid hd
 obtain ⟨da, dc, rfl, -, -⟩ := hd.hold.slice
 clear hd hb5 hrwoC HKC HDwoC HC4 HR4 hb45
 go_wp2_with ((with_reducible show wpList _ _ _ (Oper.mk _ (Op.load 26 _) _ _ _ _ :: _) _ _); refine wpList_load_row rfl 26 _ rfl b0 rfl _ _ _ _ hr5 Try.underlying26 rfl (by kernel_rfl) ?_)
 refine (HOWN.out w5 HBw5.out).mono ?_; rintro e woD ⟨uD, rfl, hu, hb1⟩
 obtain ⟨a1, c1, a2, c2, a3, c3, rfl, k1, k2, k3⟩ := hu
 have HKD := hid (show Hold woD (.slice a1 t.kl c1) kz ∧ Hold woD (.slice a2 t.sl c2) z1 ∧ Hold woD (.slice a3 t.pl c3) z2 from ⟨k1.hold, k2.hold, k3.hold⟩)
 have HBwoD := hid (HBw5.out.trans (hb1.mono (Nat.le_of_lt hsw5)))
 have hrwoD := rowStay hr5 hb1
 have hswoD : b0 < woD.heap.size := by have := hb1.size; omega
 have HDwoD := hid hb1
 clear k1 k2 k3 hb1 hr5
 unfold TreeV.val
 go_wp2_with fail
 refine (HNO.out woD _ _ _ _ _ _).mono ?_; rintro e w6 ⟨n, rfl, hcn, hb6⟩
 have HBw6 := hid (HBwoD.out.trans (hb6.mono (Nat.le_of_lt hswoD)))
 have hsw6 : b0 < w6.heap.size := by have := hb6.size; omega
 have hb56 : Below w5.heap.size w5 w6 := HDwoD.out.trans (hb6.mono HDwoD.out.size)
 have HC6 := hid (HC5.out.below hs5 hb56)
 have hs6 : woA.heap.size ≤ w6.heap.size := by have := hb56.size; omega
 have HR6 := hid (HR5.out.below hb56)
 have HD6 := hid (HD.out.kb (KB.of_below hb56 (Nat.zero_le _)))
 have HCN := hid hcn
 clear hb6 hrwoD HKD HDwoD HC5 HR5 HD hb56 hcn
 by_cases he : ev = 0
 case neg =>
  have q1 : (ev != 0) = true := by simp [he]
  clear he
  go_wp2
  go_ret
  exact ⟨rfl, by rw [hb0]; exact HBw6.out⟩
 have q1 : (ev != 0) = false := by simp [he]
 obtain ⟨AC, DD, e1, e2, e3, e4, e5, e6, e7, e8⟩ := HNF.out he
 obtain rfl := HCN.out he
 have hcu : IntKind.u64.wrap (CZ.length : Int) = (CZ.length : Int) := by
  obtain ⟨cs, -, ho, -⟩ := HC6.out
  rcases ho.2 with ⟨-, e⟩ | ⟨g, cap, cur, -, -, -, k4, k5, -⟩
  ·exact u64_wrap_id _ (by omega) (by omega)
  ·unfold maxLen at k5; exact u64_wrap_id _ (by omega) (by omega)
 have hcc : ((CZ.length : Int) != (CZ.length : Int)) = false := by simp
 have HZN := hid (show RZ.length = AC.length by rw [e2, List.length_map])
 obtain ⟨R, hR⟩ : ∃ R, RZ.length = R + 1 := ⟨RZ.length - 1, by have := HZN.out; omega⟩
 have hw : IntKind.i64.wrap ((RZ.length : Int) - 1) = (R : Int) := by rw [IntKind.wrap_i64] <;> omega
 have hRl : (R : Int) < RZ.length := by omega
 have hz2 : (2 : Int) ≤ RZ.length := by have := HZN.out; omega
 have hrl : RZ.getD R [] = [Z] := by
  rw [← e8, e2, show AC.length - 1 = R by have := HZN.out; omega]
  have hRA : R < AC.length := by have := HZN.out; omega
  rw [List.getD_eq_getElem?_getD, List.getD_eq_getElem?_getD, List.getElem?_map, List.getElem?_eq_getElem hRA]
  rfl
 obtain ⟨gR, kR, eR, hgR, hcR⟩ := HR6.out.at (Spoils.of_below (Below.refl _ _)) (show R < RZ.length by omega)
 have hxR := HR6.out.2.1 R (by omega)
 rw [hrl] at hxR
 obtain ⟨g8, c8, y8, e9, hg8, hc8, ho8⟩ := hxR.get (i := 0) (by simp)
 rw [e9] at hcR
 simp only [Value.slice.injEq, true_and] at eR
 obtain ⟨rfl, rfl⟩ := eR
 have hl1 : ([Z] : List (List Int)).length = 1 := rfl
 rw [hl1] at hcR
 have HY8 := hid (show Hold w6 y8 Z from ho8.hold)
 obtain ⟨ya, yc, rfl, -, -⟩ := ho8.hold.slice
 have HE1 := hid e1
 have HE2 := hid e2
 have HE5 := hid e5
 have HE6 := hid e6
 have HE7 := hid e7
 have HRR := hid hR
 clear e1 e2 e5 e6 e7 e8 e9 hxR ho8 hrl hR he hl1
 go_wp2_with fail
 refine (same10_ok Z _ _ w6 HY8.out HD6.out.hold).mono ?_; rintro e w7 ⟨rfl, m7, hm7⟩
 have hb67 : Below w6.heap.size w6 w7 := by rw [hm7]; exact below_drewN _ _
 have HC7 := hid (HC6.out.below hs6 hb67)
 have HR7 := hid (HR6.out.below hb67)
 have HBw7 := hid (HBw6.out.trans (hb67.mono (Nat.le_of_lt hsw6)))
 have hs7 : woA.heap.size ≤ w7.heap.size := by have := hb67.size; omega
 have hsw7 : b0 < w7.heap.size := by have := hb67.size; omega
 clear hm7 hb67 HY8 HD6 HC6 HR6 hgR hcR hg8 hc8 hw hRl HRR
 go_wp2_with fail
 go_loopw [13, 14, 15] (fun c be i wr => ∃ r : Nat, i = .int .i64 (r : Nat) ∧ r ≤ RZ.length ∧ c = .int .i64 ((AC.take r).flatten.length : Nat) ∧ (r < RZ.length → Hold wr be (belZ DD r)) ∧ Below w7.heap.size w7 wr) (fun _ _ i _ => RZ.length - (intOf i).toNat)
 case atStart => exact ⟨0, rfl, Nat.zero_le _, rfl, fun _ => ⟨fun z hz => by simp [belZ] at hz, .inl ⟨rfl, rfl⟩⟩, Below.refl _ _⟩
 case round =>
  obtain ⟨r, rfl, hr, rfl, hbe, hb⟩ := hrel
  rename World => wq
  by_cases hlt : r < RZ.length
  case pos =>
   have hlt2 : (r : Int) < RZ.length := by omega
   have hra : r < AC.length := by have := HZN.out; omega
   obtain ⟨a1, a2, a3, a4, a5⟩ := HE5.out r hra
   have hbe := hbe hlt
   have HTK := hid (show (AC.take (r + 1)).flatten.length = (AC.take r).flatten.length + (AC.getD r []).length by
    rw [List.take_succ, List.flatten_append, List.length_append, List.getD_eq_getElem?_getD, List.getElem?_eq_getElem hra]; simp)
   have HFG := hid (fun (k : Nat) (hk : k < (AC.getD r []).length) => flat_getD (d := CallS.zero) hra hk)
   rw [← HE1.out] at HFG
   have HOG := hid (show RZ.getD r [] = (AC.getD r []).map t.outC by
    rw [HE2.out, List.getD_eq_getElem?_getD, List.getD_eq_getElem?_getD, List.getElem?_map, List.getElem?_eq_getElem hra]; rfl)
   have HN7 := hid (fun (h : r + 1 < RZ.length) => HE7.out r (by have := HZN.out; omega))
   obtain ⟨bs, hbs⟩ : ∃ bs, (AC.take r).flatten.length = bs := ⟨_, rfl⟩
   rw [hbs] at HTK HFG ⊢
   obtain ⟨gq, kq, eq, hgq, hcq⟩ := HR7.out.at (Spoils.of_below hb) hlt
   have hxq := (HR7.out.2.1 r hlt).below hb
   simp only [Value.slice.injEq, Option.some.injEq, Addr.mk.injEq, and_true, true_and] at eq
   obtain ⟨hgg, hkk⟩ := eq
   subst hgg
   subst hkk
   obtain ⟨xq, hxq2⟩ : ∃ x, rvs.getD r undef = x := ⟨_, rfl⟩
   rw [hxq2] at hcq hxq
   rw [HOG.out] at hxq
   generalize AC.getD r [] = S at *
   obtain ⟨D, hD⟩ : ∃ D, DD r = D := ⟨_, rfl⟩
   rw [hD] at a1 a3 a5
   obtain ⟨O, hO⟩ : ∃ O, S.map t.outC = O := ⟨_, rfl⟩
   rw [hO] at hxq a4 HN7
   have hOS : O.length = S.length := by rw [← hO, List.length_map]
   have HA5 := hid (show ∀ k, k < O.length → ∀ s, S.getD k .zero = s → nthL O k = t.outC s ∧ s.ds = nthL D k ∧ ∀ (W : World) (bv kv dv : Value), Hold W bv s.bs → Hold W kv s.kz → Hold W dv s.ds →
     Calls Try.prog 25 #[.agg #[.int .i64 s.k, bv, kv, .bool s.la, .int .i64 s.o, dv]] W fun e w' => ∃ u, e = .returned (.tuple #[u, .int .i64 0]) ∧ OwnB W.heap.size w' u (t.outC s) ∧ Below W.heap.size W w' from fun k hk s hs => ⟨by
    rw [← hO, ← hs]
    unfold nthL
    rw [List.getD_eq_getElem?_getD, List.getD_eq_getElem?_getD, List.getElem?_map, List.getElem?_eq_getElem (by omega)]
    rfl, a5 k (by omega) s hs⟩)
   obtain ⟨x8, k8, rfl, hOi⟩ := hxq.form
   have HXQ := hid hxq
   have HD := hid hD
   have HOS := hid (show O.length = S.length ∧ D.length = S.length ∧ S.length ≤ 8388608 from ⟨hOS, a1.symm, a2⟩)
   have HA3 := hid a3
   have HA4 := hid a4
   have HBE := hid hbe
   have HBQ := hid hb
   obtain ⟨bM, hbM⟩ : ∃ bM, wq.heap.size = bM := ⟨_, rfl⟩
   have hs7q := hb.size
   clear hbe hb a1 a2 a3 a4 a5 hxq hxq2 hD hO hOS hbs
   go_wp2_with fail
   go_loopw [13, 16, 17, 18] (fun c go ab i wr => ∃ k q : Nat, i = .int .i64 (k : Nat) ∧ k ≤ O.length ∧ c = .int .i64 (q : Nat) ∧ Hid (q = bs + k) ∧ wr.ownsRow bM 5 1 go ((D.take k).flatten).length ((D.take k).flatten.map encB) ∧ wr.ownsRow bM 5 1 ab ((O.take k).flatten).length ((O.take k).flatten.map encB) ∧ (∀ g, go.ownBlock = some g → ab.ownBlock ≠ some g) ∧ Below bM wq wr) (fun _ _ _ i _ => O.length - (intOf i).toNat)
   case atStart => exact ⟨0, bs, rfl, Nat.zero_le _, rfl, hid rfl, World.ownsRow_nil _ _ _ _, World.ownsRow_nil _ _ _ _, (fun g h => by cases h), Below.refl _ _⟩
   case round =>
    obtain ⟨k, q, rfl, hk, rfl, HQ, hgo, hab, hap, hb⟩ := hrel
    have hcr : wr.cell? ⟨gR, r, none⟩ = some (.slice x8 O.length k8) := (hb.cell (p := ⟨gR, r, none⟩) (show gR < bM by omega)).trans hcq
    have hbMr : bM ≤ wr.heap.size := by have := hb.size; omega
    have hgr : gR < wr.heap.size := by omega
    by_cases hkt : k < O.length
    case pos =>
     have hkt2 : (k : Int) < O.length := by omega
     obtain ⟨f1, f2⟩ := HFG.out k (by have := HOS.out.1; omega)
     rw [← HQ.out] at f1 f2
     obtain ⟨s, hs⟩ : ∃ s, S.getD k .zero = s := ⟨_, rfl⟩
     rw [hs] at f2
     obtain ⟨b1, b2, b3⟩ := HA5.out k hkt s hs
     obtain ⟨g1, k1, cur, bv, kv, dv, e1, -, hg1, hc1, p1, p2, p3⟩ := ((HC7.out.below hs7 HBQ.out).below (by omega) (hbM ▸ hb)).get f1 f2
     simp only [Value.slice.injEq, true_and] at e1
     obtain ⟨rfl, rfl⟩ := e1
     obtain ⟨g2, k2, y2, e2, hg2, hc2, ho2⟩ := (HXQ.out.below (hbM ▸ hb)).get hkt
     simp only [Value.slice.injEq, true_and] at e2
     obtain ⟨rfl, rfl⟩ := e2
     have f1' : (q : Int) < CZ.length := by omega
     have HB1 : EqL (nthL O k) (t.outC s) := b1
     have HB2 : EqL s.ds (nthL D k) := b2
     have HCL := hid (b3 wr bv kv dv p1 p2 p3)
     have HG1 := hid hg1
     have HC1 := hid hc1
     have HP3 := hid p3
     have HO2 := hid ho2.hold
     obtain ⟨da1, dc1, rfl, -, -⟩ := p3.slice
     obtain ⟨ya2, yc2, rfl, -, -⟩ := ho2.hold.slice
     have HGO := hid hgo
     have HAB := hid hab
     have HAPP := hid hap
     have HBB := hid hb
     obtain ⟨ga, gn, gc, rfl⟩ := own_slice hgo
     obtain ⟨aa, an, ac, rfl⟩ := own_slice hab
     have hg1l : g1 < wr.heap.size := (Array.getElem?_eq_some_iff.1 hg1).1
     have HTD : EqL _ _ := take_flatN (L := D) (k := k) (by have := HOS.out; omega)
     have HTO : EqL _ _ := take_flatN (L := O) (k := k) hkt
     clear f1 f2 hs b1 b2 b3 hg1 hc1 p1 p2 p3 ho2 hgo hab hap hb
     go_wp2_with ((with_reducible show wpList _ _ _ (Oper.mk _ (Op.load 48 _) _ _ _ _ :: _) _ _); refine wpList_plain rfl fun K hK => wp_load_part 48 _ rfl g1 (q * 6) rfl 48 cur #[.int .i64 s.k, bv, kv, .bool s.la, .int .i64 s.o, .slice da1 s.ds.length dc1] (0, 0) _ HG1.out Try.underlying48 rfl (by kernel_rfl) HC1.out (hK _ _ ?_))
     refine HCL.out.mono ?_; rintro e w8 ⟨b, rfl, hbo, hb8⟩
     rw [← HB1.out] at hbo
     obtain ⟨ba, bc, rfl, -, -⟩ := hbo.hold.slice
     have hs8 := hb8.size
     have hc8r := (hb8.cell (p := ⟨gR, r, none⟩) hgr).trans hcr
     have hc8y := (hb8.cell (p := ⟨g2, k, none⟩) hg2).trans hc2
     have hg2l : g2 < wr.heap.size := hg2
     have HU8 := hid hbo
     have HO8 := hid (HO2.out.below hb8)
     have HB8 := hid hb8
     clear hbo hb8 hcr hc2
     go_wp2_with fail
     refine (same10_ok _ _ _ w8 HU8.out.hold HO8.out).mono ?_; rintro e w9 ⟨rfl, m9, hm9⟩
     have hb9 : Below w8.heap.size w8 w9 := by rw [hm9]; exact below_drewN _ _
     have hb19 : Below wr.heap.size wr w9 := HB8.out.trans (hb9.mono hs8)
     have hs9 := hb19.size
     have hg19 := (hb19.block g1 hg1l).trans HG1.out
     have hd5 : w9.cell? ⟨g1, q * 6 + 5, none⟩ = some (.slice da1 s.ds.length dc1) := (cell_of_heap hg19 (q * 6 + 5)).trans (HC1.out 5 (by omega))
     have hg19l : g1 < w9.heap.size := by omega
     have HP9 := hid (HP3.out.below hb19)
     have HU9 := hid (HU8.out.kb (KB.of_below hb9 (Nat.zero_le _)))
     have HGO9 := hid (ownsRow_same' HGO.out (fun g _ hg => hb19.block g hg))
     have HAB9 := hid (ownsRow_same' HAB.out (fun g _ hg => hb19.block g hg))
     have HB19 := hid (HBB.out.trans (hb19.mono hbMr))
     have hbd1 : ((D.take k).flatten).length + s.ds.length ≤ 1073741824 := by
      have h1 := flatten_le_of_sub (List.take_sublist (k + 1) D)
      have h2 := HA3.out
      rw [HTD.out, List.length_append, ← HB2.out] at h1
      omega
     have hbd2 : ((O.take k).flatten).length + (nthL O k).length ≤ 1073741824 := by
      have h1 := flatten_le_of_sub (List.take_sublist (k + 1) O)
      have h2 := HA4.out
      rw [HTO.out, List.length_append] at h1
      omega
     have HBD1 := hid hbd1
     have HBD2 := hid hbd2
     clear hm9 hb9 hb19 hg19 HU8 HO8 HB8 hc8r hc8y hbd1 hbd2 hs8
     go_upto_region 28 with (at_builtin; refine wpList_catO rfl _ _ rfl bM (.slice ga gn gc) (.slice da1 s.ds.length dc1) (D.take k).flatten s.ds rfl HGO9.out rfl HP9.out (by have := HBD1.out; omega) (by omega) ?_; intro v1 wX j1 j2 j3; obtain ⟨va1, vn1, vc1, rfl⟩ := own_slice j1)
     have hlg : ∀ g, (Value.slice ga gn gc).ownBlock = some g → g < wr.heap.size := fun g hg => own_block_lt HGO.out g hg
     have HU10 := hid (HU9.out.apart j2 hlg)
     have HAB10 := hid (own_apart2 HAB9.out j2 (fun g hg => HAPP.out g hg))
     have HB10 := hid (HB19.out.trans (below_apart j2 (fun g hg => own_block_ge HGO.out g hg) (by omega)))
     have hs10 := j2.size
     have HJ1 := hid j1
     have HAP1 := hid (show ∀ g, (Value.slice va1 vn1 vc1).ownBlock = some g → (Value.slice aa an ac).ownBlock ≠ some g from fun g hg e => by
      rcases j3 with h | h
      ·rw [h] at hg; exact HAPP.out g hg e
      ·rw [h] at hg
       simp only [Option.some.injEq] at hg
       have := own_block_lt HAB9.out g e
       omega)
     have hqm : (q : Int) + 1 ≤ 9223372036854775807 := by
      obtain ⟨cs, -, ho, -⟩ := HC7.out
      rcases ho.2 with ⟨-, e⟩ | ⟨g, cap, cur, -, -, -, k4, k5, -⟩
      ·omega
      ·unfold maxLen at k5; omega
     clear j1 j2 j3 HU9 HAB9 HGO9 HB19 hlg HAPP
     go_wp2_with (at_builtin; refine wpList_catO rfl _ _ rfl bM (.slice aa an ac) (.slice ba (nthL O k).length bc) (O.take k).flatten (nthL O k) rfl HAB10.out rfl HU10.out.hold (by have := HBD2.out; omega) (by omega) ?_; intro v2 wY j1 j2 j3)
     refine ⟨⟨k + 1, q + 1, rfl, by omega, rfl, hid (by have := HQ.out; omega), ?_, ?_, ?_, HB10.out.trans (below_apart j2 (fun g hg => own_block_ge HAB10.out g hg) (by omega))⟩, by simp [intOf]; omega⟩
     ·rw [HTD.out, ← HB2.out]
      exact own_apart2 HJ1.out j2 (fun g hg e => HAP1.out g e hg)
     ·rw [HTO.out]; exact j1
     ·intro g hg e
      rcases j3 with h | h
      ·rw [h] at e; exact HAP1.out g hg e
      ·rw [h] at e
       simp only [Option.some.injEq] at e
       have := own_block_lt HJ1.out g hg
       omega
    obtain rfl : k = O.length := by omega
    rw [List.take_length] at hab
    rw [List.take_of_length_le (by have := HOS.out; omega)] at hgo
    have HOB := hid (flat_bytes HXQ.out)
    have HABH := hid (own_hold hab HOB.out)
    have hbqr : Below w7.heap.size w7 wr := HBQ.out.trans ((hbM ▸ hb).mono hs7q)
    have HQR := hid hbqr
    have hs7r := hbqr.size
    have HVR := hid (HV.out.below (hb0 ▸ (HBw7.out.trans (hbqr.mono (Nat.le_of_lt hsw7)))))
    have HBER := hid (HBE.out.below (hbM ▸ hb))
    clear hb hbqr hap
    by_cases hr0 : r = 0
    case' pos =>
     have qr : ((r : Int) == 0) = true := by rw [hr0]; rfl
     have qg : ¬ ((r : Int) > 0) := by omega
     have qg2 : (r : Int) ≤ 0 := by omega
     have hz : D.flatten = zs := by rw [← HD.out, hr0]; exact HE6.out
     have HGH := hid (show Hold wr u16 zs from by rw [hz] at hgo; exact own_hold hgo HV.out.1)
     clear hr0 hz hgo hab
     go_wp2_with fail
     refine (same10_ok zs _ _ wr HGH.out HVR.out).mono ?_; rintro e w12 ⟨rfl, m12, hm12⟩
     have hb12 : Below wr.heap.size wr w12 := by rw [hm12]; exact below_drewN _ _
     have HQ12 := hid (HQR.out.trans (hb12.mono hs7r))
     have HAB12 := hid (HABH.out.below hb12)
     clear hm12 hb12
     go_wp2_with fail
    case' neg =>
     have qr : ((r : Int) == 0) = false := by simp [hr0]
     have qg : (0 : Int) < (r : Int) := by omega
     have hz : belZ DD r = D.flatten := by
      rw [← HD.out]
      cases r with
      | zero => exact absurd rfl hr0
      | succ r => rfl
     have HGH := hid (show Hold wr u16 (belZ DD r) from by rw [← hz] at hgo; exact own_hold hgo HBER.out.1)
     clear hr0 hz hgo hab
     go_wp2_with fail
     refine (same10_ok _ _ _ wr HGH.out HBER.out).mono ?_; rintro e w12 ⟨rfl, m12, hm12⟩
     have hb12 : Below wr.heap.size wr w12 := by rw [hm12]; exact below_drewN _ _
     have HQ12 := hid (HQR.out.trans (hb12.mono hs7r))
     have HAB12 := hid (HABH.out.below hb12)
     clear hm12 hb12
     go_wp2_with fail
    all_goals
     refine ⟨⟨r + 1, rfl, by omega, ?_, fun h => ?_, HQ12.out⟩, by simp [intOf]; omega⟩
     ·rw [HTK.out, HQ.out, HOS.out.1]
     ·show Hold _ _ (DD (r + 1)).flatten
      rw [HN7.out h]
      exact HAB12.out
  obtain rfl : r = RZ.length := by omega
  have e : (AC.take RZ.length).flatten.length = CZ.length := by rw [HZN.out, List.take_length, HE1.out]
  rw [e]
  have HB := hid (HBw7.out.trans (hb.mono (Nat.le_of_lt hsw7)))
  clear e hb hbe
  go_wp2
  go_ret
  exact ⟨rfl, by rw [hb0]; exact HB.out⟩
end Go.Proofs.Ytchepcilkcdemaa
namespace Go.Proofs.Ytchepcilkcdemaa
open Go.ChangeShapes Go.WideShapes Go.ChangeAt Go.RowKit Go.Joins Go.Shelf Go.Maps
open Go.Lib (hid)
theorem treeNodes_call {H : Type} (enc : TypeId × Value → H) (W : World) (base : Nat) (args : Array Value) (ds : List (DataW H)) (p : List MemPlace)
  (hval : ∀ (j : Nat) t v, Try.f7.params[j]? = some t → args[j]? = some v → Value.okWide Try.prog W .any base t v)
  (hA : DataW.TrodAll enc Try.prog W 0 (fun _ => true) true Try.f7.params.toList args.toList ds p) (hlt : ∀ x ∈ p, x.block < W.heap.size)
  (hk : Rows.uptoSmall H ds = true) :
  Calls Try.prog 7 args W (Trues W) := by
 rw [Try.params7] at hA hval
 obtain ⟨v0, v1, d0, d1, p0, p1, rfl, rfl, rfl, h0, h1⟩ := trodAll_two hA
 have hb : Rows.uptoBulk d0 + (Rows.uptoBulk d1 + 0) ≤ 1048576 := of_decide_eq_true hk
 obtain ⟨t, kz, z1, z2, rfl, hl, ht, b1, b2, b3⟩ := openH_tree (hval 0 26 v0 rfl rfl) h0 (fun x hx => hlt x (by simp [hx]))
 obtain ⟨zs, hz, hm⟩ := openH_bytes (hval 1 24 v1 rfl rfl) h1 (fun x hx => hlt x (by simp [hx]))
 have e1 := hold_len ht.k
 have e2 := hold_len ht.s
 have e3 := hold_len ht.p
 exact treeNodes_walk t kz z1 z2 zs v1 W hl ht.k ht.s ht.p hz (by omega) (by omega) (by omega) (by omega)
theorem treeNodes_lifted (os : Os) (started : os.Started) (H : Type) (enc : TypeId × Value → H) (F0 : Stop.Interp) :
  ReturnsInHanded {} Try.checked os 7 .any ((Rows.OpenSpec.upto Rows.treeNodesSpec).pre6 enc Try.prog Try.f7 Rows.treeNodesUptoRow.domain false) (((Rows.OpenSpec.upto Rows.treeNodesSpec).at F0).post enc Try.prog Try.f7 false true false false) := by
 refine returnsInHanded_of_cond_sized (C := Try.checked) (s := Rows.OpenSpec.upto Rows.treeNodesSpec) (k := Rows.uptoSmall) rfl own started (by kernel_rfl) Try.func7
  (OpenSpec.witness (enc := enc) (C := Try.checked) (s := Rows.OpenSpec.upto Rows.treeNodesSpec) (k := Rows.uptoSmall) rfl false ⟨#[], #[.agg #[.int .i64 0, .int .i64 0, .int .i64 0, .int .i64 0, .int .u32 0, .int .i64 0, .slice none 0 0, .slice none 0 0, .slice none 0 0], .slice none 0 0], []⟩ 40 (by kernel_rfl) (by kernel_rfl) (by kernel_rfl)
   (x := ([.agg [.lit (.int .i64 0), .lit (.int .i64 0), .lit (.int .i64 0), .lit (.int .i64 0), .lit (.int .u32 0), .lit (.int .i64 0), .nil, .nil, .nil], .nil], [], [])) (by kernel_rfl) (by kernel_rfl) (by kernel_rfl)) ?_
 intro W base args ds gs before hval0 hW hcnd hk hz _
 have hW' := hW
 obtain ⟨p, q, hA0, hV, rfl, hfz, hnd⟩ := hW
 have hA : DataW.TrodAll enc Try.prog W 0 (fun _ => true) true Try.f7.params.toList args.toList ds p := hA0
 obtain ⟨rfl, rfl⟩ := trodVars_none hV
 have hk' : Rows.uptoSmall H ds = true := by rw [← List.append_nil ds]; exact hk
 refine (treeNodes_call enc W base args ds p hval0 hA (fun x hx => hW'.lt x (by simpa using hx)) hk').mono fun e W' h => ⟨_, h.1, ?_⟩
 refine post_of_trues (s := (Rows.OpenSpec.upto Rows.treeNodesSpec).at F0) laidOut _ rfl Try.underlying4 (by decide +kernel) rfl hW' ?_ h.2
 have hA' := hA
 rw [Try.params7] at hA'
 obtain ⟨v0, v1, d0, d1, p0, p1, rfl, rfl, _⟩ := trodAll_two hA'
 rfl
theorem treeNodes_holds : Rows.TreeNodesUptoSaid :=
 OpenClaim.holds_of_cond 7 Try.f7 rfl rfl rfl rfl rfl rfl rfl ⟨rfl, rfl, rfl, rfl, rfl⟩ rfl rfl rfl rfl rfl (by kernel_rfl) Try.func7 (by kernel_rfl)
  (of_decide_eq_true (by kernel_rfl)) (by unfold Func.isWrapper; first | (rw [if_pos (by decide +kernel)]; kernel_rfl) | (rw [if_neg (by decide +kernel)]; exact ⟨rfl, rfl⟩))
  (fun os started H enc _ F0 => by rw [OpenClaim.pre_of_none' rfl]; exact treeNodes_lifted os started H enc F0)
#print axioms treeNodes_holds
end Go.Proofs.Ytchepcilkcdemaa
