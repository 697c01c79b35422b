/- Two slices of bytes compared, by the program and by the reference. No condition. -/
import Derived.Test.YtjogmckaakkomaaGreatK26
import Derived.Laws.BytesArg
import Derived.BigQuiet
import Derived.Deep.QuietTactic
namespace Go.Proofs.YtjogmckaakkomaaGreat
open Go.ChangeShapes Go.WideShapes Go.ChangeAt Go.RowKit Go.Joins Go.Shelf Go.Maps
attribute [local go_sem] Oper.semAt_some

theorem strOfNums_inj {xs ys : List Int} (hx : ∀ z ∈ xs, 0 ≤ z ∧ z ≤ 255) (hy : ∀ z ∈ ys, 0 ≤ z ∧ z ≤ 255) : strOfNums xs = strOfNums ys ↔ xs = ys := by
 refine ⟨fun h => ?_, fun h => by rw [h]⟩
 have h1 : (xs.map fun n => UInt8.ofNat n.toNat) = ys.map fun n => UInt8.ofNat n.toNat := by rw [← strOfNums_data, ← strOfNums_data, h]
 clear h
 induction xs generalizing ys with
 | nil => cases ys with
  | nil => rfl
  | cons y ys => simp at h1
 | cons x xs ih => cases ys with
  | nil => simp at h1
  | cons y ys =>
   simp only [List.map_cons, List.cons.injEq] at h1
   have e := ih (fun z hz => hx z (.tail _ hz)) (fun z hz => hy z (.tail _ hz)) h1.2
   have b1 := hx x (.head _)
   have b2 := hy y (.head _)
   have e2 := congrArg UInt8.toNat h1.1
   simp only [UInt8.toNat_ofNat'] at e2
   rw [e, show x = y by omega]
theorem str_beq {s t : ByteArray} : s = t ↔ (s.toList == t.toList) = true := by
 rw [beq_iff_eq, ByteArray.toList_eq, ByteArray.toList_eq]
 exact ⟨fun h => by rw [h], fun h => bytes_inj h⟩
theorem nthz_ext {xs ys : List Int} (hl : xs.length = ys.length) (h : ∀ j, j < xs.length → nthz xs j = nthz ys j) : xs = ys := by
 apply List.ext_getElem hl
 intro i h1 h2
 have := h i h1
 simpa [nthz, List.getD_eq_getElem?_getD, h1, h2] using this
theorem conv_hold {w : World} {v : Value} {zs : List Int} (h : Hold w v zs) : (convert 23 9 v).run Tryz.prog w = .ok (.string (strOfNums zs)) w := by
 have hs : Tryz.prog.underlying 23 = some (.slice 5) := by kernel_rfl
 have he : Tryz.prog.underlying 5 = some (.int .u8) := by kernel_rfl
 have hd : Tryz.prog.underlying 9 = some .string := by kernel_rfl
 rcases h.2 with ⟨rfl, rfl⟩ | ⟨ad, cap, rfl, h1, h2, h3⟩
 ·exact run_convert_bytes_nil w _ _ hs he _ _ _ hd
 ·rcases h3 with rfl | ⟨b, off, rfl, h4, h5⟩
  ·rw [run_convert_bytes_string w _ _ _ _ _ _ hs he hd, run_bytesToString w ad _ cap [] (by simp [loadCells, loadCellsFrom, Sem.run_pure])]
   rfl
  ·exact run_convert_bytes_arg w _ _ hs he b off zs.length cap zs rfl h5 _ hd
set_option maxRecDepth 100000 in
theorem same_ok (xs ys : List Int) (u v : Value) (w : World) (hu : Hold w u xs) (hv : Hold w v ys) :
  Calls Tryz.prog 26 #[u, v] w fun e w' => e = .returned (.bool (decide (xs = ys))) ∧ w' = w := by
 have h1 := conv_hold hu
 have h2 := conv_hold hv
 have e : decide (xs = ys) = ((strOfNums xs).toList == (strOfNums ys).toList) := by
  rw [Bool.eq_iff_iff, decide_eq_true_eq, ← strOfNums_inj hu.1 hv.1]; exact str_beq
 rw [e]
 clear hu hv e
 generalize strOfNums xs = s at *
 generalize strOfNums ys = t at *
 go_enter Tryz.func26, Tryz.ntmps26
 go_wp2
 go_ret
 exact ⟨rfl, rfl⟩
set_option maxRecDepth 100000 in
theorem refSame_ok (xs ys : List Int) (u v : Value) (w : World) (hu : Hold w u xs) (hv : Hold w v ys) :
  Calls Tryz.prog 29 #[u, v] w fun e w' => e = .returned (.bool (decide (xs = ys))) ∧ ∃ m, w' = w.drewN m := by
 obtain ⟨a, cap, rfl, hc1, hc2⟩ := hu.slice
 obtain ⟨a', cap', rfl, hc1', hc2'⟩ := hv.slice
 have hx := hu.1
 have hy := hv.1
 obtain ⟨a2, cap2, e, h⟩ := hu.holds8
 obtain ⟨a3, cap3, e', h'⟩ := hv.holds8
 simp only [Value.slice.injEq, true_and] at e e'
 obtain ⟨rfl, rfl⟩ := e
 obtain ⟨rfl, rfl⟩ := e'
 by_cases hl : xs.length = ys.length
 case neg =>
  have e : decide (xs = ys) = false := decide_eq_false (fun e => hl (by rw [e]))
  have hq : ((xs.length : Int) != ys.length) = true := by rw [bne_iff_ne]; omega
  rw [e]
  clear h h' hu hv hc1 hc2 hc1' hc2' hx hy hl e
  go_enter Tryz.func29, Tryz.ntmps29
  go_wp2
  go_ret
  exact ⟨rfl, 0, rfl⟩
 have hq : ((xs.length : Int) != ys.length) = false := by simp [hl]
 have hmax : (xs.length : Int) ≤ 9223372036854775807 := by omega
 by_cases h0 : xs = []
 ·subst h0
  obtain rfl : ys = [] := List.eq_nil_of_length_eq_zero hl.symm
  clear h h' hu hv
  go_enter Tryz.func29, Tryz.ntmps29
  go_wp2_with fail
  go_loopw [5] (fun i wr => i = .int .i64 0 ∧ w = wr) (fun _ _ => 0)
  case atStart => exact ⟨rfl, rfl⟩
  case round =>
   obtain ⟨rfl, rfl⟩ := hrel
   go_wp2
   go_ret
   exact ⟨rfl, 0, rfl⟩
 have h0' : ys ≠ [] := fun e => h0 (List.eq_nil_of_length_eq_zero (by rw [hl, e]; rfl))
 obtain ⟨b, off, rfl, hb1, hb2⟩ := h.resolve_left h0
 obtain ⟨b', off', rfl, hb1', hb2'⟩ := h'.resolve_left h0'
 have H2 := Lib.hid hb2
 have H2' := Lib.hid hb2'
 have HX := Lib.hid hx
 have HY := Lib.hid hy
 have HL := Lib.hid hl
 obtain ⟨r, hr⟩ : ∃ r, decide (xs = ys) = r := ⟨_, rfl⟩
 rw [hr]
 have HR := Lib.hid hr
 clear h h' hb2 hb2' hu hv hx hy h0 h0' hr
 go_enter Tryz.func29, Tryz.ntmps29
 go_wp2_with fail
 go_loopw [5] (fun i wr => ∃ (k n : Nat), i = .int .i64 k ∧ k ≤ xs.length ∧ wr = w.drewN n ∧ Hid (∀ j, j < k → nthz xs j = nthz ys j)) (fun i _ => xs.length - (intOf i).toNat)
 case atStart => exact ⟨0, 0, rfl, Nat.zero_le _, rfl, Lib.hid (fun j hj => absurd hj (Nat.not_lt_zero _))⟩
 case round =>
  obtain ⟨k, n, rfl, hk, rfl, HP⟩ := hrel
  by_cases hlt : k < xs.length
  ·have e1 : w.cell? ⟨b, off + k, none⟩ = some (.int .u8 (nthz xs k)) := H2.out k hlt
   have e2 : w.cell? ⟨b', off' + k, none⟩ = some (.int .u8 (nthz ys k)) := H2'.out k (by omega)
   obtain ⟨zx, hzx⟩ : ∃ z, nthz xs k = z := ⟨_, rfl⟩
   obtain ⟨zy, hzy⟩ : ∃ z, nthz ys k = z := ⟨_, rfl⟩
   rw [hzx] at e1
   rw [hzy] at e2
   have HZ := Lib.hid (show nthz xs k = zx ∧ nthz ys k = zy from ⟨hzx, hzy⟩)
   clear hzx hzy
   obtain ⟨q, hqq⟩ : ∃ q, (zx != zy) = q := ⟨_, rfl⟩
   cases q
   case false =>
    go_wp2
    go_quiet (fail)
    go_wp2
    exact ⟨⟨k + 1, n + nq, by go_num, by omega, rfl, Lib.hid (fun j hj => by
     rcases Nat.lt_or_ge j k with h | h
     ·exact HP.out j h
     ·obtain rfl : j = k := by omega
      rw [HZ.out.1, HZ.out.2]; simpa using hqq)⟩, by simp [intOf]; omega⟩
   case true =>
    obtain rfl : r = false := by
     rw [← HR.out, decide_eq_false]
     rintro rfl
     rw [bne_iff_ne] at hqq
     exact hqq (HZ.out.1.symm.trans HZ.out.2)
    go_wp2
    go_quiet (fail)
    go_wp2
    go_ret
    exact ⟨rfl, n + nq, by rw [World.drewN_drewN]⟩
  ·obtain rfl : k = xs.length := by omega
   obtain rfl : r = true := by
    rw [← HR.out, decide_eq_true]
    exact nthz_ext HL.out (fun j hj => HP.out j hj)
   go_wp2
   go_ret
   exact ⟨rfl, n, rfl⟩
end Go.Proofs.YtjogmckaakkomaaGreat
