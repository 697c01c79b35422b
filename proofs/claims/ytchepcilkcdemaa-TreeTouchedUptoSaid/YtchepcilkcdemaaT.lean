/- A turned byte touches its leaf and what lies above it alone (plain). No condition. -/
import Derived.Test.YtchepcilkcdemaaN
import Derived.Test.YtchepcilkcdemaaB44
import Derived.Test.YtchepcilkcdemaaFB
import Derived.Test.YtchepcilkcdemaaNQ
import Derived.Test.YtchepcilkcdemaaB45
import Derived.Deep.CondSized
import Derived.JoinedCond
set_option linter.all false
set_option maxRecDepth 100000
set_option maxHeartbeats 8000000
namespace Go.Proofs.Ytchepcilkcdemaa
open Go.ChangeShapes Go.WideShapes Go.ChangeAt Go.RowKit Go.Joins Go.Shelf Go.Maps
open Go.Lib (hid)
theorem nthL_get {L M : List (List Int)} (hl : L.length = M.length) {i : Nat} (h : nthL L i = nthL M i) : L[i]? = M[i]? := by
 by_cases hi : i < L.length
 ·unfold nthL at h
  rw [List.getD_eq_getElem?_getD, List.getD_eq_getElem?_getD, List.getElem?_eq_getElem hi, List.getElem?_eq_getElem (by omega)] at h
  rw [List.getElem?_eq_getElem hi, List.getElem?_eq_getElem (by omega)]
  exact congrArg some h
 ·rw [List.getElem?_eq_none (by omega), List.getElem?_eq_none (by omega)]
theorem cut_nth {n : Nat} (hn : 1 ≤ n) {zs : List Int} (hz : zs ≠ []) (k : Nat) : nthL (cutZ n zs) k = (zs.drop (k * n)).take n := by
 unfold cutZ
 rw [if_neg hz]
 by_cases hk : k < cdiv zs.length n
 ·simp [nthL, pieces, piece, List.getD_eq_getElem?_getD, hk]
 ·have h2 := mt (lt_cdiv (n := zs.length) (d := n) (j := k) hn).2 hk
  rw [List.drop_eq_nil_of_le (by omega)]
  unfold nthL
  rw [List.getD_eq_getElem?_getD, List.getElem?_eq_none (by rw [pieces_length]; omega)]
  simp
theorem piece_set {n a k : Nat} (hn : 1 ≤ n) (zs : List Int) (z : Int) (hk : k ≠ a / n) : ((zs.set a z).drop (k * n)).take n = (zs.drop (k * n)).take n := by
 refine List.ext_getElem? fun j => ?_
 rw [List.getElem?_take, List.getElem?_take]
 split
 ·rename_i hj
  rw [List.getElem?_drop, List.getElem?_drop, List.getElem?_set_ne]
  rintro rfl
  refine hk ?_
  rw [Nat.mul_comm, Nat.mul_add_div (by omega), Nat.div_eq_of_lt hj]
  omega
 ·rfl
theorem piece_ne {n a : Nat} (hn : 1 ≤ n) {zs : List Int} {z : Int} (ha : a < zs.length) (hz : z ≠ zs[a]) : ((zs.set a z).drop (a / n * n)).take n ≠ (zs.drop (a / n * n)).take n := by
 intro e
 have h := congrArg (fun l : List Int => l[a % n]?) e
 simp only [List.getElem?_take, List.getElem?_drop] at h
 have h1 : a / n * n + a % n = a := by have := Nat.div_add_mod a n; rw [Nat.mul_comm]; exact this
 have h2 : a % n < n := Nat.mod_lt _ (by omega)
 rw [h1, if_pos h2, if_pos h2, List.getElem?_set_self ha, List.getElem?_eq_getElem ha] at h
 exact hz (Option.some.inj h)
theorem flats_nth (f : Nat) (L : List (List Int)) {m k : Nat} (h : k < m) : nthL (flats f L m) k = (piece f L k).flatten := by simp [nthL, flats, List.getD_eq_getElem?_getD, h]
/-- The touched node of a row. -/
def placeZ (f n rows a : Nat) : Nat → Nat
 | 0 => a / n
 | i + 1 => if f = 0 ∨ rows ≤ i + 2 then 0 else placeZ f n rows a i / f
/-- All but the touched node hash the same. -/
theorem TreeV.touch {t : TreeV} (h : t.validE = 0) (hl : 0 ≤ t.l ∧ t.l ≤ 4294967295) (kz z1 z2 zs : List Int) (hn : zs.length ≤ 4194304) {a : Nat} (ha : a < zs.length) (z : Int) : ∀ r, r < (t.rowsOf zs.length).length →
  (t.dataR kz z1 z2 (zs.set a z) r).length = (t.dataR kz z1 z2 zs r).length ∧ t.rtR kz z1 z2 (zs.set a z) r = t.rtR kz z1 z2 zs r ∧ ∀ k, k ≠ placeZ t.fn t.ln (t.rowsOf zs.length).length a r → nthL (t.dataR kz z1 z2 (zs.set a z) r) k = nthL (t.dataR kz z1 z2 zs r) k := by
 have he := err_small h hn
 have hR := TreeV.rows_is he
 have hL := TreeV.leafZ_facts h hl kz z1 z2 zs
 have hT := top_rows he kz z1 z2 (leafZ_rows h hl kz z1 z2 zs) hL.2.2
 have hln : 1 ≤ t.ln := by
  have := (TreeV.valid_facts h).2.2.2.2.2.2.2.2.1
  unfold TreeV.ln; omega
 have hz : zs ≠ [] := fun e => by rw [e] at ha; simp at ha
 intro r
 induction r with
 | zero =>
  intro _
  refine ⟨?_, rfl, fun k hk => ?_⟩
  ·show (cutZ t.ln (zs.set a z)).length = (cutZ t.ln zs).length
   rw [cutZ_length _ hln, cutZ_length _ hln, List.length_set]
  ·show nthL (cutZ t.ln (zs.set a z)) k = nthL (cutZ t.ln zs) k
   rw [cut_nth hln hz, cut_nth hln (by intro e; exact hz (List.eq_nil_of_length_eq_zero (by have := congrArg List.length e; simpa using this)))]
   exact piece_set hln zs z hk
 | succ r ih =>
  intro hr
  obtain ⟨i1, i2, i3⟩ := ih (by omega)
  have hlv : (t.lvlZ kz z1 z2 (t.leafZ kz z1 z2 (zs.set a z)) r).length = (t.lvlZ kz z1 z2 (t.leafZ kz z1 z2 zs) r).length := by
   rw [TreeV.lvl_is, TreeV.lvl_is, TreeV.rowZ_length, TreeV.rowZ_length, i1]
  have hno : ∀ k, k ≠ placeZ t.fn t.ln (t.rowsOf zs.length).length a r → (t.lvlZ kz z1 z2 (t.leafZ kz z1 z2 (zs.set a z)) r)[k]? = (t.lvlZ kz z1 z2 (t.leafZ kz z1 z2 zs) r)[k]? := fun k hk => by
   refine nthL_get hlv ?_
   by_cases hk2 : k < (t.dataR kz z1 z2 zs r).length
   ·rw [TreeV.lvl_is, TreeV.lvl_is, TreeV.rowZ_nth _ _ _ _ _ _ _ (by omega), TreeV.rowZ_nth _ _ _ _ _ _ _ hk2, i1, i2, i3 k hk]
   ·have e1 : (t.lvlZ kz z1 z2 (t.leafZ kz z1 z2 zs) r).length = (t.dataR kz z1 z2 zs r).length := by rw [TreeV.lvl_is, TreeV.rowZ_length]
    unfold nthL
    rw [List.getD_eq_getElem?_getD, List.getD_eq_getElem?_getD, List.getElem?_eq_none (by omega), List.getElem?_eq_none (by omega)]
  have hrt : t.rtR kz z1 z2 (zs.set a z) (r + 1) = t.rtR kz z1 z2 zs (r + 1) := by
   show t.rootZ _ _ = t.rootZ _ _
   rw [hlv]
  refine ⟨?_, hrt, fun k hk => ?_⟩
  ·show (t.upZ _ _).length = (t.upZ _ _).length
   unfold TreeV.upZ
   rw [hlv]
   split
   ·rw [List.length_singleton, List.length_singleton]
   ·rw [flats_length, flats_length]
  ·show nthL (t.upZ _ _) k = nthL (t.upZ _ _) k
   unfold TreeV.upZ
   rw [hlv]
   by_cases hq : t.rootZ (r + 1) (t.lvlZ kz z1 z2 (t.leafZ kz z1 z2 zs) r).length = true
   ·rw [if_pos hq, if_pos hq]
    have htop : (t.rowsOf zs.length).length ≤ r + 2 := by
     refine Nat.le_of_not_lt fun h2 => ?_
     have := hT.2.2 (r + 1) (by omega) (by omega)
     rw [Nat.add_sub_cancel, hq] at this
     cases this
    have hk0 : k ≠ 0 := by
     unfold placeZ at hk
     rw [if_pos (.inr htop)] at hk
     exact hk
    unfold nthL
    rw [List.getD_eq_getElem?_getD, List.getD_eq_getElem?_getD, List.getElem?_eq_none (by simp; omega), List.getElem?_eq_none (by simp; omega)]
   ·rw [if_neg hq, if_neg hq]
    have hqf : t.rootZ (r + 1) (t.lvlZ kz z1 z2 (t.leafZ kz z1 z2 zs) r).length = false := by simpa using hq
    have hfn := TreeV.fn_pos h hqf
    have hnt : ¬ (t.rowsOf zs.length).length ≤ r + 2 := fun h2 => by
     have := hT.2.1
     rw [show (t.rowsOf zs.length).length - 1 = r + 1 by omega, Nat.add_sub_cancel] at this
     exact hq this
    unfold placeZ at hk
    rw [if_neg (by omega)] at hk
    by_cases hkc : k < cdiv (t.lvlZ kz z1 z2 (t.leafZ kz z1 z2 zs) r).length t.fn
    ·rw [flats_nth _ _ hkc, flats_nth _ _ hkc]
     congr 1
     refine List.ext_getElem? fun j => ?_
     unfold piece
     rw [List.getElem?_take, List.getElem?_take]
     split
     ·rename_i hj
      rw [List.getElem?_drop, List.getElem?_drop]
      refine hno _ fun e => hk ?_
      rw [← e, Nat.mul_comm, Nat.mul_add_div (by omega), Nat.div_eq_of_lt hj]
      omega
     ·rfl
    ·unfold nthL
     rw [List.getD_eq_getElem?_getD, List.getD_eq_getElem?_getD, List.getElem?_eq_none (by rw [flats_length]; omega), List.getElem?_eq_none (by rw [flats_length]; omega)]
end Go.Proofs.Ytchepcilkcdemaa
namespace Go.Proofs.Ytchepcilkcdemaa
open Go.ChangeShapes Go.WideShapes Go.ChangeAt Go.RowKit Go.Joins Go.Shelf Go.Maps
open Go.Lib (hid)
attribute [local go_sem] Oper.semAt_some
theorem nthz_ext {xs ys : List Int} (hl : xs.length = ys.length) (h : ∀ j, j < xs.length → nthz xs j = nthz ys j) : xs = ys := by
  apply List.ext_getElem hl
  intro i h1 h2
  have := h i h1
  simpa [nthz, List.getD_eq_getElem?_getD, h1, h2] using this
theorem refSameD_ok (xs ys : List Int) (u v : Value) (w : World) (hu : Hold w u xs) (hv : Hold w v ys) :
    Calls Try.prog 36 #[u, v] w fun e w' => e = .returned (.bool (decide (xs = ys))) ∧ ∃ m, w' = w.drewN m := by
  obtain ⟨a, cap, rfl, hc1, hc2⟩ := hu.slice
  obtain ⟨a', cap', rfl, hc1', hc2'⟩ := hv.slice
  have hx := hu.1
  have hy := hv.1
  obtain ⟨a2, cap2, e, h⟩ := hu.holds8
  obtain ⟨a3, cap3, e', h'⟩ := hv.holds8
  simp only [Value.slice.injEq, true_and] at e e'
  obtain ⟨rfl, rfl⟩ := e
  obtain ⟨rfl, rfl⟩ := e'
  by_cases hl : xs.length = ys.length
  case neg =>
    have e : decide (xs = ys) = false := decide_eq_false (fun e => hl (by rw [e]))
    have hq : ((xs.length : Int) != ys.length) = true := by rw [bne_iff_ne]; omega
    rw [e]
    clear h h' hu hv hc1 hc2 hc1' hc2' hx hy hl e
    go_enter Try.func36, Try.ntmps36
    go_wp2
    go_ret
    exact ⟨rfl, 0, rfl⟩
  have hq : ((xs.length : Int) != ys.length) = false := by simp [hl]
  have hmax : (xs.length : Int) ≤ 9223372036854775807 := by omega
  by_cases h0 : xs = []
  · subst h0
    obtain rfl : ys = [] := List.eq_nil_of_length_eq_zero hl.symm
    clear h h' hu hv
    go_enter Try.func36, Try.ntmps36
    go_wp2_with fail
    go_loopw [5] (fun i wr => i = .int .i64 0 ∧ w = wr) (fun _ _ => 0)
    case atStart => exact ⟨rfl, rfl⟩
    case round =>
      obtain ⟨rfl, rfl⟩ := hrel
      go_wp2
      go_ret
      exact ⟨rfl, 0, rfl⟩
  have h0' : ys ≠ [] := fun e => h0 (List.eq_nil_of_length_eq_zero (by rw [hl, e]; rfl))
  obtain ⟨b, off, rfl, hb1, hb2⟩ := h.resolve_left h0
  obtain ⟨b', off', rfl, hb1', hb2'⟩ := h'.resolve_left h0'
  have H2 := hid hb2
  have H2' := hid hb2'
  have HX := hid hx
  have HY := hid hy
  have HL := hid hl
  obtain ⟨r, hr⟩ : ∃ r, decide (xs = ys) = r := ⟨_, rfl⟩
  rw [hr]
  have HR := hid hr
  clear h h' hb2 hb2' hu hv hx hy h0 h0' hr
  go_enter Try.func36, Try.ntmps36
  go_wp2_with fail
  go_loopw [5] (fun i wr => ∃ (k n : Nat), i = .int .i64 k ∧ k ≤ xs.length ∧ wr = w.drewN n ∧ Hid (∀ j, j < k → nthz xs j = nthz ys j)) (fun i _ => xs.length - (intOf i).toNat)
  case atStart => exact ⟨0, 0, rfl, Nat.zero_le _, rfl, hid (fun j hj => absurd hj (Nat.not_lt_zero _))⟩
  case round =>
    obtain ⟨k, n, rfl, hk, rfl, HP⟩ := hrel
    by_cases hlt : k < xs.length
    · have e1 : w.cell? ⟨b, off + k, none⟩ = some (.int .u8 (nthz xs k)) := H2.out k hlt
      have e2 : w.cell? ⟨b', off' + k, none⟩ = some (.int .u8 (nthz ys k)) := H2'.out k (by omega)
      obtain ⟨zx, hzx⟩ : ∃ z, nthz xs k = z := ⟨_, rfl⟩
      obtain ⟨zy, hzy⟩ : ∃ z, nthz ys k = z := ⟨_, rfl⟩
      rw [hzx] at e1
      rw [hzy] at e2
      have HZ := hid (show nthz xs k = zx ∧ nthz ys k = zy from ⟨hzx, hzy⟩)
      clear hzx hzy
      obtain ⟨q, hqq⟩ : ∃ q, (zx != zy) = q := ⟨_, rfl⟩
      cases q
      case false =>
        go_wp2
        go_quiet (fail)
        go_wp2
        exact ⟨⟨k + 1, n + nq, by go_num, by omega, rfl, hid (fun j hj => by
          rcases Nat.lt_or_ge j k with h | h
          · exact HP.out j h
          · obtain rfl : j = k := by omega
            rw [HZ.out.1, HZ.out.2]; simpa using hqq)⟩, by simp [intOf]; omega⟩
      case true =>
        obtain rfl : r = false := by
          rw [← HR.out, decide_eq_false]
          rintro rfl
          rw [bne_iff_ne] at hqq
          exact hqq (HZ.out.1.symm.trans HZ.out.2)
        go_wp2
        go_quiet (fail)
        go_wp2
        go_ret
        exact ⟨rfl, n + nq, by rw [World.drewN_drewN]⟩
    · obtain rfl : k = xs.length := by omega
      obtain rfl : r = true := by
        rw [← HR.out, decide_eq_true]
        exact nthz_ext HL.out (fun j hj => HP.out j hj)
      go_wp2
      go_ret
      exact ⟨rfl, n, rfl⟩
theorem alikeQ_ok (s : CallS) (d2 : List Int) (bv1 kv1 dv1 bv2 kv2 dv2 : Value) (w : World) (h1 : Hold w bv1 s.bs) (h2 : Hold w kv1 s.kz) (h3 : Hold w dv1 s.ds) (h4 : Hold w bv2 s.bs) (h5 : Hold w kv2 s.kz) (h6 : Hold w dv2 d2) :
  Calls Try.prog 17 #[.agg #[.int .i64 s.k, bv1, kv1, .bool s.la, .int .i64 s.o, dv1], .agg #[.int .i64 s.k, bv2, kv2, .bool s.la, .int .i64 s.o, dv2]] w fun e w' => e = .returned (.bool (decide (s.ds = d2))) ∧ Below w.heap.size w w' := by
 obtain ⟨b0, hb0⟩ : ∃ b0, w.heap.size = b0 := ⟨_, rfl⟩
 obtain ⟨b1, hb1⟩ : ∃ b1, (w.alloc (.cells #[.int .i64 s.k, bv1, kv1, .bool s.la, .int .i64 s.o, dv1] 48)).heap.size = b1 := ⟨_, rfl⟩
 have hsz : w.heap.size < (w.alloc (.cells #[.int .i64 s.k, bv1, kv1, .bool s.la, .int .i64 s.o, dv1] 48)).heap.size := (Array.getElem?_eq_some_iff.1 (World.alloc_heap_new w (.cells #[.int .i64 s.k, bv1, kv1, .bool s.la, .int .i64 s.o, dv1] 48))).1
 have hne : b0 < b1 := by rw [← hb0, ← hb1]; exact hsz
 have hbA : Below b0 w ((w.alloc (.cells #[.int .i64 s.k, bv1, kv1, .bool s.la, .int .i64 s.o, dv1] 48)).alloc (.cells #[.int .i64 s.k, bv2, kv2, .bool s.la, .int .i64 s.o, dv2] 48)) := by rw [← hb0]; exact ((Below.refl _ _).alloc (Nat.le_refl _) _).alloc (Nat.le_of_lt hsz) _
 have r0 : ((w.alloc (.cells #[.int .i64 s.k, bv1, kv1, .bool s.la, .int .i64 s.o, dv1] 48)).alloc (.cells #[.int .i64 s.k, bv2, kv2, .bool s.la, .int .i64 s.o, dv2] 48)).heap[b0]? = some (.cells #[.int .i64 s.k, bv1, kv1, .bool s.la, .int .i64 s.o, dv1] 48 (0, 0)) := by
  rw [← hb0]; exact (Below.heap_alloc _ _ _ hsz).trans (World.alloc_heap_new w _)
 have r1 : ((w.alloc (.cells #[.int .i64 s.k, bv1, kv1, .bool s.la, .int .i64 s.o, dv1] 48)).alloc (.cells #[.int .i64 s.k, bv2, kv2, .bool s.la, .int .i64 s.o, dv2] 48)).heap[b1]? = some (.cells #[.int .i64 s.k, bv2, kv2, .bool s.la, .int .i64 s.o, dv2] 48 (0, 0)) := by
  rw [← hb1]; exact World.alloc_heap_new (w.alloc _) _
 obtain ⟨qd, hqd⟩ : ∃ qd, decide (s.ds = d2) = qd := ⟨_, rfl⟩
 have hdd : ∀ l : List Int, decide (l = l) = true := fun l => decide_eq_true rfl
 rw [hqd]
 have S4 := hid (fun (W : World) (hb : Below b0 w W) => (refSameD_ok s.bs s.bs bv1 bv2 W (h1.below (hb0 ▸ hb)) (h4.below (hb0 ▸ hb))))
 have S5 := hid (fun (W : World) (hb : Below b0 w W) => refSameD_ok s.kz s.kz kv1 kv2 W (h2.below (hb0 ▸ hb)) (h5.below (hb0 ▸ hb)))
 have S6 := hid (fun (W : World) (hb : Below b0 w W) => refSameD_ok s.ds d2 dv1 dv2 W (h3.below (hb0 ▸ hb)) (h6.below (hb0 ▸ hb)))
 rw [hqd] at S6
 simp only [hdd] at S4 S5
 clear h1 h2 h3 h4 h5 h6 hqd hdd
 go_enter Try.func17, Try.ntmps17
 go_upto_region 1 with (fail)
 generalize (w.alloc (.cells #[.int .i64 s.k, bv1, kv1, .bool s.la, .int .i64 s.o, dv1] 48)).alloc (.cells #[.int .i64 s.k, bv2, kv2, .bool s.la, .int .i64 s.o, dv2] 48) = W at *
 have c00 : W.cell? ⟨b0, 0, none⟩ = some (.int .i64 s.k) := cell_of_heap r0 0
 have c01 : W.cell? ⟨b0, 1, none⟩ = some (bv1) := cell_of_heap r0 1
 have c02 : W.cell? ⟨b0, 2, none⟩ = some (kv1) := cell_of_heap r0 2
 have c03 : W.cell? ⟨b0, 3, none⟩ = some (.bool s.la) := cell_of_heap r0 3
 have c04 : W.cell? ⟨b0, 4, none⟩ = some (.int .i64 s.o) := cell_of_heap r0 4
 have c05 : W.cell? ⟨b0, 5, none⟩ = some (dv1) := cell_of_heap r0 5
 have c10 : W.cell? ⟨b1, 0, none⟩ = some (.int .i64 s.k) := cell_of_heap r1 0
 have c11 : W.cell? ⟨b1, 1, none⟩ = some (bv2) := cell_of_heap r1 1
 have c12 : W.cell? ⟨b1, 2, none⟩ = some (kv2) := cell_of_heap r1 2
 have c13 : W.cell? ⟨b1, 3, none⟩ = some (.bool s.la) := cell_of_heap r1 3
 have c14 : W.cell? ⟨b1, 4, none⟩ = some (.int .i64 s.o) := cell_of_heap r1 4
 have c15 : W.cell? ⟨b1, 5, none⟩ = some (dv2) := cell_of_heap r1 5
 have HA := hid hbA
 have hs0 : b0 < W.heap.size := (Array.getElem?_eq_some_iff.1 r0).1
 have hs1 : b1 < W.heap.size := (Array.getElem?_eq_some_iff.1 r1).1
 have q1 : (s.k == s.k) = true := beq_self_eq_true _
 have q2 : (s.la == s.la) = true := beq_self_eq_true _
 have q3 : (s.o == s.o) = true := beq_self_eq_true _
 clear r0 r1 hbA hb1 hsz
 go_wp2_with fail
 refine (S4.out _ HA.out).mono ?_; rintro e w4 ⟨rfl, m4, rfl⟩
 have HA4 := hid (HA.out.trans ((below_drewN W m4).mono (by omega)))
 go_wp2_with fail
 refine (S5.out _ HA4.out).mono ?_; rintro e w5 ⟨rfl, m5, rfl⟩
 have HA5 := hid (HA.out.trans ((below_drewN W (m4 + m5)).mono (by omega)))
 go_wp2_with fail
 refine (S6.out _ HA5.out).mono ?_; rintro e w6 ⟨rfl, m6, rfl⟩
 have HA6 := hid (HA.out.trans ((below_drewN W (m4 + m5 + m6)).mono (by omega)))
 go_wp2_with fail
 go_ret
 exact ⟨rfl, by rw [hb0]; exact HA6.out⟩
theorem touch_facts {t : TreeV} (h : t.validE = 0) (hl : 0 ≤ t.l ∧ t.l ≤ 4294967295) (kz z1 z2 zs : List Int) (hn : zs.length ≤ 4194304) {a : Nat} (ha : a < zs.length) {z : Int} (hz : z ≠ zs[a]) : ∃ AC BC : List (List CallS),
  t.calZ kz z1 z2 zs = AC.flatten ∧ t.calZ kz z1 z2 (zs.set a z) = BC.flatten ∧ AC.length = (t.rowsOf zs.length).length ∧ BC.length = AC.length ∧ 2 ≤ AC.length ∧ AC.length ≤ 256 ∧
  ∀ r, r < AC.length → (AC.getD r []).length = nth (t.rowsOf zs.length) r ∧ (BC.getD r []).length = (AC.getD r []).length ∧ (AC.getD r []).length ≤ 8388608 ∧ ∀ k, k < (AC.getD r []).length → ∃ (s : CallS) (d : List Int), (AC.getD r []).getD k .zero = s ∧ (BC.getD r []).getD k .zero = ⟨s.k, s.bs, s.kz, s.la, s.o, d⟩ ∧ (k ≠ placeZ t.fn t.ln (t.rowsOf zs.length).length a r → s.ds = d) ∧ (r = 0 → k = placeZ t.fn t.ln (t.rowsOf zs.length).length a r → s.ds ≠ d) := by
 have he := err_small h hn
 have hR := TreeV.rows_is he
 have hpn : t.pn ≤ 255 := by have := (TreeV.valid_facts h).2.2.2.2.2.2.2.1; unfold TreeV.pn; omega
 have hlen := hR.len
 have hmost := hR.most
 have hL := TreeV.leafZ_facts h hl kz z1 z2 zs
 have hln : 1 ≤ t.ln := by
  have := (TreeV.valid_facts h).2.2.2.2.2.2.2.2.1
  unfold TreeV.ln; omega
 have hzn : zs ≠ [] := fun e => by rw [e] at ha; simp at ha
 have hzn2 : zs.set a z ≠ [] := fun e => hzn (List.eq_nil_of_length_eq_zero (by have := congrArg List.length e; simpa using this))
 have e2 : t.calZ kz z1 z2 (zs.set a z) = (t.allC kz z1 z2 (zs.set a z) ((t.rowsOf zs.length).length - 1 + 1)).flatten := by
  unfold TreeV.calZ
  rw [if_pos h, List.length_set]
 refine ⟨t.allC kz z1 z2 zs ((t.rowsOf zs.length).length - 1 + 1), t.allC kz z1 z2 (zs.set a z) ((t.rowsOf zs.length).length - 1 + 1), by unfold TreeV.calZ; rw [if_pos h], e2, by rw [TreeV.allC_length]; omega, by rw [TreeV.allC_length, TreeV.allC_length], by rw [TreeV.allC_length]; omega, by rw [TreeV.allC_length]; omega, fun r hr => ?_⟩
 rw [TreeV.allC_length] at hr
 rw [TreeV.allC_at t kz z1 z2 zs hr, TreeV.allC_at t kz z1 z2 (zs.set a z) hr]
 obtain ⟨i1, i2, i3⟩ := TreeV.touch h hl kz z1 z2 zs hn ha z r (by omega)
 have c1 : (t.callsR kz z1 z2 zs r).length = (t.dataR kz z1 z2 zs r).length := by unfold TreeV.callsR; rw [TreeV.rowC_length]
 have c2 : (t.callsR kz z1 z2 (zs.set a z) r).length = (t.dataR kz z1 z2 (zs.set a z) r).length := by unfold TreeV.callsR; rw [TreeV.rowC_length]
 have h3 := TreeV.lvl_rows he kz z1 z2 (leafZ_rows h hl kz z1 z2 zs) hL.2.2 r (by omega)
 rw [TreeV.lvl_is, TreeV.rowZ_length] at h3
 have hdf := TreeV.dataR_facts h hl kz z1 z2 zs r
 refine ⟨by rw [c1, h3], by rw [c1, c2, i1], by rw [c1]; omega, fun k hk => ?_⟩
 rw [c1] at hk
 refine ⟨_, nthL (t.dataR kz z1 z2 (zs.set a z) r) k, rfl, ?_, fun hp => ?_, fun hr0 hp => ?_⟩
 ·rw [TreeV.callsR_at t kz z1 z2 zs hk, TreeV.callsR_at t kz z1 z2 (zs.set a z) (by omega), i1, i2]
  rfl
 ·rw [TreeV.callsR_at t kz z1 z2 zs hk]
  exact (i3 k hp).symm
 ·rw [TreeV.callsR_at t kz z1 z2 zs hk]
  subst hr0
  show nthL (cutZ t.ln zs) k ≠ nthL (cutZ t.ln (zs.set a z)) k
  rw [cut_nth hln hzn, cut_nth hln hzn2, hp]
  exact (piece_ne hln ha hz).symm
/-- Told, and not rewritten. -/
def EqS (a b : List CallS) : Prop := a = b
def EqN (a b : Nat) : Prop := a = b
theorem EqS.out {a b : List CallS} (h : EqS a b) : a = b := h
theorem EqN.out {a b : Nat} (h : EqN a b) : a = b := h
theorem bit_turn {z : Int} (h0 : 0 ≤ z) (h1 : z ≤ 255) : bits .xor .u8 z 128 ≠ z ∧ 0 ≤ bits .xor .u8 z 128 ∧ bits .xor .u8 z 128 ≤ 255 := by
 obtain ⟨m, rfl⟩ : ∃ m : Nat, z = m := ⟨z.toNat, by omega⟩
 have : ∀ m : Nat, m < 256 → bits .xor .u8 (m : Int) 128 ≠ (m : Int) ∧ 0 ≤ bits .xor .u8 (m : Int) 128 ∧ bits .xor .u8 (m : Int) 128 ≤ 255 := by decide +kernel
 exact this m (by omega)
theorem treeTouched_walk (t : TreeV) (kz z1 z2 zs : List Int) (v : Value) (a : Int) (w : World) (hl : 0 ≤ t.l ∧ t.l ≤ 4294967295) (h1 : Hold w (.slice t.ka t.kl t.kc) kz) (h2 : Hold w (.slice t.sa t.sl t.sc) z1) (h3 : Hold w (.slice t.pa t.pl t.pc) z2) (hv : Hold w v zs) (hn : zs.length ≤ 4194304) (hk : t.kl ≤ 70368744177664) (hs : t.sl ≤ 70368744177664) (hp : t.pl ≤ 70368744177664) :
  Calls Try.prog 4 #[t.val, v, .int .i64 a] w (Trues w) := by
 obtain ⟨b0, hb0⟩ : ∃ b0, w.heap.size = b0 := ⟨_, rfl⟩
 have HOWN := hid (fun (W : World) (hb : Below b0 w W) => own10_ok t kz z1 z2 W (h1.below (hb0 ▸ hb)) (h2.below (hb0 ▸ hb)) (h3.below (hb0 ▸ hb)) hk hs hp)
 have HCPY := hid (fun (W : World) (hb : Below b0 w W) => copied_ok zs v W (hv.below (hb0 ▸ hb)) (by omega))
 have hca := fun (W : World) (x : Value) (xs : List Int) (a1 : Option Addr) (c1 : Nat) (a2 : Option Addr) (c2 : Nat) (a3 : Option Addr) (c3 : Nat) (hh : Hold W (.slice a1 t.kl c1) kz ∧ Hold W (.slice a2 t.sl c2) z1 ∧ Hold W (.slice a3 t.pl c3) z2) (hx : Hold W x xs) (hxn : xs.length ≤ 4194304) => calls_any (t.sw a1 c1 a2 c2 a3 c3) kz z1 z2 xs x W hl hh.1 hh.2.1 hh.2.2 hx hxn
 have hro := fun (W : World) (a1 : Option Addr) (c1 : Nat) (a2 : Option Addr) (c2 : Nat) (a3 : Option Addr) (c3 : Nat) (he : t.validE = 0) => shRows_ok (t.sw a1 c1 a2 c2 a3 c3) hl zs.length (by omega) (show (t.sw a1 c1 a2 c2 a3 c3).err zs.length = 0 from err_small he hn) W
 unfold CalIs at hca
 simp only [TreeV.calZ_sw, show ∀ a1 c1 a2 c2 a3 c3, (t.sw a1 c1 a2 c2 a3 c3).validE = t.validE from fun _ _ _ _ _ _ => rfl] at hca
 have htf := fun (he : t.validE = 0) (n : Nat) (hnl : n < zs.length) (z : Int) (hz : z ≠ zs[n]) => touch_facts he hl kz z1 z2 zs hn hnl hz
 have hvf := fun (he : t.validE = 0) => (show t.l ≠ 0 ∧ (t.f = 0 ∨ 2 ≤ t.f ∧ t.f ≤ 255) from ⟨(TreeV.valid_facts he).2.2.2.2.2.2.2.2.1, (TreeV.valid_facts he).2.2.2.2.2.1⟩)
 generalize t.validE = ev at *
 have HCA := hid hca
 have HRO := hid hro
 have HTF := hid htf
 have HVF := hid hvf
 have HV := hid hv
 have HL := hid hl
 obtain ⟨va, vc, rfl, hvc1, hvc2⟩ := hv.slice
 have hju : IntKind.u64.wrap (zs.length : Int) = (zs.length : Int) := u64_wrap_id _ (by omega) (by omega)
 have hbA : Below b0 w (w.alloc (.cells #[.int .i64 t.k, .int .i64 t.d, .int .i64 t.f, .int .i64 t.p, .int .u32 t.l, .int .i64 t.i, .slice t.ka t.kl t.kc, .slice t.sa t.sl t.sc, .slice t.pa t.pl t.pc] 26)) := by rw [← hb0]; exact (Below.refl _ _).alloc (Nat.le_refl _) _
 have hrA := World.alloc_heap_new w (.cells #[.int .i64 t.k, .int .i64 t.d, .int .i64 t.f, .int .i64 t.p, .int .u32 t.l, .int .i64 t.i, .slice t.ka t.kl t.kc, .slice t.sa t.sl t.sc, .slice t.pa t.pl t.pc] 26)
 rw [hb0] at hrA
 clear hl h1 h2 h3 hv hk hs hp hca hro htf hvf
 unfold TreeV.val at *
 go_enter Try.func4, Try.ntmps4
 go_upto_region 1 with (fail)
 generalize w.alloc (.cells #[.int .i64 t.k, .int .i64 t.d, .int .i64 t.f, .int .i64 t.p, .int .u32 t.l, .int .i64 t.i, .slice t.ka t.kl t.kc, .slice t.sa t.sl t.sc, .slice t.pa t.pl t.pc] 26) = wA at *
 have hsA : b0 < wA.heap.size := (Array.getElem?_eq_some_iff.1 hrA).1
 go_wp2_with fail
 refine (alive_ok wA).mono ?_; rintro e wq ⟨rfl, hbq⟩
 have hrq := rowStay hrA hbq
 have HBwq := hid (hbA.trans (hbq.mono (Nat.le_of_lt hsA)))
 have hswq : b0 < wq.heap.size := (Array.getElem?_eq_some_iff.1 hrq).1
 clear hrA hbA hbq
 go_wp2_with ((with_reducible show wpList _ _ _ (Oper.mk _ (Op.load 26 _) _ _ _ _ :: _) _ _); refine wpList_load_row rfl 26 _ rfl b0 rfl _ _ _ _ hrq Try.underlying26 rfl (by kernel_rfl) ?_)
 refine (HOWN.out wq HBwq.out).mono ?_; rintro e woA ⟨uA, rfl, hu, hb1⟩
 obtain ⟨a1, c1, a2, c2, a3, c3, rfl, k1, k2, k3⟩ := hu
 have HKA := hid (show Hold woA (.slice a1 t.kl c1) kz ∧ Hold woA (.slice a2 t.sl c2) z1 ∧ Hold woA (.slice a3 t.pl c3) z2 from ⟨k1.hold, k2.hold, k3.hold⟩)
 have HBwoA := hid (HBwq.out.trans (hb1.mono (Nat.le_of_lt hswq)))
 have hrwoA := rowStay hrq hb1
 have hswoA : b0 < woA.heap.size := by have := hb1.size; omega
 have HDwoA := hid hb1
 clear k1 k2 k3 hb1 hrq
 unfold TreeV.val
 go_wp2_with fail
 refine (HCA.out woA _ zs _ _ _ _ _ _ HKA.out (HV.out.below (hb0 ▸ HBwoA.out)) hn).mono ?_; rintro e w3 ⟨l, rfl, hlo, hb3⟩
 have hr3 := rowStay hrwoA hb3
 have HBw3 := hid (HBwoA.out.trans (hb3.mono (Nat.le_of_lt hswoA)))
 have hsw3 : b0 < w3.heap.size := (Array.getElem?_eq_some_iff.1 hr3).1
 have hs3 := hb3.size
 have HC3 := hid hlo
 obtain ⟨la, lc, rfl⟩ := hlo.form
 clear hlo hb3 hrwoA HKA HDwoA
 by_cases he : ev = 0
 case neg =>
  have q1 : (ev != 0) = true := by simp [he]
  clear he
  go_wp2
  go_ret
  exact ⟨rfl, by rw [hb0]; exact HBw3.out⟩
 have q1 : (ev != 0) = false := by simp [he]
 by_cases ha0 : a < 0
 case pos =>
  have q2 : decide (a < 0) = true := decide_eq_true ha0
  go_wp2
  go_ret
  exact ⟨rfl, by rw [hb0]; exact HBw3.out⟩
 by_cases han : (zs.length : Int) ≤ a
 case pos =>
  have q3 : decide (a ≥ (zs.length : Int)) = true := decide_eq_true han
  go_wp2
  go_ret
  exact ⟨rfl, by rw [hb0]; exact HBw3.out⟩
 obtain ⟨n, rfl⟩ : ∃ n : Nat, a = n := ⟨a.toNat, by omega⟩
 have hnl : n < zs.length := by omega
 have hnl2 : (n : Int) < zs.length := by omega
 have HE := hid he
 clear he ha0 han
 go_upto_region 6 with (fail)
 go_wp2_with fail
 refine (HCPY.out w3 HBw3.out).mono ?_; rintro e w4 ⟨b, rfl, hbo, hb4⟩
 rcases hbo.2 with ⟨e0, -⟩ | ⟨gb, cap, cur, rfl, hg1, hg2, hg3, hg4, hg5, hg6⟩
 ·rw [e0] at hnl; simp at hnl
 have hcn : cur[n]? = some (.int .u8 zs[n]) := by
  have := congrArg (fun l : List Value => l[n]?) hg6
  simp only [List.getElem?_take, hnl, if_true, List.getElem?_map, List.getElem?_eq_getElem hnl, Option.map_some] at this
  simpa [encB] using this
 have hcc : w4.cell? ⟨gb, n, none⟩ = some (.int .u8 zs[n]) := (cell_of_heap hg2 n).trans hcn
 have hff := frozen_of_row w4 gb n _ _ hg2
 have hgl : gb < w4.heap.size := (Array.getElem?_eq_some_iff.1 hg2).1
 obtain ⟨zn, hzn⟩ : ∃ z, zs[n] = z := ⟨_, rfl⟩
 rw [hzn] at hcc
 have HG2 := hid hg2
 have HZN := hid hzn
 clear hcn hzn
 go_upto_region 8 with (fail)
 refine letterW ?_
 intro w5 hw5
 obtain ⟨zx, hzx⟩ : ∃ zx, bits .xor .u8 zn 128 = zx := ⟨_, rfl⟩
 rw [hzx] at hw5
 have hzb := hbo.1 zn (by rw [← HZN.out]; exact List.getElem_mem hnl)
 obtain ⟨x1, x2, x3⟩ := bit_turn hzb.1 hzb.2
 rw [hzx] at x1 x2 x3
 have hbo5 : OwnB w3.heap.size w5 (.slice (some ⟨gb, 0, none⟩) zs.length cap) (zs.set n zx) := by
  refine ⟨fun y hy => ?_, .inr ⟨gb, cap, _, by rw [List.length_set], hg1, by rw [hw5]; exact heap_setCell_same _ gb n cur _ _ HG2.out, by rw [List.length_set]; exact hg3, by simpa using hg4, hg5, ?_⟩⟩
  ·rcases List.mem_or_eq_of_mem_set hy with h | rfl
   ·exact hbo.1 y h
   ·exact ⟨x2, x3⟩
  ·rw [List.length_set, Array.toList_setIfInBounds, List.take_set, hg6, List.map_set]
   rfl
 have hb35 : Below w3.heap.size w3 w5 := by rw [hw5]; exact hb4.setCell hg1 _
 have hr5 := rowStay hr3 hb35
 have HBw5 := hid (HBw3.out.trans (hb35.mono (Nat.le_of_lt hsw3)))
 have hsw5 : b0 < w5.heap.size := (Array.getElem?_eq_some_iff.1 hr5).1
 have HC5 := hid (HC3.out.below hs3 hb35)
 have hs5 : woA.heap.size ≤ w5.heap.size := by have := hb35.size; omega
 have HB5 := hid hbo5
 have HT := hid (HTF.out HE.out n hnl zx (by rw [HZN.out]; exact x1))
 have hset : (zs.set n zx).length = zs.length := List.length_set
 have HSET := hid hset
 clear hw5 hzx hzb x1 x2 x3 hbo5 hb35 hr3 hb4 hbo hcc hff hgl hg1 hg3 hg4 hg5 hg6 HC3 HG2 HZN hset
 go_wp2_with ((with_reducible show wpList _ _ _ (Oper.mk _ (Op.load 26 _) _ _ _ _ :: _) _ _); refine wpList_load_row rfl 26 _ rfl b0 rfl _ _ _ _ hr5 Try.underlying26 rfl (by kernel_rfl) ?_)
 refine (HOWN.out w5 HBw5.out).mono ?_; rintro e woB ⟨uB, rfl, hu, hb1⟩
 obtain ⟨a1, c1, a2, c2, a3, c3, rfl, k1, k2, k3⟩ := hu
 have HKB := hid (show Hold woB (.slice a1 t.kl c1) kz ∧ Hold woB (.slice a2 t.sl c2) z1 ∧ Hold woB (.slice a3 t.pl c3) z2 from ⟨k1.hold, k2.hold, k3.hold⟩)
 have HBwoB := hid (HBw5.out.trans (hb1.mono (Nat.le_of_lt hsw5)))
 have hrwoB := rowStay hr5 hb1
 have hswoB : b0 < woB.heap.size := by have := hb1.size; omega
 have HDwoB := hid hb1
 clear k1 k2 k3 hb1 hr5
 unfold TreeV.val
 go_wp2_with fail
 refine (HCA.out woB _ (zs.set n zx) _ _ _ _ _ _ HKB.out (HB5.out.kb (KB.of_below HDwoB.out (Nat.zero_le _))).hold (by rw [HSET.out]; exact hn)).mono ?_; rintro e w6 ⟨m, rfl, hmo, hb6⟩
 have hr6 := rowStay hrwoB hb6
 have HBw6 := hid (HBwoB.out.trans (hb6.mono (Nat.le_of_lt hswoB)))
 have hsw6 : b0 < w6.heap.size := (Array.getElem?_eq_some_iff.1 hr6).1
 have hb56 : Below w5.heap.size w5 w6 := HDwoB.out.trans (hb6.mono HDwoB.out.size)
 have HC6 := hid (HC5.out.below hs5 hb56)
 have hs6 : woA.heap.size ≤ w6.heap.size := by have := hb56.size; omega
 have hs6b : woB.heap.size ≤ w6.heap.size := hb6.size
 have HM6 := hid hmo
 obtain ⟨ma, mc, rfl⟩ := hmo.form
 clear hmo hb6 hrwoB HKB HDwoB HC5 hb56 HB5
 go_wp2_with ((with_reducible show wpList _ _ _ (Oper.mk _ (Op.load 26 _) _ _ _ _ :: _) _ _); refine wpList_load_row rfl 26 _ rfl b0 rfl _ _ _ _ hr6 Try.underlying26 rfl (by kernel_rfl) ?_)
 refine (HOWN.out w6 HBw6.out).mono ?_; rintro e woC ⟨uC, rfl, hu, hb1⟩
 obtain ⟨a1, c1, a2, c2, a3, c3, rfl, k1, k2, k3⟩ := hu
 have HKC := hid (show Hold woC (.slice a1 t.kl c1) kz ∧ Hold woC (.slice a2 t.sl c2) z1 ∧ Hold woC (.slice a3 t.pl c3) z2 from ⟨k1.hold, k2.hold, k3.hold⟩)
 have HBwoC := hid (HBw6.out.trans (hb1.mono (Nat.le_of_lt hsw6)))
 have hrwoC := rowStay hr6 hb1
 have hswoC : b0 < woC.heap.size := by have := hb1.size; omega
 have HDwoC := hid hb1
 clear k1 k2 k3 hb1 hr6
 unfold TreeV.val
 go_wp2_with fail
 refine (HRO.out woC _ _ _ _ _ _ HE.out).mono ?_; rintro e w7 ⟨rv, rfl, hrow, hb7⟩
 have hr7 := rowStay hrwoC hb7
 have HBw7 := hid (HBwoC.out.trans (hb7.mono (Nat.le_of_lt hswoC)))
 have hsw7 : b0 < w7.heap.size := (Array.getElem?_eq_some_iff.1 hr7).1
 have hb67 : Below w6.heap.size w6 w7 := HDwoC.out.trans (hb7.mono HDwoC.out.size)
 have HC7 := hid (HC6.out.below hs6 hb67)
 have HM7 := hid (HM6.out.below hs6b hb67)
 have hs7 : woA.heap.size ≤ w7.heap.size := by have := hb67.size; omega
 have hs7b : woB.heap.size ≤ w7.heap.size := by have := hb67.size; omega
 obtain ⟨AC, BC, t1, t2, t3, t4, t5, t6, t7⟩ := HT.out
 have hfl : BC.flatten.length = AC.flatten.length := by
  rw [List.length_flatten, List.length_flatten]
  congr 1
  refine List.ext_getElem? fun i => ?_
  rw [List.getElem?_map, List.getElem?_map]
  by_cases hi : i < AC.length
  ·have := (t7 i hi).2.1
   rw [List.getD_eq_getElem?_getD, List.getD_eq_getElem?_getD, List.getElem?_eq_getElem hi, List.getElem?_eq_getElem (by omega)] at this
   rw [List.getElem?_eq_getElem hi, List.getElem?_eq_getElem (by omega)]
   exact congrArg some this
  ·rw [List.getElem?_eq_none (by omega), List.getElem?_eq_none (by omega)]
 obtain ⟨FA, hFA⟩ : ∃ FA, AC.flatten = FA := ⟨_, rfl⟩
 obtain ⟨FB, hFB⟩ : ∃ FB, BC.flatten = FB := ⟨_, rfl⟩
 rw [t1, hFA] at HC7 ⊢
 rw [t2, hFB] at HM7 ⊢
 rw [hFA, hFB] at hfl
 have HFA : EqS AC.flatten FA := hFA
 have HFB : EqS BC.flatten FB := hFB
 clear hFA hFB
 have hrow2 : w7.ownsRow woC.heap.size 36 1 rv (t.rowsOf zs.length).length ((t.rowsOf zs.length).map encU) := hrow
 obtain ⟨gr, rcap, rfl, -, -, hgr, hrc⟩ := ownsRow_cells hrow2 (by omega)
 generalize t.rowsOf zs.length = RO at *
 have hqq : ((FA.length : Int) != (FB.length : Int)) = false := by simp [hfl]
 have hln := HL.out
 obtain ⟨hl0, hff⟩ := HVF.out HE.out
 have hcl : IntKind.u64.wrap t.l = t.l := u64_wrap_id _ (by omega) (by omega)
 have hcn : IntKind.u64.wrap (n : Int) = (n : Int) := u64_wrap_id _ (by omega) (by omega)
 have hl0b : (t.l == 0) = false := by simpa using hl0
 have HFL := hid hfl
 have H3 := hid t3
 have H4 := hid t4
 have H7 := hid t7
 have HRC := hid hrc
 have HFF := hid hff
 have hc4 : w7.cell? ⟨b0, 4, none⟩ = some (.int .u32 t.l) := cell_of_heap hr7 4
 have HR7 := hid hr7
 clear t1 t2 t3 t4 t7 hfl hrow hrow2 hrc hb7 hb67 hrwoC HKC HDwoC HC6 HM6 hff hr7 hln
 have hlnn : t.l = (t.ln : Int) := by unfold TreeV.ln; have := HL.out; omega
 have hqv : IntKind.u64.wrap ((n : Int) / t.l) = ((n / t.ln : Nat) : Int) := by
  rw [hlnn, ← Int.natCast_ediv]
  exact u64_wrap_id _ (Int.natCast_nonneg _) (Int.lt_of_le_of_lt (Int.ofNat_le.2 (Nat.div_le_self n t.ln)) (show (n : Int) < 18446744073709551616 by omega))
 clear hlnn
 obtain ⟨p0, hp0⟩ : ∃ p0, n / t.ln = p0 := ⟨_, rfl⟩
 rw [hp0] at hqv
 have HP0 : EqN p0 (placeZ t.fn t.ln RO.length n 0) := hp0.symm
 have hROl : (RO.length : Int) ≤ 256 := by have := H3.out; omega
 clear hp0
 go_wp2_with fail
 go_loopw [14, 15, 16] (fun c p i wr => ∃ r q pp : Nat, i = .int .i64 (r : Nat) ∧ r ≤ RO.length ∧ c = .int .i64 (q : Nat) ∧ EqN q (AC.take r).flatten.length ∧ p = .int .u64 (pp : Nat) ∧ EqN pp (placeZ t.fn t.ln RO.length n r) ∧ Below w7.heap.size w7 wr) (fun _ _ i _ => RO.length - (intOf i).toNat)
 case atStart => exact ⟨0, 0, p0, rfl, Nat.zero_le _, rfl, rfl, rfl, HP0, Below.refl _ _⟩
 case round =>
  obtain ⟨r, q0, pp, rfl, hr, rfl, hq0, rfl, hpp, hb⟩ := hrel
  rename World => wq
  by_cases hlt : r < RO.length
  case pos =>
   have hlt2 : (r : Int) < RO.length := by omega
   have hra : r < AC.length := by have := H3.out; omega
   have hrb : r < BC.length := by have := H4.out; omega
   obtain ⟨a1, a2, a3, a4⟩ := H7.out r hra
   have HGA := hid (fun (k : Nat) (hk : k < (AC.getD r []).length) => flat_getD (d := CallS.zero) hra hk)
   have HGB := hid (fun (k : Nat) (hk : k < (BC.getD r []).length) => flat_getD (d := CallS.zero) hrb hk)
   have hba : (BC.take r).flatten.length = (AC.take r).flatten.length := by
    rw [List.length_flatten, List.length_flatten]
    congr 1
    refine List.ext_getElem? fun i => ?_
    rw [List.getElem?_map, List.getElem?_map, List.getElem?_take, List.getElem?_take]
    split
    ·rename_i hi
     have := (H7.out i (by omega)).2.1
     rw [List.getD_eq_getElem?_getD, List.getD_eq_getElem?_getD, List.getElem?_eq_getElem (show i < AC.length by omega), List.getElem?_eq_getElem (show i < BC.length by omega)] at this
     rw [List.getElem?_eq_getElem (show i < AC.length by omega), List.getElem?_eq_getElem (show i < BC.length by omega)]
     exact congrArg some this
    ·rfl
   rw [hba] at HGB
   rw [HFA.out] at HGA
   rw [HFB.out] at HGB
   have htk : (AC.take (r + 1)).flatten.length = (AC.take r).flatten.length + (AC.getD r []).length := by
    rw [List.take_succ, List.flatten_append, List.length_append, List.getD_eq_getElem?_getD, List.getElem?_eq_getElem hra]; simp
   rw [← hq0.out] at htk HGA HGB
   have HTK := hid htk
   have hcr := HRC.out r hlt
   generalize nth RO r = M at *
   generalize AC.getD r [] = S at *
   generalize BC.getD r [] = S2 at *
   have HA1 : EqN S.length M := a1
   have HA2 : EqN S2.length S.length := a2
   have HA4 := hid a4
   have HPP := hpp
   have HBQ := hid hb
   obtain ⟨bM, hbM⟩ : ∃ bM, wq.heap.size = bM := ⟨_, rfl⟩
   have hs7q := hb.size
   have hMl : M ≤ 8388608 := by omega
   have hppl : (pp : Int) ≤ 9223372036854775807 := by
    have hpn : ∀ r, placeZ t.fn t.ln RO.length n r ≤ n := fun r => by
     induction r with
     | zero => exact Nat.div_le_self _ _
     | succ r ih =>
      unfold placeZ
      split
      ·exact Nat.zero_le _
      ·exact Nat.le_trans (Nat.div_le_self _ _) ih
    have := hpn r
    rw [← hpp.out] at this
    omega
   have hcrq : wq.cell? ⟨gr, r, none⟩ = some (.int .u64 (M : Nat)) := (hb.cell (p := ⟨gr, r, none⟩) hgr).trans hcr
   have hgrq : gr < wq.heap.size := by omega
   clear htk hba a1 a2 a3 a4 hb hcr
   go_wp2_with fail
   go_loopw [14, 17] (fun c i wr => ∃ k q : Nat, i = .int .u64 (k : Nat) ∧ k ≤ M ∧ c = .int .i64 (q : Nat) ∧ EqN q (q0 + k) ∧ Below bM wq wr) (fun _ i _ => M - (intOf i).toNat)
   case atStart => exact ⟨0, q0, rfl, Nat.zero_le _, rfl, rfl, Below.refl _ _⟩
   case round =>
    obtain ⟨k, q, rfl, hk, rfl, HQ, hb⟩ := hrel
    have hcrr : wr.cell? ⟨gr, r, none⟩ = some (.int .u64 (M : Nat)) := (hb.cell (p := ⟨gr, r, none⟩) (show gr < bM by omega)).trans hcrq
    have hbMr : bM ≤ wr.heap.size := by have := hb.size; omega
    have hgrr : gr < wr.heap.size := by omega
    by_cases hkt : k < M
    case pos =>
     have hkt2 : (k : Int) < M := by omega
     obtain ⟨s, d, s1, s2, s3, s4⟩ := HA4.out k (by have := HA1.out; omega)
     obtain ⟨f1, f2⟩ := HGA.out k (by have := HA1.out; omega)
     obtain ⟨f3, f4⟩ := HGB.out k (by have := HA1.out; have := HA2.out; omega)
     rw [← HQ.out] at f1 f2 f3 f4
     rw [s1] at f2
     rw [s2] at f4
     obtain ⟨g1, k1, cur1, bv1, kv1, dv1, e1, -, hg1, hc1, p1, p2, p3⟩ := ((HC7.out.below hs7 HBQ.out).below (by omega) (hbM ▸ hb)).get f1 f2
     obtain ⟨g2, k2, cur2, bv2, kv2, dv2, e2, -, hg2, hc2, p4, p5, p6⟩ := ((HM7.out.below hs7b HBQ.out).below (by omega) (hbM ▸ hb)).get f3 f4
     simp only [Value.slice.injEq, true_and] at e1 e2
     obtain ⟨rfl, rfl⟩ := e1
     obtain ⟨rfl, rfl⟩ := e2
     have f1' : (q : Int) < FA.length := by omega
     have f3' : (q : Int) < FB.length := by omega
     obtain ⟨qd, hqd⟩ : ∃ qd, decide (s.ds = d) = qd := ⟨_, rfl⟩
     have hp := fun (W : World) (hb : Below wr.heap.size wr W) => alikeQ_ok s d bv1 kv1 dv1 bv2 kv2 dv2 W (p1.below hb) (p2.below hb) (p3.below hb) (p4.below hb) (p5.below hb) (p6.below hb)
     rw [hqd] at hp
     have HP := hid hp
     have HG1 := hid hg1
     have HG2 := hid hg2
     have HC1 := hid hc1
     have HC2 := hid hc2
     have HBB := hid hb
     have HS3 := hid (fun (h : k ≠ pp) => s3 (fun e => h (by rw [HPP.out]; exact e)))
     have HS4 := hid (fun (h0 : r = 0) (h : k = pp) => s4 h0 (by rw [← HPP.out]; exact h))
     have hqm : (q : Int) ≤ 9223372036854775806 := by
      obtain ⟨cs, -, ho, -⟩ := HC7.out
      rcases ho.2 with ⟨-, e⟩ | ⟨g, cap, cur, -, -, -, k4, k5, -⟩
      ·omega
      ·unfold maxLen at k5; omega
     have hku : IntKind.u64.wrap ((k : Int) + 1) = ((k + 1 : Nat) : Int) := u64_wrap_id _ (by omega) (by omega)
     clear s1 s2 s3 s4 f1 f2 f3 f4 hp hg1 hg2 hc1 hc2 p1 p2 p3 p4 p5 p6 hb
     go_wp2_with fail
     refine wp_region_c (n := 10) (w0 := wr) (B := wr.heap.size) [.v 103 (.slice (some ⟨g1, 0, none⟩) FA.length lc), .v 104 (.int .i64 (q : Nat)), .v 105 (.pointer (some ⟨g1, q * 6, none⟩)), .v 106 (.agg #[.int .i64 s.k, bv1, kv1, .bool s.la, .int .i64 s.o, dv1]), .v 107 (.slice (some ⟨g2, 0, none⟩) FB.length mc), .v 108 (.int .i64 (q : Nat)), .v 109 (.pointer (some ⟨g2, q * 6, none⟩)), .v 110 (.agg #[.int .i64 s.k, bv2, kv2, .bool s.la, .int .i64 s.o, dv2]), .v 111 (.bool qd), .v 18 (.bool qd)] trivial (Below.refl _ _).drew (Nat.le_refl _) ?_ ?_
     ·repeat' (with_reducible first | exact eachO_nil | refine eachO_cons ?_ ?_)
      all_goals try
       intro AA x W hA hW hBW hdep D K hK
       have a5 := hA.2 7 (by decide)
       conv at a5 => rhs; whnf
       have a7 := hA.2 10 (by decide)
       conv at a7 => rhs; whnf
       have a9 := hA.2 14 (by decide)
       conv at a9 => rhs; whnf
       simp only [DepF, nthF] at D
       clear hdep hA
       go_simp
       exact hK _ _ BR rfl
      ·intro AA x W hA hW hBW hdep _ K hK
       have g42 := gv hA hdep 2 105
       clear hdep hA
       exact wp_load_part 48 _ rfl g1 (q * 6) g42 48 cur1 #[.int .i64 s.k, bv1, kv1, .bool s.la, .int .i64 s.o, dv1] (0, 0) _ ((hW.block g1 (Array.getElem?_eq_some_iff.1 HG1.out).1).trans HG1.out) Try.underlying48 rfl (by kernel_rfl) HC1.out (hK _ _ BR rfl)
      ·intro AA x W hA hW hBW hdep _ K hK
       have g46 := gv hA hdep 6 109
       clear hdep hA
       exact wp_load_part 48 _ rfl g2 (q * 6) g46 48 cur2 #[.int .i64 s.k, bv2, kv2, .bool s.la, .int .i64 s.o, dv2] (0, 0) _ ((hW.block g2 (Array.getElem?_eq_some_iff.1 HG2.out).1).trans HG2.out) Try.underlying48 rfl (by kernel_rfl) HC2.out (hK _ _ BR rfl)
      ·intro AA x W hA hW hBW hdep _ K hK
       have g43 := gv hA hdep 3 106
       have g47 := gv hA hdep 7 110
       clear hdep hA
       go_simp
       refine (HP.out W hW).mono ?_; rintro e w5 ⟨rfl, hb5⟩
       exact hK _ _ hb5 rfl
     intro x W hW hBW _
     refine thenTail_nil ?_
     simp only [layS, Act.put, List.setIfInBounds_toArray, List.set_cons_zero, List.set_cons_succ]
     have HBW := hid (HBB.out.trans (hW.mono hbMr))
     clear HP HG1 HG2 HC1 HC2 hBW
     have KEY : ((((k : Int) != (pp : Int)) = false ∧ ((k : Int) == (pp : Int)) = true ∧ ((r : Int) == 0) = true ∧ qd = false) ∨ (((k : Int) != (pp : Int)) = false ∧ ((k : Int) == (pp : Int)) = true ∧ ((r : Int) == 0) = false ∧ True)) ∨ ((((k : Int) != (pp : Int)) = true ∧ ((k : Int) == (pp : Int)) = false ∧ ((r : Int) == 0) = true ∧ qd = true) ∨ (((k : Int) != (pp : Int)) = true ∧ ((k : Int) == (pp : Int)) = false ∧ ((r : Int) == 0) = false ∧ qd = true)) := by
      by_cases hkp : k = pp
      ·refine .inl ?_
       by_cases hr0 : r = 0
       ·exact .inl ⟨by rw [hkp]; simp, by rw [hkp]; simp, by rw [hr0]; rfl, by rw [← hqd]; exact decide_eq_false (HS4.out hr0 hkp)⟩
       ·exact .inr ⟨by rw [hkp]; simp, by rw [hkp]; simp, by simp [hr0], trivial⟩
      ·refine .inr ?_
       have h1 : ((k : Int) != (pp : Int)) = true := by rw [bne_iff_ne]; omega
       have h2 : ((k : Int) == (pp : Int)) = false := by rw [beq_eq_false_iff_ne]; omega
       have h3 : qd = true := by rw [← hqd]; exact decide_eq_true (HS3.out hkp)
       by_cases hr0 : r = 0
       ·exact .inl ⟨h1, h2, by rw [hr0]; rfl, h3⟩
       ·exact .inr ⟨h1, h2, by simp [hr0], h3⟩
     clear hqd HS3 HS4
     rcases KEY with (⟨qk, qk2, qr, rfl⟩ | ⟨qk, qk2, qr, -⟩) | (⟨qk, qk2, qr, rfl⟩ | ⟨qk, qk2, qr, rfl⟩)
     all_goals
      go_wp2_with fail
      exact ⟨⟨k + 1, q + 1, rfl, by omega, rfl, by have := HQ.out; show q + 1 = q0 + (k + 1); omega, HBW.out⟩, by simp [intOf]; omega⟩
    obtain rfl : k = M := by omega
    have hc2 : wr.cell? ⟨b0, 2, none⟩ = some (.int .i64 t.f) := cell_of_heap (rowStay HR7.out (HBQ.out.trans ((hbM ▸ hb).mono hs7q))) 2
    have hb0r : b0 < wr.heap.size := by omega
    have HBW := hid (HBQ.out.trans ((hbM ▸ hb).mono hs7q))
    have HQN : EqN q (AC.take (r + 1)).flatten.length := by
     have h1 := HQ.out
     have h2 := HTK.out
     have h3 := HA1.out
     show q = _
     omega
    have hr2 : IntKind.i64.wrap ((r : Int) + 2) = (r : Int) + 2 := by rw [IntKind.wrap_i64] <;> omega
    obtain ⟨pn, hpn⟩ : ∃ pn, placeZ t.fn t.ln RO.length n (r + 1) = pn := ⟨_, rfl⟩
    have HPN : EqN pn (placeZ t.fn t.ln RO.length n (r + 1)) := hpn.symm
    unfold placeZ at hpn
    rw [← hpp.out] at hpn
    clear hb
    have KEY : ((t.f == 0) = true ∧ pn = 0) ∨ (((t.f == 0) = false ∧ (RO.length : Int) ≤ (r : Int) + 2 ∧ pn = 0) ∨ ((t.f == 0) = false ∧ (r : Int) + 2 < (RO.length : Int) ∧ IntKind.u64.wrap t.f = t.f ∧ IntKind.u64.wrap ((pp : Int) / t.f) = (pn : Int) ∧ t.f ≠ 0)) := by
     by_cases hf0 : t.f = 0
     ·exact .inl ⟨by rw [hf0]; rfl, by rw [← hpn, if_pos (.inl (by unfold TreeV.fn; rw [hf0]; rfl))]⟩
     ·refine .inr ?_
      have hfr : 2 ≤ t.f ∧ t.f ≤ 255 := HFF.out.resolve_left hf0
      have hfn : t.f = (t.fn : Int) := by unfold TreeV.fn; omega
      have hfn0 : t.fn ≠ 0 := by omega
      by_cases hrr : RO.length ≤ r + 2
      ·exact .inl ⟨by simp [hf0], by omega, by rw [← hpn, if_pos (.inr hrr)]⟩
      ·refine .inr ⟨by simp [hf0], by omega, u64_wrap_id _ (by omega) (by omega), ?_, hf0⟩
       rw [if_neg (by omega)] at hpn
       rw [← hpn, hfn, ← Int.natCast_ediv]
       exact u64_wrap_id _ (Int.natCast_nonneg _) (Int.lt_of_le_of_lt (Int.ofNat_le.2 (Nat.div_le_self pp t.fn)) (show (pp : Int) < 18446744073709551616 by omega))
    clear hpn
    rcases KEY with ⟨qf, rfl⟩ | ⟨qf, qg, rfl⟩ | ⟨qf, qg, hcf, hdv, hf0⟩
    all_goals
     go_wp2_with fail
     exact ⟨⟨r + 1, q, _, rfl, by omega, rfl, HQN, rfl, HPN, HBW.out⟩, by simp [intOf]; omega⟩
  obtain rfl : r = RO.length := by omega
  have hqe : q0 = FA.length := by
   have h1 := hq0.out
   rw [← H3.out, List.take_length, HFA.out] at h1
   exact h1
  subst hqe
  have HB := hid (HBw7.out.trans (hb.mono (Nat.le_of_lt hsw7)))
  clear hb hq0 hpp
  go_wp2
  go_ret
  exact ⟨rfl, by rw [hb0]; exact HB.out⟩
end Go.Proofs.Ytchepcilkcdemaa
namespace Go.Proofs.Ytchepcilkcdemaa
open Go.ChangeShapes Go.WideShapes Go.ChangeAt Go.RowKit Go.Joins Go.Shelf Go.Maps
open Go.Lib (hid)
theorem treeTouched_call {H : Type} (enc : TypeId × Value → H) (W : World) (base : Nat) (args : Array Value) (ds : List (DataW H)) (p : List MemPlace)
  (hval : ∀ (j : Nat) t v, Try.f4.params[j]? = some t → args[j]? = some v → Value.okWide Try.prog W .any base t v)
  (hA : DataW.TrodAll enc Try.prog W 0 (fun _ => true) true Try.f4.params.toList args.toList ds p) (hlt : ∀ x ∈ p, x.block < W.heap.size)
  (hk : Rows.uptoSmall H ds = true) :
  Calls Try.prog 4 args W (Trues W) := by
 rw [Try.params4] at hA hval
 obtain ⟨v0, v1, v2, d0, d1, d2, p0, p1, p2, rfl, rfl, rfl, h0, h1, h2⟩ := trodAll_three hA
 have hb : Rows.uptoBulk d0 + (Rows.uptoBulk d1 + (Rows.uptoBulk d2 + 0)) ≤ 1048576 := of_decide_eq_true hk
 obtain ⟨t, kz, z1, z2, rfl, hl, ht, b1, b2, b3⟩ := openH_tree (hval 0 26 v0 rfl rfl) h0 (fun x hx => hlt x (by simp [hx]))
 obtain ⟨zs, hz, hm⟩ := openH_bytes (hval 1 24 v1 rfl rfl) h1 (fun x hx => hlt x (by simp [hx]))
 obtain ⟨a, rfl, ha⟩ := open_i64 (hval 2 3 v2 rfl rfl) h2
 have e1 := hold_len ht.k
 have e2 := hold_len ht.s
 have e3 := hold_len ht.p
 exact treeTouched_walk t kz z1 z2 zs v1 a W hl ht.k ht.s ht.p hz (by omega) (by omega) (by omega) (by omega)
theorem treeTouched_lifted (os : Os) (started : os.Started) (H : Type) (enc : TypeId × Value → H) (F0 : Stop.Interp) :
  ReturnsInHanded {} Try.checked os 4 .any ((Rows.OpenSpec.upto Rows.treeTouchedSpec).pre6 enc Try.prog Try.f4 Rows.treeTouchedUptoRow.domain false) (((Rows.OpenSpec.upto Rows.treeTouchedSpec).at F0).post enc Try.prog Try.f4 false true false false) := by
 refine returnsInHanded_of_cond_sized (C := Try.checked) (s := Rows.OpenSpec.upto Rows.treeTouchedSpec) (k := Rows.uptoSmall) rfl own started (by kernel_rfl) Try.func4
  (OpenSpec.witness (enc := enc) (C := Try.checked) (s := Rows.OpenSpec.upto Rows.treeTouchedSpec) (k := Rows.uptoSmall) rfl false ⟨#[], #[.agg #[.int .i64 0, .int .i64 0, .int .i64 0, .int .i64 0, .int .u32 0, .int .i64 0, .slice none 0 0, .slice none 0 0, .slice none 0 0], .slice none 0 0, .int .i64 0], []⟩ 40 (by kernel_rfl) (by kernel_rfl) (by kernel_rfl)
   (x := ([.agg [.lit (.int .i64 0), .lit (.int .i64 0), .lit (.int .i64 0), .lit (.int .i64 0), .lit (.int .u32 0), .lit (.int .i64 0), .nil, .nil, .nil], .nil, .lit (.int .i64 0)], [], [])) (by kernel_rfl) (by kernel_rfl) (by kernel_rfl)) ?_
 intro W base args ds gs before hval0 hW hcnd hk hz _
 have hW' := hW
 obtain ⟨p, q, hA0, hV, rfl, hfz, hnd⟩ := hW
 have hA : DataW.TrodAll enc Try.prog W 0 (fun _ => true) true Try.f4.params.toList args.toList ds p := hA0
 obtain ⟨rfl, rfl⟩ := trodVars_none hV
 have hk' : Rows.uptoSmall H ds = true := by rw [← List.append_nil ds]; exact hk
 refine (treeTouched_call enc W base args ds p hval0 hA (fun x hx => hW'.lt x (by simpa using hx)) hk').mono fun e W' h => ⟨_, h.1, ?_⟩
 refine post_of_trues (s := (Rows.OpenSpec.upto Rows.treeTouchedSpec).at F0) laidOut _ rfl Try.underlying4 (by decide +kernel) rfl hW' ?_ h.2
 have hA' := hA
 rw [Try.params4] at hA'
 obtain ⟨v0, v1, v2, d0, d1, d2, p0, p1, p2, rfl, rfl, _⟩ := trodAll_three hA'
 rfl
theorem treeTouched_holds : Rows.TreeTouchedUptoSaid :=
 OpenClaim.holds_of_cond 4 Try.f4 rfl rfl rfl rfl rfl rfl rfl ⟨rfl, rfl, rfl, rfl, rfl⟩ rfl rfl rfl rfl rfl (by kernel_rfl) Try.func4 (by kernel_rfl)
  (of_decide_eq_true (by kernel_rfl)) (by unfold Func.isWrapper; first | (rw [if_pos (by decide +kernel)]; kernel_rfl) | (rw [if_neg (by decide +kernel)]; exact ⟨rfl, rfl⟩))
  (fun os started H enc _ F0 => by rw [OpenClaim.pre_of_none' rfl]; exact treeTouched_lifted os started H enc F0)
#print axioms treeTouched_holds
end Go.Proofs.Ytchepcilkcdemaa
