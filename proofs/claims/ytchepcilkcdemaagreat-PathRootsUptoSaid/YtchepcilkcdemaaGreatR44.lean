/- Two slices of bytes compared, by the program and by the reference. No condition. -/
import Derived.Test.YtchepcilkcdemaaGreatR26
import Derived.Laws.BytesArg
import Derived.BigQuiet
import Derived.Deep.QuietTactic
import Derived.Test.YtchepcilkcdemaaGreatR38
import Derived.Test.YtchepcilkcdemaaGreatR05
import Derived.OpenShut
import Derived.Deep.Fields
set_option linter.all false
set_option maxRecDepth 100000
set_option maxHeartbeats 8000000
namespace Go.Proofs.YtchepcilkcdemaaGreat
open Go.ChangeShapes Go.WideShapes Go.ChangeAt Go.RowKit Go.Joins Go.Shelf Go.Maps
open Go.Lib (hid)
attribute [local go_sem] Oper.semAt_some
theorem strOfNums_inj {xs ys : List Int} (hx : ∀ z ∈ xs, 0 ≤ z ∧ z ≤ 255) (hy : ∀ z ∈ ys, 0 ≤ z ∧ z ≤ 255) : strOfNums xs = strOfNums ys ↔ xs = ys := by
  refine ⟨fun h => ?_, fun h => by rw [h]⟩
  have h1 : (xs.map fun n => UInt8.ofNat n.toNat) = ys.map fun n => UInt8.ofNat n.toNat := by rw [← strOfNums_data, ← strOfNums_data, h]
  clear h
  induction xs generalizing ys with
  | nil => cases ys with
    | nil => rfl
    | cons y ys => simp at h1
  | cons x xs ih => cases ys with
    | nil => simp at h1
    | cons y ys =>
      simp only [List.map_cons, List.cons.injEq] at h1
      have e := ih (fun z hz => hx z (.tail _ hz)) (fun z hz => hy z (.tail _ hz)) h1.2
      have b1 := hx x (.head _)
      have b2 := hy y (.head _)
      have e2 := congrArg UInt8.toNat h1.1
      simp only [UInt8.toNat_ofNat'] at e2
      rw [e, show x = y by omega]
theorem str_beq {s t : ByteArray} : s = t ↔ (s.toList == t.toList) = true := by
  rw [beq_iff_eq, ByteArray.toList_eq, ByteArray.toList_eq]
  exact ⟨fun h => by rw [h], fun h => bytes_inj h⟩
theorem nthz_ext {xs ys : List Int} (hl : xs.length = ys.length) (h : ∀ j, j < xs.length → nthz xs j = nthz ys j) : xs = ys := by
  apply List.ext_getElem hl
  intro i h1 h2
  have := h i h1
  simpa [nthz, List.getD_eq_getElem?_getD, h1, h2] using this
theorem conv_hold {w : World} {v : Value} {zs : List Int} (h : Hold w v zs) : (convert 24 9 v).run Tryz.prog w = .ok (.string (strOfNums zs)) w := by
  have hs : Tryz.prog.underlying 24 = some (.slice 5) := by kernel_rfl
  have he : Tryz.prog.underlying 5 = some (.int .u8) := by kernel_rfl
  have hd : Tryz.prog.underlying 9 = some .string := by kernel_rfl
  rcases h.2 with ⟨rfl, rfl⟩ | ⟨ad, cap, rfl, h1, h2, h3⟩
  · exact run_convert_bytes_nil w _ _ hs he _ _ _ hd
  · rcases h3 with rfl | ⟨b, off, rfl, h4, h5⟩
    · rw [run_convert_bytes_string w _ _ _ _ _ _ hs he hd, run_bytesToString w ad _ cap [] (by simp [loadCells, loadCellsFrom, Sem.run_pure])]
      rfl
    · exact run_convert_bytes_arg w _ _ hs he b off zs.length cap zs rfl h5 _ hd
theorem same_ok (xs ys : List Int) (u v : Value) (w : World) (hu : Hold w u xs) (hv : Hold w v ys) :
    Calls Tryz.prog 66 #[u, v] w fun e w' => e = .returned (.bool (decide (xs = ys))) ∧ w' = w := by
  have h1 := conv_hold hu
  have h2 := conv_hold hv
  have e : decide (xs = ys) = ((strOfNums xs).toList == (strOfNums ys).toList) := by
    rw [Bool.eq_iff_iff, decide_eq_true_eq, ← strOfNums_inj hu.1 hv.1]; exact str_beq
  rw [e]
  clear hu hv e
  generalize strOfNums xs = s at *
  generalize strOfNums ys = t at *
  go_enter Tryz.func66, Tryz.ntmps66
  go_wp2
  go_ret
  exact ⟨rfl, rfl⟩
theorem refSame_ok (xs ys : List Int) (u v : Value) (w : World) (hu : Hold w u xs) (hv : Hold w v ys) :
    Calls Tryz.prog 67 #[u, v] w fun e w' => e = .returned (.bool (decide (xs = ys))) ∧ ∃ m, w' = w.drewN m := by
  obtain ⟨a, cap, rfl, hc1, hc2⟩ := hu.slice
  obtain ⟨a', cap', rfl, hc1', hc2'⟩ := hv.slice
  have hx := hu.1
  have hy := hv.1
  obtain ⟨a2, cap2, e, h⟩ := hu.holds8
  obtain ⟨a3, cap3, e', h'⟩ := hv.holds8
  simp only [Value.slice.injEq, true_and] at e e'
  obtain ⟨rfl, rfl⟩ := e
  obtain ⟨rfl, rfl⟩ := e'
  by_cases hl : xs.length = ys.length
  case neg =>
    have e : decide (xs = ys) = false := decide_eq_false (fun e => hl (by rw [e]))
    have hq : ((xs.length : Int) != ys.length) = true := by rw [bne_iff_ne]; omega
    rw [e]
    clear h h' hu hv hc1 hc2 hc1' hc2' hx hy hl e
    go_enter Tryz.func67, Tryz.ntmps67
    go_wp2
    go_ret
    exact ⟨rfl, 0, rfl⟩
  have hq : ((xs.length : Int) != ys.length) = false := by simp [hl]
  have hmax : (xs.length : Int) ≤ 9223372036854775807 := by omega
  by_cases h0 : xs = []
  · subst h0
    obtain rfl : ys = [] := List.eq_nil_of_length_eq_zero hl.symm
    clear h h' hu hv
    go_enter Tryz.func67, Tryz.ntmps67
    go_wp2_with fail
    go_loopw [5] (fun i wr => i = .int .i64 0 ∧ w = wr) (fun _ _ => 0)
    case atStart => exact ⟨rfl, rfl⟩
    case round =>
      obtain ⟨rfl, rfl⟩ := hrel
      go_wp2
      go_ret
      exact ⟨rfl, 0, rfl⟩
  have h0' : ys ≠ [] := fun e => h0 (List.eq_nil_of_length_eq_zero (by rw [hl, e]; rfl))
  obtain ⟨b, off, rfl, hb1, hb2⟩ := h.resolve_left h0
  obtain ⟨b', off', rfl, hb1', hb2'⟩ := h'.resolve_left h0'
  have H2 := hid hb2
  have H2' := hid hb2'
  have HX := hid hx
  have HY := hid hy
  have HL := hid hl
  obtain ⟨r, hr⟩ : ∃ r, decide (xs = ys) = r := ⟨_, rfl⟩
  rw [hr]
  have HR := hid hr
  clear h h' hb2 hb2' hu hv hx hy h0 h0' hr
  go_enter Tryz.func67, Tryz.ntmps67
  go_wp2_with fail
  go_loopw [5] (fun i wr => ∃ (k n : Nat), i = .int .i64 k ∧ k ≤ xs.length ∧ wr = w.drewN n ∧ Hid (∀ j, j < k → nthz xs j = nthz ys j)) (fun i _ => xs.length - (intOf i).toNat)
  case atStart => exact ⟨0, 0, rfl, Nat.zero_le _, rfl, hid (fun j hj => absurd hj (Nat.not_lt_zero _))⟩
  case round =>
    obtain ⟨k, n, rfl, hk, rfl, HP⟩ := hrel
    by_cases hlt : k < xs.length
    · have e1 : w.cell? ⟨b, off + k, none⟩ = some (.int .u8 (nthz xs k)) := H2.out k hlt
      have e2 : w.cell? ⟨b', off' + k, none⟩ = some (.int .u8 (nthz ys k)) := H2'.out k (by omega)
      obtain ⟨zx, hzx⟩ : ∃ z, nthz xs k = z := ⟨_, rfl⟩
      obtain ⟨zy, hzy⟩ : ∃ z, nthz ys k = z := ⟨_, rfl⟩
      rw [hzx] at e1
      rw [hzy] at e2
      have HZ := hid (show nthz xs k = zx ∧ nthz ys k = zy from ⟨hzx, hzy⟩)
      clear hzx hzy
      obtain ⟨q, hqq⟩ : ∃ q, (zx != zy) = q := ⟨_, rfl⟩
      cases q
      case false =>
        go_wp2
        go_quiet (fail)
        go_wp2
        exact ⟨⟨k + 1, n + nq, by go_num, by omega, rfl, hid (fun j hj => by
          rcases Nat.lt_or_ge j k with h | h
          · exact HP.out j h
          · obtain rfl : j = k := by omega
            rw [HZ.out.1, HZ.out.2]; simpa using hqq)⟩, by simp [intOf]; omega⟩
      case true =>
        obtain rfl : r = false := by
          rw [← HR.out, decide_eq_false]
          rintro rfl
          rw [bne_iff_ne] at hqq
          exact hqq (HZ.out.1.symm.trans HZ.out.2)
        go_wp2
        go_quiet (fail)
        go_wp2
        go_ret
        exact ⟨rfl, n + nq, by rw [World.drewN_drewN]⟩
    · obtain rfl : k = xs.length := by omega
      obtain rfl : r = true := by
        rw [← HR.out, decide_eq_true]
        exact nthz_ext HL.out (fun j hj => HP.out j hj)
      go_wp2
      go_ret
      exact ⟨rfl, n, rfl⟩
end Go.Proofs.YtchepcilkcdemaaGreat
namespace Go.Proofs.YtchepcilkcdemaaGreat
open Go.ChangeShapes Go.WideShapes Go.ChangeAt Go.RowKit Go.Joins Go.Shelf Go.Maps Go.Deep
open Go.Lib (hid)
theorem bulk_mem {H : Type} {d : DataW H} : ∀ {l : List (DataW H)}, d ∈ l → Rows.uptoBulk d ≤ Rows.uptoBulkAll l
 | x :: r, h => by
  simp only [Rows.uptoBulkAll]
  rcases List.mem_cons.1 h with rfl | h
  ·omega
  ·have := bulk_mem h; omega
theorem bulk_pos {H : Type} (d : DataW H) : 1 ≤ Rows.uptoBulk d := by
 cases d with
 | lit l => cases l <;> simp [Rows.uptoBulk]
 | _ => simp [Rows.uptoBulk]
theorem bulk_len {H : Type} : ∀ (l : List (DataW H)), l.length ≤ Rows.uptoBulkAll l
 | [] => Nat.zero_le _
 | x :: r => by
  have := bulk_len r
  have := bulk_pos x
  simp only [Rows.uptoBulkAll, List.length_cons]; omega
/-- A slice of bytes that came in is whole, and as long as its bulk says at most. -/
theorem hold_open {H : Type} {enc : TypeId × Value → H} {w : World} {base fuel : Nat} {held : Bool} {c : Value} {x : DataW H × List MemPlace}
  (h : DataW.trod enc Tryz.prog w base (fun _ => true) held fuel 24 [c] = some x) (hlt : ∀ p ∈ x.2, p.block < w.heap.size) :
  ∃ zs, Hold w c zs ∧ zs.length ≤ Rows.uptoBulk x.1 := by
 rcases open_ints Tryz.underlying24 Tryz.underlying5 cells_u8 h with ⟨hcs, hx⟩ | ⟨a, len, cap, zs, hcs, hb, hl, hm, hz, hx, hcell, hwz⟩
 ·simp only [List.cons.injEq, and_true] at hcs
  subst hcs
  exact ⟨[], Hold.nil w, Nat.zero_le _⟩
 ·simp only [List.cons.injEq, and_true] at hcs
  subst hcs
  simp at hz
  have hlen : (zs.take len).length = len := by rw [List.length_take]; omega
  refine ⟨zs.take len, ⟨fun z hzm => bounds_u8 (hwz z (List.mem_of_mem_take hzm)), .inr ⟨a, cap, by rw [hlen], by omega, hm, ?_⟩⟩, ?_⟩
  ·by_cases h0 : len = 0
   ·exact .inl (by rw [h0]; rfl)
   ·obtain ⟨b, off, rfl, hc2⟩ := ints_at hcell (by omega)
    refine .inr ⟨b, off, rfl, ?_, ?_⟩
    ·have h1 : MemPlace.cell b off ∈ x.2 := by
      rw [hx]
      simp only [MemPlace.row]
      exact List.mem_map.2 ⟨0, by simp; omega, by simp⟩
     exact hlt _ h1
    ·intro i hi
     rw [hlen] at hi
     rw [hc2 i (by omega)]
     unfold nthz
     simp [hi]
  ·rw [hx]
   simp only [Rows.uptoBulk]
   have := bulk_len (lits (H := H) .u8 (zs.take len))
   have e : (lits (H := H) .u8 (zs.take len)).length = (zs.take len).length := by simp [lits]
   omega
/-- A tree's bytes in memory. -/
structure TreeH (w : World) (t : TreeV) (kz z1 z2 : List Int) : Prop where
 k : Hold w (.slice t.ka t.kl t.kc) kz
 s : Hold w (.slice t.sa t.sl t.sc) z1
 p : Hold w (.slice t.pa t.pl t.pc) z2
theorem trodH_tree {H : Type} {enc : TypeId × Value → H} {w : World} {base fuel : Nat} {held : Bool} {cs : List Value} {x : DataW H × List MemPlace}
  (h : DataW.trod enc Tryz.prog w base (fun _ => true) held fuel 26 cs = some x) (hlt : ∀ p ∈ x.2, p.block < w.heap.size) :
  ∃ t kz z1 z2, TreeV.val t = .agg cs.toArray ∧ (0 ≤ t.l ∧ t.l ≤ 4294967295) ∧ TreeH w t kz z1 z2 ∧ kz.length ≤ Rows.uptoBulk x.1 ∧ z1.length ≤ Rows.uptoBulk x.1 ∧ z2.length ≤ Rows.uptoBulk x.1 := by
 obtain ⟨xs, n, _, hx, hlen, hxl, hf⟩ := DataW.trod_struct Tryz.underlying26 h
 rw [cells_tree] at hlen
 obtain ⟨c0, c1, c2, c3, c4, c5, c6, c7, c8, rfl⟩ := list9 hlen
 obtain ⟨y0, y1, y2, y3, y4, y5, y6, y7, y8, rfl⟩ := list9 (l := xs) (by rw [hxl]; rfl)
 have g0 : DataW.trod enc Tryz.prog w base (fun _ => true) held n 22 [c0] = some y0 := by
  have g : DataW.trod enc Tryz.prog w base (fun _ => true) held n 22 (([c0, c1, c2, c3, c4, c5, c6, c7, c8].drop 0).take (Tryz.prog.cellsOf 22)) = some y0 := hf 0 _ rfl
  rw [cells_kind] at g
  exact g
 have g1 : DataW.trod enc Tryz.prog w base (fun _ => true) held n 3 [c1] = some y1 := by
  have g : DataW.trod enc Tryz.prog w base (fun _ => true) held n 3 (([c0, c1, c2, c3, c4, c5, c6, c7, c8].drop 1).take (Tryz.prog.cellsOf 3)) = some y1 := hf 1 _ rfl
  rw [cells_int] at g
  exact g
 have g2 : DataW.trod enc Tryz.prog w base (fun _ => true) held n 3 [c2] = some y2 := by
  have g : DataW.trod enc Tryz.prog w base (fun _ => true) held n 3 (([c0, c1, c2, c3, c4, c5, c6, c7, c8].drop 2).take (Tryz.prog.cellsOf 3)) = some y2 := hf 2 _ rfl
  rw [cells_int] at g
  exact g
 have g3 : DataW.trod enc Tryz.prog w base (fun _ => true) held n 3 [c3] = some y3 := by
  have g : DataW.trod enc Tryz.prog w base (fun _ => true) held n 3 (([c0, c1, c2, c3, c4, c5, c6, c7, c8].drop 3).take (Tryz.prog.cellsOf 3)) = some y3 := hf 3 _ rfl
  rw [cells_int] at g
  exact g
 have g4 : DataW.trod enc Tryz.prog w base (fun _ => true) held n 23 [c4] = some y4 := by
  have g : DataW.trod enc Tryz.prog w base (fun _ => true) held n 23 (([c0, c1, c2, c3, c4, c5, c6, c7, c8].drop 4).take (Tryz.prog.cellsOf 23)) = some y4 := hf 4 _ rfl
  rw [cells_u32] at g
  exact g
 have g5 : DataW.trod enc Tryz.prog w base (fun _ => true) held n 3 [c5] = some y5 := by
  have g : DataW.trod enc Tryz.prog w base (fun _ => true) held n 3 (([c0, c1, c2, c3, c4, c5, c6, c7, c8].drop 5).take (Tryz.prog.cellsOf 3)) = some y5 := hf 5 _ rfl
  rw [cells_int] at g
  exact g
 have g6 : DataW.trod enc Tryz.prog w base (fun _ => true) held n 24 [c6] = some y6 := by
  have g : DataW.trod enc Tryz.prog w base (fun _ => true) held n 24 (([c0, c1, c2, c3, c4, c5, c6, c7, c8].drop 6).take (Tryz.prog.cellsOf 24)) = some y6 := hf 6 _ rfl
  rw [cells_bytes] at g
  exact g
 have g7 : DataW.trod enc Tryz.prog w base (fun _ => true) held n 24 [c7] = some y7 := by
  have g : DataW.trod enc Tryz.prog w base (fun _ => true) held n 24 (([c0, c1, c2, c3, c4, c5, c6, c7, c8].drop 7).take (Tryz.prog.cellsOf 24)) = some y7 := hf 7 _ rfl
  rw [cells_bytes] at g
  exact g
 have g8 : DataW.trod enc Tryz.prog w base (fun _ => true) held n 24 [c8] = some y8 := by
  have g : DataW.trod enc Tryz.prog w base (fun _ => true) held n 24 (([c0, c1, c2, c3, c4, c5, c6, c7, c8].drop 8).take (Tryz.prog.cellsOf 24)) = some y8 := hf 8 _ rfl
  rw [cells_bytes] at g
  exact g
 clear hf
 obtain ⟨k, e0, -, wk⟩ := DataW.trod_int Tryz.underlying22 g0
 obtain ⟨d, e1, -, wd⟩ := DataW.trod_int Tryz.underlying3 g1
 obtain ⟨f, e2, -, wf⟩ := DataW.trod_int Tryz.underlying3 g2
 obtain ⟨p, e3, -, wp⟩ := DataW.trod_int Tryz.underlying3 g3
 obtain ⟨l, e4, -, wl⟩ := DataW.trod_int Tryz.underlying23 g4
 obtain ⟨i, e5, -, wi⟩ := DataW.trod_int Tryz.underlying3 g5
 have hp : ∀ y ∈ [y0, y1, y2, y3, y4, y5, y6, y7, y8], ∀ p ∈ y.2, p.block < w.heap.size := fun y hy p hp => hlt p (by rw [hx]; exact List.mem_flatMap.2 ⟨y, hy, hp⟩)
 obtain ⟨kz, hk, lk⟩ := hold_open g6 (hp y6 (by simp))
 obtain ⟨z1, hs, ls⟩ := hold_open g7 (hp y7 (by simp))
 obtain ⟨z2, hq, lq⟩ := hold_open g8 (hp y8 (by simp))
 have hbk : ∀ y ∈ [y0, y1, y2, y3, y4, y5, y6, y7, y8], Rows.uptoBulk y.1 ≤ Rows.uptoBulk x.1 := fun y hy => by
  rw [hx]
  simp only [Rows.uptoBulk]
  have := bulk_mem (d := y.1) (l := [y0, y1, y2, y3, y4, y5, y6, y7, y8].map (·.1)) (List.mem_map.2 ⟨y, hy, rfl⟩)
  omega
 have b6 := hbk y6 (by simp)
 have b7 := hbk y7 (by simp)
 have b8 := hbk y8 (by simp)
 obtain ⟨ka, kc, rfl, -, -⟩ := id hk.slice
 obtain ⟨sa, sc, rfl, -, -⟩ := id hs.slice
 obtain ⟨pa, pc, rfl, -, -⟩ := id hq.slice
 simp only [List.cons.injEq, and_true] at e0 e1 e2 e3 e4 e5
 subst e0 e1 e2 e3 e4 e5
 exact ⟨⟨k, d, f, p, l, i, ka, kz.length, kc, sa, z1.length, sc, pa, z2.length, pc⟩, kz, z1, z2, rfl, bounds_u32 wl, ⟨hk, hs, hq⟩, by omega, by omega, by omega⟩
theorem openH_tree {H : Type} {enc : TypeId × Value → H} {w : World} {base b0 : Nat} {r : Reach} {held : Bool} {v : Value} {d : DataW H} {ps : List MemPlace}
  (hv : Value.okWide Tryz.prog w r b0 26 v) (h : DataW.Trod enc Tryz.prog w base (fun _ => true) held 26 v d ps) (hlt : ∀ p ∈ ps, p.block < w.heap.size) :
  ∃ t kz z1 z2, v = TreeV.val t ∧ (0 ≤ t.l ∧ t.l ≤ 4294967295) ∧ TreeH w t kz z1 z2 ∧ kz.length ≤ Rows.uptoBulk d ∧ z1.length ≤ Rows.uptoBulk d ∧ z2.length ≤ Rows.uptoBulk d := by
 obtain ⟨cs, rfl, hsz⟩ := okWide_struct Tryz.underlying26 hv
 obtain ⟨fuel, hf⟩ := h
 obtain ⟨t, kz, z1, z2, e, ht⟩ := trodH_tree hf hlt
 exact ⟨t, kz, z1, z2, by rw [e]; rfl, ht⟩
theorem openH_bytes {H : Type} {enc : TypeId × Value → H} {w : World} {base b0 : Nat} {r : Reach} {held : Bool} {v : Value} {d : DataW H} {ps : List MemPlace}
  (hv : Value.okWide Tryz.prog w r b0 24 v) (h : DataW.Trod enc Tryz.prog w base (fun _ => true) held 24 v d ps) (hlt : ∀ p ∈ ps, p.block < w.heap.size) :
  ∃ zs, Hold w v zs ∧ zs.length ≤ Rows.uptoBulk d := by
 obtain ⟨fuel, hf⟩ := h
 obtain ⟨o, n, c, rfl⟩ := okWide_slice Tryz.underlying24 hv
 exact hold_open hf hlt
end Go.Proofs.YtchepcilkcdemaaGreat
