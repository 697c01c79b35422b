/- A chain's words as bytes, by the program: the big kind. No condition. -/
import Derived.Test.YtjogmckaakkomaaGreatK19
import Derived.Laws.MakeOwn
namespace Go.Proofs.YtjogmckaakkomaaGreat
open Go.ChangeShapes Go.WideShapes Go.ChangeAt Go.RowKit Go.Joins Go.Shelf Go.Maps
attribute [local go_sem] Oper.semAt_some run_index_arr

/-- The first i words' bytes, n of each. -/
def bytesW (n : Nat) (h : List Int) : Nat → List Int
 | 0 => []
 | i + 1 => bytesW n h i ++ bytesK (wd h i).toNat n
theorem bytesW_length (n : Nat) (h : List Int) : ∀ i, (bytesW n h i).length = n * i
 | 0 => rfl
 | i + 1 => by rw [bytesW, List.length_append, bytesW_length n h i, bytesK_length, Nat.mul_succ]
theorem wd_bounds {N n : Nat} {L : List Int} (h : Words N n L) {i : Nat} (hi : i < n) : 0 ≤ wd L i ∧ wd L i < 2 ^ N := by
 have e : wd L i = L[i]'(by rw [h.1]; exact hi) := by unfold wd; simp [List.getD_eq_getElem?_getD, h.1, hi]
 rw [e]
 exact h.2 _ (List.getElem_mem _)
theorem byt_bounds (x k : Nat) : 0 ≤ byt x k ∧ byt x k ≤ 255 := by unfold byt; omega
theorem bytesK_bounds (x k : Nat) : ∀ z ∈ bytesK x k, 0 ≤ z ∧ z ≤ 255 := by
 intro z hz
 simp only [bytesK, List.mem_map] at hz
 obtain ⟨j, -, rfl⟩ := hz
 exact byt_bounds x j
theorem bytesW_bounds (n : Nat) (h : List Int) : ∀ i, ∀ z ∈ bytesW n h i, 0 ≤ z ∧ z ≤ 255
 | 0, z, hz => by simp [bytesW] at hz
 | i + 1, z, hz => by
  rw [bytesW, List.mem_append] at hz
  rcases hz with hz | hz
  ·exact bytesW_bounds n h i z hz
  ·exact bytesK_bounds _ _ z hz
theorem ownsRow_same' {W W' : World} {base : Nat} {e : TypeId} {size : Nat} {v : Value} {n : Nat} {xs : List Value} (h : W.ownsRow base e size v n xs) (hb : ∀ g, base ≤ g → g < W.heap.size → W'.heap[g]? = W.heap[g]?) : W'.ownsRow base e size v n xs := by
 refine ⟨h.1, ?_⟩
 rcases h.2 with h2 | ⟨g, cap, cur, h1, h2, h3, h4⟩
 ·exact .inl h2
 ·exact .inr ⟨g, cap, cur, h1, h2, (hb g h2 (Array.getElem?_eq_some_iff.1 h3).1).trans h3, h4⟩
/-- What an owned row of bytes is as a source: not empty, so a place with its cells. -/
theorem own_src {W : World} {base n : Nat} {v : Value} {zs : List Int} (h : W.ownsRow base 5 1 v n (zs.map encB)) (h0 : 0 < n) :
  ∃ g cap, v = .slice (some ⟨g, 0, none⟩) n cap ∧ g < W.heap.size ∧ ∀ j u, (zs.map encB)[j]? = some u → W.cell? (Addr.add ⟨g, 0, none⟩ j) = some u := by
 rcases h.2 with ⟨rfl, h2⟩ | ⟨g, cap, cur, rfl, hg⟩
 ·omega
 ·exact ⟨g, cap, rfl, (h.lt g rfl).2, h.cells (g := g) rfl⟩
theorem encB_one {zs : List Int} : ∀ u ∈ zs.map encB, u.oneCell' = true := by
 intro u hu
 obtain ⟨z, -, rfl⟩ := List.mem_map.1 hu
 rfl
/-- An owned row of bytes holds its bytes. -/
theorem own_holds8 {W : World} {base : Nat} {v : Value} {n : Nat} {zs : List Int} (h : W.ownsRow base 5 1 v n (zs.map encB)) : Holds8 W v zs := by
 have hn : n = zs.length := by have := h.1; simpa using this.symm
 subst hn
 by_cases h0 : zs.length = 0
 ·have : zs = [] := List.length_eq_zero_iff.1 h0
  subst this
  rcases h.2 with ⟨rfl, -⟩ | ⟨g, cap, cur, rfl, -⟩
  ·exact ⟨none, 0, rfl, .inl rfl⟩
  ·exact ⟨_, cap, rfl, .inl rfl⟩
 ·obtain ⟨g, cap, rfl, hg, hc⟩ := own_src h (Nat.pos_of_ne_zero h0)
  refine ⟨_, cap, rfl, .inr ⟨g, 0, rfl, hg, fun i hi => ?_⟩⟩
  have := hc i (.int .u8 (nthz zs i)) (by simp [encB, nthz, List.getD_eq_getElem?_getD, hi])
  rw [show (⟨g, 0 + i, none⟩ : Addr) = Addr.add ⟨g, 0, none⟩ i by by_cases h : i = 0 <;> simp [Addr.add, h]]
  exact this
set_option maxRecDepth 100000 in
set_option maxHeartbeats 1000000 in
theorem bytes64_ok (h : List Int) (hh : Words 64 8 h) (w : World) :
  Calls Tryz.prog 98 #[.agg (arrV .u64 h)] w fun e w' => ∃ v, e = .returned v ∧ w'.ownsRow w.heap.size 5 1 v 64 ((bytesW 8 h 8).map encB) ∧ Below w.heap.size w w' := by
 obtain ⟨i0, hi, hz0, hz1, hz2⟩ := info_parts info_u8
 obtain ⟨b0, hb0⟩ : ∃ b0, w.heap.size = b0 := ⟨_, rfl⟩
 go_enter Tryz.func98, Tryz.ntmps98
 obtain ⟨W0, hW0⟩ : ∃ W0, w.alloc (.cells (arrV .u64 h) 150) = W0 := ⟨_, rfl⟩
 have hs0 : W0.heap.size = w.heap.size + 1 := by rw [← hW0]; simp
 have hbl0 : Below w.heap.size w W0 := by rw [← hW0]; exact (Below.refl w.heap.size w).alloc (Nat.le_refl _) _
 have hr0 : W0.heap[b0]? = some (.cells (arrV .u64 h) 150 (0, 0)) := by rw [← hW0]; exact World.alloc_new_at _ _ hb0.symm
 obtain ⟨w1, hr, hown1, hgrow1⟩ := run_make_own (P := Tryz.prog) W0 w.heap.size 23 5 i0 (.int .u8 0) 1 Tryz.underlying23 hi hz0 hz1 .i64 .i64 64 (by rw [hz2]; omega) (by unfold maxLen; omega) (by omega)
 have hr' : (Instr.makeSlice 23 (.int .i64 0) (.int .i64 64)).run Tryz.prog W0 = .ok (.slice (some ⟨W0.heap.size, 0, none⟩) 0 64) w1 := hr
 have hrow : w1.heap[b0]? = some (.cells (arrV .u64 h) 150 (0, 0)) := (hgrow1.block b0 (by omega) (by simp)).trans hr0
 have hb1 : Below w.heap.size w w1 := hbl0.grown hgrow1 (by omega) (fun k e => by cases e)
 obtain ⟨bg, hbg⟩ : ∃ bg, W0.heap.size = bg := ⟨_, rfl⟩
 have hgb : b0 < bg := by omega
 rw [hbg] at hr' hown1
 have HR := Lib.hid hrow
 have HB := Lib.hid hb1
 have HO := Lib.hid hown1
 have HH := Lib.hid hh
 clear hr hgrow1 hbl0 hr0 hb1 hown1 hs0 hbg
 rw [hb0] at HO HB ⊢
 go_wp2_with ((with_reducible show wpList _ _ _ (Oper.mk _ (Op.load _ _) _ _ _ _ :: _) _ _); refine wpList_load_row rfl 150 _ rfl b0 rfl _ _ _ _ HR.out Tryz.underlying150 rfl (by rw [arrV_size, HH.out.1]; kernel_rfl) ?_)
 go_loopw [3, 8] (fun s i wr => ∃ (k : Nat) (v : Value), s = v ∧ i = .int .i64 k ∧ k ≤ 8 ∧ wr.ownsRow b0 5 1 v (8 * k) ((bytesW 8 h k).map encB) ∧ Below b0 w wr) (fun _ i _ => 8 - (intOf i).toNat)
 case atStart => exact ⟨0, _, rfl, rfl, Nat.zero_le _, HO.out, HB.out⟩
 case round =>
  obtain ⟨k, v, rfl, rfl, hk, hown, hb⟩ := hrel
  have hsr := hb.size
  by_cases hlt : k < 8
  ·have ha := arrV_at (k := .u64) HH.out hlt
   obtain ⟨x, hx⟩ : ∃ x : Nat, (x : Int) = wd h k := ⟨(wd h k).toNat, by have := (wd_bounds HH.out hlt); omega⟩
   rw [← hx] at ha
   have hxb : (x : Int) ≤ 18446744073709551615 := by have := (wd_bounds HH.out hlt); omega
   have hnat : (wd h k).toNat = x := by omega
   have e1 : (bytesW 8 h (k + 1)).map encB = (bytesW 8 h k).map encB ++ (bytesK x 8).map encB := by rw [bytesW, List.map_append, hnat]
   have E1 := Lib.hid e1
   have OW := Lib.hid hown
   have BW := Lib.hid hb
   clear e1 hown hb hx hnat
   go_wp2_with fail
   refine (store64_ok x hxb _).mono ?_
   rintro e2 w2 ⟨v2, rfl, hown2, hb2⟩
   have hown' := ownsRow_same' OW.out (W' := w2) (fun g _ hg => hb2.block g hg)
   have hB2 : Below b0 w w2 := BW.out.trans (hb2.mono (by omega))
   have hs2 := hb2.size
   obtain ⟨g2, c2, rfl, hg2, hc2⟩ := own_src hown2 (by decide)
   clear hb2
   go_wp2_with (at_builtin; refine wpList_append_own _ rfl _ _ 23 rfl b0 5 i0 (.int .u8 0) 1 1 Tryz.underlying23 hi hz0 hz1 hz2 rfl (by decide) _ _ _ rfl hown' ⟨g2, 0, none⟩ 8 c2 ((bytesK x 8).map encB) rfl (by rw [List.length_map, bytesK_length]) hc2 encB_one (by unfold maxLen; omega) (by omega) (by omega) ?_; intro v' w3 hown3 hgrow _; have hb3 : Below b0 w w3 := hB2.grown hgrow (by omega) (fun k e => (hown'.lt k e).1))
   rw [← E1.out, ← Nat.mul_succ] at hown3
   exact ⟨⟨k + 1, v', rfl, rfl, by omega, hown3, hb3⟩, by simp [intOf]; omega⟩
  ·obtain rfl : k = 8 := by omega
   go_wp2
   go_ret
   exact ⟨_, rfl, hown, hb⟩
end Go.Proofs.YtjogmckaakkomaaGreat
/- A chain's words as bytes, by the program: the small kind. No condition. -/
namespace Go.Proofs.YtjogmckaakkomaaGreat
open Go.ChangeShapes Go.WideShapes Go.ChangeAt Go.RowKit Go.Joins Go.Shelf Go.Maps
attribute [local go_sem] Oper.semAt_some run_index_arr

theorem cells_new4 (W : World) (a0 a1 a2 a3 : Value) (T : TypeId) : ∀ j u, [a0, a1, a2, a3][j]? = some u → (W.alloc (.cells #[a0, a1, a2, a3] T)).cell? (Addr.add ⟨W.heap.size, 0, none⟩ j) = some u := by
 intro j u hj
 have h := cell_of_heap (World.alloc_heap_new W (.cells #[a0, a1, a2, a3] T)) j
 rw [show Addr.add ⟨W.heap.size, 0, none⟩ j = ⟨W.heap.size, j, none⟩ by first | (simp [Addr.add]; done) | (simp [Addr.add]; omega), h]
 simpa using hj
set_option maxRecDepth 100000 in
set_option maxHeartbeats 1000000 in
theorem bytes32_ok (h : List Int) (hh : Words 32 8 h) (w : World) :
  Calls Tryz.prog 101 #[.agg (arrV .u32 h)] w fun e w' => ∃ v, e = .returned v ∧ w'.ownsRow w.heap.size 5 1 v 32 ((bytesW 4 h 8).map encB) ∧ Below w.heap.size w w' := by
 obtain ⟨i0, hi, hz0, hz1, hz2⟩ := info_parts info_u8
 obtain ⟨b0, hb0⟩ : ∃ b0, w.heap.size = b0 := ⟨_, rfl⟩
 go_enter Tryz.func101, Tryz.ntmps101
 obtain ⟨W0, hW0⟩ : ∃ W0, w.alloc (.cells (arrV .u32 h) 160) = W0 := ⟨_, rfl⟩
 have hs0 : W0.heap.size = w.heap.size + 1 := by rw [← hW0]; simp
 have hbl0 : Below w.heap.size w W0 := by rw [← hW0]; exact (Below.refl w.heap.size w).alloc (Nat.le_refl _) _
 have hr0 : W0.heap[b0]? = some (.cells (arrV .u32 h) 160 (0, 0)) := by rw [← hW0]; exact World.alloc_new_at _ _ hb0.symm
 obtain ⟨w1, hr, hown1, hgrow1⟩ := run_make_own (P := Tryz.prog) W0 w.heap.size 23 5 i0 (.int .u8 0) 1 Tryz.underlying23 hi hz0 hz1 .i64 .i64 32 (by rw [hz2]; omega) (by unfold maxLen; omega) (by omega)
 have hr' : (Instr.makeSlice 23 (.int .i64 0) (.int .i64 32)).run Tryz.prog W0 = .ok (.slice (some ⟨W0.heap.size, 0, none⟩) 0 32) w1 := hr
 have hrow : w1.heap[b0]? = some (.cells (arrV .u32 h) 160 (0, 0)) := (hgrow1.block b0 (by omega) (by simp)).trans hr0
 have hb1 : Below w.heap.size w w1 := hbl0.grown hgrow1 (by omega) (fun k e => by cases e)
 obtain ⟨bg, hbg⟩ : ∃ bg, W0.heap.size = bg := ⟨_, rfl⟩
 have hgb : b0 < bg := by omega
 rw [hbg] at hr' hown1
 have HR := Lib.hid hrow
 have HB := Lib.hid hb1
 have HO := Lib.hid hown1
 have HH := Lib.hid hh
 clear hr hgrow1 hbl0 hr0 hb1 hown1 hs0 hbg
 rw [hb0] at HO HB ⊢
 go_wp2_with ((with_reducible show wpList _ _ _ (Oper.mk _ (Op.load _ _) _ _ _ _ :: _) _ _); refine wpList_load_row rfl 160 _ rfl b0 rfl _ _ _ _ HR.out Tryz.underlying160 rfl (by rw [arrV_size, HH.out.1]; kernel_rfl) ?_)
 go_loopw [3, 8] (fun s i wr => ∃ (k : Nat) (v : Value), s = v ∧ i = .int .i64 k ∧ k ≤ 8 ∧ wr.ownsRow b0 5 1 v (4 * k) ((bytesW 4 h k).map encB) ∧ Below b0 w wr) (fun _ i _ => 8 - (intOf i).toNat)
 case atStart => exact ⟨0, _, rfl, rfl, Nat.zero_le _, HO.out, HB.out⟩
 case round =>
  obtain ⟨k, v, rfl, rfl, hk, hown, hb⟩ := hrel
  have hsr := hb.size
  by_cases hlt : k < 8
  ·have ha := arrV_at (k := .u32) HH.out hlt
   obtain ⟨x, hx⟩ : ∃ x : Nat, (x : Int) = wd h k := ⟨(wd h k).toNat, by have := (wd_bounds HH.out hlt); omega⟩
   rw [← hx] at ha
   have hxb : (x : Int) ≤ 4294967295 := by have := (wd_bounds HH.out hlt); omega
   have hnat : (wd h k).toNat = x := by omega
   have q0 : (x : Int) % 256 = byt x 0 := by have := byt_shr x 0; simpa using this
   have q1 : (x : Int) / 256 % 256 = byt x 1 := byt_shr x 1
   have q2 : (x : Int) / 65536 % 256 = byt x 2 := byt_shr x 2
   have q3 : (x : Int) / 16777216 = byt x 3 := by
    have h3 : (x : Int) / 16777216 % 256 = byt x 3 := byt_shr x 3
    rw [← h3]; omega
   have e1 : (bytesW 4 h (k + 1)).map encB = (bytesW 4 h k).map encB ++ [.int .u8 (byt x 0), .int .u8 (byt x 1), .int .u8 (byt x 2), .int .u8 (byt x 3)] := by rw [bytesW, List.map_append, hnat]; rfl
   have E1 := Lib.hid e1
   clear e1 hx hnat
   go_wp2_with (at_builtin; refine wpList_append_own _ rfl _ _ 23 rfl b0 5 i0 (.int .u8 0) 1 1 Tryz.underlying23 hi hz0 hz1 hz2 rfl (by decide) _ _ _ rfl (hown.alloc _) ⟨wr.heap.size, 0, none⟩ 4 4 [.int .u8 (byt x 0), .int .u8 (byt x 1), .int .u8 (byt x 2), .int .u8 (byt x 3)] rfl rfl (cells_new4 _ _ _ _ _ _) (by simp [Value.oneCell']) (by unfold maxLen; omega) (by omega) (by simp; omega) ?_; intro v' w2 hown' hgrow _; have hb3 : Below b0 w w2 := (hb.alloc (by omega) _).grown hgrow (by simp; omega) (fun k e => (hown.lt k e).1))
   rw [← E1.out, ← Nat.mul_succ] at hown'
   exact ⟨⟨k + 1, v', rfl, rfl, by omega, hown', hb3⟩, by simp [intOf]; omega⟩
  ·obtain rfl : k = 8 := by omega
   go_wp2
   go_ret
   exact ⟨_, rfl, hown, hb⟩
end Go.Proofs.YtjogmckaakkomaaGreat
