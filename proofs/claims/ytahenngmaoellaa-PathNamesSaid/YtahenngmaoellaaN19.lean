/- A chain's words as bytes, by the program: the big kind. No condition. -/
import Derived.Test.YtahenngmaoellaaN18
import Derived.Laws.MakeOwn
import Derived.Test.YtahenngmaoellaaN09
import Derived.Deep.RegionHeld3
import Derived.Laws.AppendOwnNone
set_option linter.all false
set_option maxRecDepth 100000
set_option maxHeartbeats 8000000
namespace Go.Proofs.Ytahenngmaoellaa
open Go.ChangeShapes Go.WideShapes Go.ChangeAt Go.RowKit Go.Joins Go.Shelf Go.Maps
open Go.Lib (hid)
attribute [local go_sem] Oper.semAt_some run_index_arr
/-- The first i words' bytes, n of each. -/
def bytesW (n : Nat) (h : List Int) : Nat → List Int
 | 0 => []
 | i + 1 => bytesW n h i ++ bytesK (wd h i).toNat n
theorem bytesW_length (n : Nat) (h : List Int) : ∀ i, (bytesW n h i).length = n * i
 | 0 => rfl
 | i + 1 => by rw [bytesW, List.length_append, bytesW_length n h i, bytesK_length, Nat.mul_succ]
theorem wd_bounds {N n : Nat} {L : List Int} (h : Words N n L) {i : Nat} (hi : i < n) : 0 ≤ wd L i ∧ wd L i < 2 ^ N := by
 have e : wd L i = L[i]'(by rw [h.1]; exact hi) := by unfold wd; simp [List.getD_eq_getElem?_getD, h.1, hi]
 rw [e]
 exact h.2 _ (List.getElem_mem _)
theorem byt_bounds (x k : Nat) : 0 ≤ byt x k ∧ byt x k ≤ 255 := by unfold byt; omega
theorem bytesK_bounds (x k : Nat) : ∀ z ∈ bytesK x k, 0 ≤ z ∧ z ≤ 255 := by
 intro z hz
 simp only [bytesK, List.mem_map] at hz
 obtain ⟨j, -, rfl⟩ := hz
 exact byt_bounds x j
theorem bytesW_bounds (n : Nat) (h : List Int) : ∀ i, ∀ z ∈ bytesW n h i, 0 ≤ z ∧ z ≤ 255
 | 0, z, hz => by simp [bytesW] at hz
 | i + 1, z, hz => by
  rw [bytesW, List.mem_append] at hz
  rcases hz with hz | hz
  ·exact bytesW_bounds n h i z hz
  ·exact bytesK_bounds _ _ z hz
theorem ownsRow_same' {W W' : World} {base : Nat} {e : TypeId} {size : Nat} {v : Value} {n : Nat} {xs : List Value} (h : W.ownsRow base e size v n xs) (hb : ∀ g, base ≤ g → g < W.heap.size → W'.heap[g]? = W.heap[g]?) : W'.ownsRow base e size v n xs := by
 refine ⟨h.1, ?_⟩
 rcases h.2 with h2 | ⟨g, cap, cur, h1, h2, h3, h4⟩
 ·exact .inl h2
 ·exact .inr ⟨g, cap, cur, h1, h2, (hb g h2 (Array.getElem?_eq_some_iff.1 h3).1).trans h3, h4⟩
/-- What an owned row of bytes is as a source: not empty, so a place with its cells. -/
theorem own_src {W : World} {base n : Nat} {v : Value} {zs : List Int} (h : W.ownsRow base 5 1 v n (zs.map encB)) (h0 : 0 < n) :
  ∃ g cap, v = .slice (some ⟨g, 0, none⟩) n cap ∧ g < W.heap.size ∧ ∀ j u, (zs.map encB)[j]? = some u → W.cell? (Addr.add ⟨g, 0, none⟩ j) = some u := by
 rcases h.2 with ⟨rfl, h2⟩ | ⟨g, cap, cur, rfl, hg⟩
 ·omega
 ·exact ⟨g, cap, rfl, (h.lt g rfl).2, h.cells (g := g) rfl⟩
theorem encB_one {zs : List Int} : ∀ u ∈ zs.map encB, u.oneCell' = true := by
 intro u hu
 obtain ⟨z, -, rfl⟩ := List.mem_map.1 hu
 rfl
/-- An owned row of bytes holds its bytes. -/
theorem own_holds8 {W : World} {base : Nat} {v : Value} {n : Nat} {zs : List Int} (h : W.ownsRow base 5 1 v n (zs.map encB)) : Holds8 W v zs := by
 have hn : n = zs.length := by have := h.1; simpa using this.symm
 subst hn
 by_cases h0 : zs.length = 0
 ·have : zs = [] := List.length_eq_zero_iff.1 h0
  subst this
  rcases h.2 with ⟨rfl, -⟩ | ⟨g, cap, cur, rfl, -⟩
  ·exact ⟨none, 0, rfl, .inl rfl⟩
  ·exact ⟨_, cap, rfl, .inl rfl⟩
 ·obtain ⟨g, cap, rfl, hg, hc⟩ := own_src h (Nat.pos_of_ne_zero h0)
  refine ⟨_, cap, rfl, .inr ⟨g, 0, rfl, hg, fun i hi => ?_⟩⟩
  have := hc i (.int .u8 (nthz zs i)) (by simp [encB, nthz, List.getD_eq_getElem?_getD, hi])
  rw [show (⟨g, 0 + i, none⟩ : Addr) = Addr.add ⟨g, 0, none⟩ i by by_cases h : i = 0 <;> simp [Addr.add, h]]
  exact this
theorem bytes64_ok (h : List Int) (hh : Words 64 8 h) (w : World) :
  Calls Try.prog 57 #[.agg (arrV .u64 h)] w fun e w' => ∃ v, e = .returned v ∧ w'.ownsRow w.heap.size 5 1 v 64 ((bytesW 8 h 8).map encB) ∧ Below w.heap.size w w' := by
 obtain ⟨i0, hi, hz0, hz1, hz2⟩ := info_parts info_u8
 obtain ⟨b0, hb0⟩ : ∃ b0, w.heap.size = b0 := ⟨_, rfl⟩
 go_enter Try.func57, Try.ntmps57
 obtain ⟨W0, hW0⟩ : ∃ W0, w.alloc (.cells (arrV .u64 h) 114) = W0 := ⟨_, rfl⟩
 have hs0 : W0.heap.size = w.heap.size + 1 := by rw [← hW0]; simp
 have hbl0 : Below w.heap.size w W0 := by rw [← hW0]; exact (Below.refl w.heap.size w).alloc (Nat.le_refl _) _
 have hr0 : W0.heap[b0]? = some (.cells (arrV .u64 h) 114 (0, 0)) := by rw [← hW0]; exact World.alloc_new_at _ _ hb0.symm
 obtain ⟨w1, hr, hown1, hgrow1⟩ := run_make_own (P := Try.prog) W0 w.heap.size 24 5 i0 (.int .u8 0) 1 Try.underlying24 hi hz0 hz1 .i64 .i64 64 (by rw [hz2]; omega) (by unfold maxLen; omega) (by omega)
 have hr' : (Instr.makeSlice 24 (.int .i64 0) (.int .i64 64)).run Try.prog W0 = .ok (.slice (some ⟨W0.heap.size, 0, none⟩) 0 64) w1 := hr
 have hrow : w1.heap[b0]? = some (.cells (arrV .u64 h) 114 (0, 0)) := (hgrow1.block b0 (by omega) (by simp)).trans hr0
 have hb1 : Below w.heap.size w w1 := hbl0.grown hgrow1 (by omega) (fun k e => by cases e)
 obtain ⟨bg, hbg⟩ : ∃ bg, W0.heap.size = bg := ⟨_, rfl⟩
 have hgb : b0 < bg := by omega
 rw [hbg] at hr' hown1
 have HR := hid hrow
 have HB := hid hb1
 have HO := hid hown1
 have HH := hid hh
 clear hr hgrow1 hbl0 hr0 hb1 hown1 hs0 hbg
 rw [hb0] at HO HB ⊢
 go_wp2_with ((with_reducible show wpList _ _ _ (Oper.mk _ (Op.load _ _) _ _ _ _ :: _) _ _); refine wpList_load_row rfl 114 _ rfl b0 rfl _ _ _ _ HR.out Try.underlying114 rfl (by rw [arrV_size, HH.out.1]; kernel_rfl) ?_)
 go_loopw [3, 8] (fun s i wr => ∃ (k : Nat) (v : Value), s = v ∧ i = .int .i64 k ∧ k ≤ 8 ∧ wr.ownsRow b0 5 1 v (8 * k) ((bytesW 8 h k).map encB) ∧ Below b0 w wr) (fun _ i _ => 8 - (intOf i).toNat)
 case atStart => exact ⟨0, _, rfl, rfl, Nat.zero_le _, HO.out, HB.out⟩
 case round =>
  obtain ⟨k, v, rfl, rfl, hk, hown, hb⟩ := hrel
  have hsr := hb.size
  by_cases hlt : k < 8
  ·have ha := arrV_at (k := .u64) HH.out hlt
   obtain ⟨x, hx⟩ : ∃ x : Nat, (x : Int) = wd h k := ⟨(wd h k).toNat, by have := (wd_bounds HH.out hlt); omega⟩
   rw [← hx] at ha
   have hxb : (x : Int) ≤ 18446744073709551615 := by have := (wd_bounds HH.out hlt); omega
   have hnat : (wd h k).toNat = x := by omega
   have e1 : (bytesW 8 h (k + 1)).map encB = (bytesW 8 h k).map encB ++ (bytesK x 8).map encB := by rw [bytesW, List.map_append, hnat]
   have E1 := hid e1
   have OW := hid hown
   have BW := hid hb
   clear e1 hown hb hx hnat
   go_wp2_with fail
   refine (store64_ok x hxb _).mono ?_
   rintro e2 w2 ⟨v2, rfl, hown2, hb2⟩
   have hown' := ownsRow_same' OW.out (W' := w2) (fun g _ hg => hb2.block g hg)
   have hB2 : Below b0 w w2 := BW.out.trans (hb2.mono (by omega))
   have hs2 := hb2.size
   obtain ⟨g2, c2, rfl, hg2, hc2⟩ := own_src hown2 (by decide)
   clear hb2
   go_wp2_with (at_builtin; refine wpList_append_own _ rfl _ _ 24 rfl b0 5 i0 (.int .u8 0) 1 1 Try.underlying24 hi hz0 hz1 hz2 rfl (by decide) _ _ _ rfl hown' ⟨g2, 0, none⟩ 8 c2 ((bytesK x 8).map encB) rfl (by rw [List.length_map, bytesK_length]) hc2 encB_one (by unfold maxLen; omega) (by omega) (by omega) ?_; intro v' w3 hown3 hgrow _; have hb3 : Below b0 w w3 := hB2.grown hgrow (by omega) (fun k e => (hown'.lt k e).1))
   rw [← E1.out, ← Nat.mul_succ] at hown3
   exact ⟨⟨k + 1, v', rfl, rfl, by omega, hown3, hb3⟩, by simp [intOf]; omega⟩
  ·obtain rfl : k = 8 := by omega
   go_wp2
   go_ret
   exact ⟨_, rfl, hown, hb⟩
attribute [local go_sem] Oper.semAt_some run_index_arr
theorem cells_new4 (W : World) (a0 a1 a2 a3 : Value) (T : TypeId) : ∀ j u, [a0, a1, a2, a3][j]? = some u → (W.alloc (.cells #[a0, a1, a2, a3] T)).cell? (Addr.add ⟨W.heap.size, 0, none⟩ j) = some u := by
 intro j u hj
 have h := cell_of_heap (World.alloc_heap_new W (.cells #[a0, a1, a2, a3] T)) j
 rw [show Addr.add ⟨W.heap.size, 0, none⟩ j = ⟨W.heap.size, j, none⟩ by first | (simp [Addr.add]; done) | (simp [Addr.add]; omega), h]
 simpa using hj
theorem bytes32_ok (h : List Int) (hh : Words 32 8 h) (w : World) :
  Calls Try.prog 60 #[.agg (arrV .u32 h)] w fun e w' => ∃ v, e = .returned v ∧ w'.ownsRow w.heap.size 5 1 v 32 ((bytesW 4 h 8).map encB) ∧ Below w.heap.size w w' := by
 obtain ⟨i0, hi, hz0, hz1, hz2⟩ := info_parts info_u8
 obtain ⟨b0, hb0⟩ : ∃ b0, w.heap.size = b0 := ⟨_, rfl⟩
 go_enter Try.func60, Try.ntmps60
 obtain ⟨W0, hW0⟩ : ∃ W0, w.alloc (.cells (arrV .u32 h) 124) = W0 := ⟨_, rfl⟩
 have hs0 : W0.heap.size = w.heap.size + 1 := by rw [← hW0]; simp
 have hbl0 : Below w.heap.size w W0 := by rw [← hW0]; exact (Below.refl w.heap.size w).alloc (Nat.le_refl _) _
 have hr0 : W0.heap[b0]? = some (.cells (arrV .u32 h) 124 (0, 0)) := by rw [← hW0]; exact World.alloc_new_at _ _ hb0.symm
 obtain ⟨w1, hr, hown1, hgrow1⟩ := run_make_own (P := Try.prog) W0 w.heap.size 24 5 i0 (.int .u8 0) 1 Try.underlying24 hi hz0 hz1 .i64 .i64 32 (by rw [hz2]; omega) (by unfold maxLen; omega) (by omega)
 have hr' : (Instr.makeSlice 24 (.int .i64 0) (.int .i64 32)).run Try.prog W0 = .ok (.slice (some ⟨W0.heap.size, 0, none⟩) 0 32) w1 := hr
 have hrow : w1.heap[b0]? = some (.cells (arrV .u32 h) 124 (0, 0)) := (hgrow1.block b0 (by omega) (by simp)).trans hr0
 have hb1 : Below w.heap.size w w1 := hbl0.grown hgrow1 (by omega) (fun k e => by cases e)
 obtain ⟨bg, hbg⟩ : ∃ bg, W0.heap.size = bg := ⟨_, rfl⟩
 have hgb : b0 < bg := by omega
 rw [hbg] at hr' hown1
 have HR := hid hrow
 have HB := hid hb1
 have HO := hid hown1
 have HH := hid hh
 clear hr hgrow1 hbl0 hr0 hb1 hown1 hs0 hbg
 rw [hb0] at HO HB ⊢
 go_wp2_with ((with_reducible show wpList _ _ _ (Oper.mk _ (Op.load _ _) _ _ _ _ :: _) _ _); refine wpList_load_row rfl 124 _ rfl b0 rfl _ _ _ _ HR.out Try.underlying124 rfl (by rw [arrV_size, HH.out.1]; kernel_rfl) ?_)
 go_loopw [3, 8] (fun s i wr => ∃ (k : Nat) (v : Value), s = v ∧ i = .int .i64 k ∧ k ≤ 8 ∧ wr.ownsRow b0 5 1 v (4 * k) ((bytesW 4 h k).map encB) ∧ Below b0 w wr) (fun _ i _ => 8 - (intOf i).toNat)
 case atStart => exact ⟨0, _, rfl, rfl, Nat.zero_le _, HO.out, HB.out⟩
 case round =>
  obtain ⟨k, v, rfl, rfl, hk, hown, hb⟩ := hrel
  have hsr := hb.size
  by_cases hlt : k < 8
  ·have ha := arrV_at (k := .u32) HH.out hlt
   obtain ⟨x, hx⟩ : ∃ x : Nat, (x : Int) = wd h k := ⟨(wd h k).toNat, by have := (wd_bounds HH.out hlt); omega⟩
   rw [← hx] at ha
   have hxb : (x : Int) ≤ 4294967295 := by have := (wd_bounds HH.out hlt); omega
   have hnat : (wd h k).toNat = x := by omega
   have q0 : (x : Int) % 256 = byt x 0 := by have := byt_shr x 0; simpa using this
   have q1 : (x : Int) / 256 % 256 = byt x 1 := byt_shr x 1
   have q2 : (x : Int) / 65536 % 256 = byt x 2 := byt_shr x 2
   have q3 : (x : Int) / 16777216 = byt x 3 := by
    have h3 : (x : Int) / 16777216 % 256 = byt x 3 := byt_shr x 3
    rw [← h3]; omega
   have e1 : (bytesW 4 h (k + 1)).map encB = (bytesW 4 h k).map encB ++ [.int .u8 (byt x 0), .int .u8 (byt x 1), .int .u8 (byt x 2), .int .u8 (byt x 3)] := by rw [bytesW, List.map_append, hnat]; rfl
   have E1 := hid e1
   clear e1 hx hnat
   go_wp2_with (at_builtin; refine wpList_append_own _ rfl _ _ 24 rfl b0 5 i0 (.int .u8 0) 1 1 Try.underlying24 hi hz0 hz1 hz2 rfl (by decide) _ _ _ rfl (hown.alloc _) ⟨wr.heap.size, 0, none⟩ 4 4 [.int .u8 (byt x 0), .int .u8 (byt x 1), .int .u8 (byt x 2), .int .u8 (byt x 3)] rfl rfl (cells_new4 _ _ _ _ _ _) (by simp [Value.oneCell']) (by unfold maxLen; omega) (by omega) (by simp; omega) ?_; intro v' w2 hown' hgrow _; have hb3 : Below b0 w w2 := (hb.alloc (by omega) _).grown hgrow (by simp; omega) (fun k e => (hown.lt k e).1))
   rw [← E1.out, ← Nat.mul_succ] at hown'
   exact ⟨⟨k + 1, v', rfl, rfl, by omega, hown', hb3⟩, by simp [intOf]; omega⟩
  ·obtain rfl : k = 8 := by omega
   go_wp2
   go_ret
   exact ⟨_, rfl, hown, hb⟩
end Go.Proofs.Ytahenngmaoellaa
namespace Go.Proofs.Ytahenngmaoellaa
open Go.ChangeShapes Go.WideShapes Go.ChangeAt Go.RowKit Go.Joins Go.Shelf Go.Maps
open Go.Lib (hid)
attribute [local go_sem] Oper.semAt_some
/-- What is appended: a slice of one-cell elements, nil too. -/
def SrcIs (w : World) (x : Value) (m : Nat) (news : List Value) : Prop :=
 news.length = m ∧ (∀ u ∈ news, u.oneCell' = true) ∧ ((x = .slice none 0 0 ∧ m = 0) ∨ ∃ ad c, x = .slice (some ad) m c ∧ ∀ j u, news[j]? = some u → w.cell? (ad.add j) = some u)
theorem SrcIs.below {w w' : World} {x : Value} {m : Nat} {news : List Value} (h : SrcIs w x m news) (hb : Below w.heap.size w w') : SrcIs w' x m news := by
 refine ⟨h.1, h.2.1, ?_⟩
 rcases h.2.2 with h2 | ⟨ad, c, e, h2⟩
 ·exact .inl h2
 ·refine .inr ⟨ad, c, e, fun j u hj => ?_⟩
  have := h2 j u hj
  rw [hb.cell (World.block_lt_of_cell? w _ this)]; exact this
theorem run_append_now {P : Program} {w W : World} {B : Nat} (hB : B = W.heap.size) (hb : Below B W w) (t ty e : TypeId) (i : TypeInfo) (z : Value) (bytes : Nat) (ht : P.underlying t = some (.slice e)) (hi : P.info? e = some i) (hz : i.zero = some z)
  (hsize : i.size = 1) (hby : i.bytes = bytes) (hzs : z.cells.size = 1) (v : Value) (n : Nat) (xs : List Value) (hown : w.ownsRow B e 1 v n xs)
  (x : Value) (m : Nat) (news : List Value) (hsrc : SrcIs w x m news) (h63 : n + m ≤ maxLen) (hbytes : (n + m) * bytes ≤ 140737488355328) :
  ∃ v' w', (Builtin.append_ #[t, t] ty #[v, x]).run P w = .ok v' w' ∧ w'.ownsRow B e 1 v' (n + m) (xs ++ news) ∧ Below B W w' := by
 subst hB
 obtain ⟨h1, h2, h3⟩ := hsrc
 rcases h3 with ⟨rfl, rfl⟩ | ⟨ad, c, rfl, h3⟩
 ·obtain rfl : news = [] := List.eq_nil_of_length_eq_zero h1
  exact ⟨v, w, run_append_owned_none w W.heap.size t ty e i 1 ht hi v n xs hown, by simpa using hown, hb⟩
 ·obtain ⟨v', w', hr, hown', hgrow, -⟩ := run_append_own (P := P) w W.heap.size t ty e i z 1 bytes ht hi hz hsize hby hzs (by omega) v n xs hown ad m c news (by omega) h3 h2 h63 hbytes hb.size
  exact ⟨v', w', hr, hown', hb.grown hgrow hb.size (fun k e => (hown.lt k e).1)⟩
theorem step_append_now {P : Program} {w : World} {ops : Array Oper} {o : Oper} {a : Act} {K : Act → World → Prop} {Q : Exit → Act → World → Prop} {E : Prop} (hgd : o.guard = none) (s x : Operand) (t : TypeId)
  (ho : o.op = .call { callee := .builtin .append, args := #[s, x], argTypes := #[t, t] }) (W : World) (B : Nat) (hB : B = W.heap.size) (hb : Below B W w)
  (e : TypeId) (i : TypeInfo) (z : Value) (bytes : Nat) (ht : P.underlying t = some (.slice e)) (hi : P.info? e = some i) (hz : i.zero = some z)
  (hsize : i.size = 1) (hby : i.bytes = bytes) (hzs : z.cells.size = 1) (v : Value) (n : Nat) (xs : List Value) (hs : a.eval s = v) (hown : w.ownsRow B e 1 v n xs)
  (u : Value) (m : Nat) (news : List Value) (hx : a.eval x = u) (hsrc : SrcIs w u m news) (h63 : n + m ≤ maxLen) (hbytes : (n + m) * bytes ≤ 140737488355328)
  (h : ∀ v' w', w'.ownsRow B e 1 v' (n + m) (xs ++ news) → Below B W w' → K (a.put o.dst v') w') :
  if Region.wanted o (yielded ops a.tmps) = true then Oper.wp P o a w K Q else E := by
 have hw : Region.wanted o (yielded ops a.tmps) = true := by simp [Region.wanted, hgd]
 rw [if_pos hw]
 obtain ⟨v', w', hr, h2, h3⟩ := run_append_now (P := P) hB hb t o.type e i z bytes ht hi hz hsize hby hzs v n xs hown u m news hsrc h63 hbytes
 unfold Oper.wp execOp
 simp only [ho, resolve, invoke, builtin, Sem.run_bind, Sem.run_pure, Result.andThen_ok, List.map_toArray, List.map_cons, List.map_nil, hs, hx, hr]
 exact h v' w' h2 h3
theorem wpList_append_now {P : Program} {w : World} {ops : Array Oper} {o : Oper} {l : List Oper} {a : Act} {Q : Exit → Act → World → Prop} (hgd : o.guard = none) (s x : Operand) (t : TypeId)
  (ho : o.op = .call { callee := .builtin .append, args := #[s, x], argTypes := #[t, t] }) (W : World) (B : Nat) (hB : B = W.heap.size) (hb : Below B W w)
  (e : TypeId) (i : TypeInfo) (z : Value) (bytes : Nat) (ht : P.underlying t = some (.slice e)) (hi : P.info? e = some i) (hz : i.zero = some z)
  (hsize : i.size = 1) (hby : i.bytes = bytes) (hzs : z.cells.size = 1) (v : Value) (n : Nat) (xs : List Value) (hs : a.eval s = v) (hown : w.ownsRow B e 1 v n xs)
  (u : Value) (m : Nat) (news : List Value) (hx : a.eval x = u) (hsrc : SrcIs w u m news) (h63 : n + m ≤ maxLen) (hbytes : (n + m) * bytes ≤ 140737488355328)
  (h : ∀ v' w', w'.ownsRow B e 1 v' (n + m) (xs ++ news) → Below B W w' → wpList P ops Q l (a.put o.dst v') w') : wpList P ops Q (o :: l) a w := by
 have hw : Region.wanted o (yielded ops a.tmps) = true := by simp [Region.wanted, hgd]
 unfold wpList
 rw [if_pos hw]
 refine .inl ?_
 have H := step_append_now (ops := ops) (K := wpList P ops Q l) (Q := Q) (E := True) hgd s x t ho W B hB hb e i z bytes ht hi hz hsize hby hzs v n xs hs hown u m news hx hsrc h63 hbytes h
 rw [if_pos hw] at H
 exact H
/-- How many are left of the first k. -/
def trimL (zs : List Int) : Nat → Nat
 | 0 => 0
 | k + 1 => if nthz zs k = 0 then trimL zs k else k + 1
theorem trimL_le (zs : List Int) : ∀ k, trimL zs k ≤ k
 | 0 => Nat.le_refl _
 | k + 1 => by
  unfold trimL
  split
  ·exact Nat.le_succ_of_le (trimL_le zs k)
  ·exact Nat.le_refl _
theorem src_take {w : World} {b off n cap : Nat} {zs : List Int} (h : BytesAt w b off zs) (hn : n ≤ zs.length) : SrcIs w (.slice (some ⟨b, off, none⟩) n cap) n ((zs.take n).map encB) := by
 refine ⟨by simp; omega, ?_, .inr ⟨⟨b, off, none⟩, cap, rfl, ?_⟩⟩
 ·intro u hu
  obtain ⟨z, -, rfl⟩ := List.mem_map.1 hu
  rfl
 ·intro j u hj
  obtain ⟨hj1, rfl⟩ := List.getElem?_eq_some_iff.1 hj
  simp at hj1
  rw [Go.WideShapes.add_plain, h.2 j (by omega)]
  simp [encB, nthz, List.getD_eq_getElem?_getD, show j < zs.length by omega]
theorem trimmed_ok (zs : List Int) (b off cap : Nat) (w : World) (hB : BytesAt w b off zs) (hcap : zs.length ≤ cap) (hm : zs.length ≤ 4294967296) :
  Calls Try.prog 52 #[.slice (some ⟨b, off, none⟩) zs.length cap] w fun e w' => ∃ v', e = .returned v' ∧ w'.ownsRow w.heap.size 5 1 v' (trimL zs zs.length) ((zs.take (trimL zs zs.length)).map encB) ∧ Below w.heap.size w w' := by
 obtain ⟨i0, hi, hz0, hz1, hz2⟩ := info_parts info_u8
 obtain ⟨h1, h2⟩ := id hB
 have HC := hid h2
 have HB := hid hB
 clear h2 hB
 go_enter Try.func52, Try.ntmps52
 go_wp2_with fail
 go_loopw [3] (fun i wr => ∃ k : Nat, i = .int .i64 k ∧ wr = w ∧ k ≤ zs.length ∧ trimL zs k = trimL zs zs.length) (fun i _ => (intOf i).toNat)
 case atStart => exact ⟨zs.length, rfl, rfl, Nat.le_refl _, rfl⟩
 case round =>
  obtain ⟨k, rfl, rfl, hk, he0⟩ := hrel
  have HE := hid he0
  clear he0
  cases k with
  | zero =>
   have k5 : (0 : Int) ≤ cap := by omega
   have hN := trimL_le zs zs.length
   have E0 := hid (show trimL zs zs.length = 0 from HE.out.symm)
   go_wp2_with (at_builtin; refine wpList_append_now rfl _ _ _ rfl wr wr.heap.size rfl (by repeat (first | exact Below.refl _ _ | refine Below.drew ?_)) 5 i0 (.int .u8 0) 1 Try.underlying24 hi hz0 hz1 hz2 rfl _ 0 [] rfl (World.ownsRow_nil _ _ _ _) _ 0 _ rfl (src_take (n := 0) HB.out (by omega)) (by unfold maxLen; omega) (by omega) ?_; intro v' w2 hown' hb3)
   go_ret
   refine ⟨_, rfl, ?_, hb3⟩
   rw [E0.out]
   exact hown'
  | succ j =>
   have hc := HC.out j (by omega)
   have k1 : ((j + 1 : Nat) : Int) - 1 = (j : Nat) := by omega
   have k2 : 0 ≤ (j : Int) ∧ (j : Int) < 4294967296 := by omega
   obtain ⟨k3, k4⟩ := k2
   have k5 : (j : Int) + 1 ≤ cap := by omega
   by_cases hj : nthz zs j = 0
   ·rw [hj] at hc
    go_wp2
    exact ⟨⟨j, rfl, by trivial, by omega, by rw [← HE.out]; simp [trimL, hj]⟩, by simp [intOf]⟩
   ·have E0 := hid (show j + 1 = trimL zs zs.length by rw [← HE.out]; simp [trimL, hj])
    have q := beq_eq_false_iff_ne.2 hj
    have q2 : (nthz zs j == 0) = false := q
    generalize nthz zs j = z at hc hj q q2
    clear q hj
    go_wp2_with (at_builtin; refine wpList_append_now rfl _ _ _ rfl wr wr.heap.size rfl (by repeat (first | exact Below.refl _ _ | refine Below.drew ?_)) 5 i0 (.int .u8 0) 1 Try.underlying24 hi hz0 hz1 hz2 rfl _ 0 [] rfl (World.ownsRow_nil _ _ _ _) _ (j + 1) _ rfl (src_take (n := j + 1) HB.out (by omega)) (by unfold maxLen; omega) (by omega) ?_; intro v' w2 hown' hb3)
    go_ret
    refine ⟨_, rfl, ?_, hb3⟩
    rw [← E0.out]
    simpa using hown'
theorem right_any (big : Bool) (a : Option Addr) (n cap : Nat) (w : World) :
  Calls Try.prog 39 #[.int .i64 (kB big), .slice a n cap] w fun e w' => (∃ x, e = .returned (.int .i64 x) ∧ (x = 0 ↔ n = mB big)) ∧ w' = w := by
 have hs := sizes_ok big
 cases big
 case' false =>
  change ∀ w : World, Calls Try.prog 37 #[.int .i64 2] w fun e w' => e = .returned (.tuple #[.int .i64 32, .int .i64 32, .int .i64 8]) ∧ w' = w at hs
  change Calls _ _ #[.int .i64 2, _] _ fun e w' => (∃ x, e = .returned (.int .i64 x) ∧ (x = 0 ↔ n = 32)) ∧ _
  obtain ⟨N, hN⟩ : ∃ N : Nat, N = 32 := ⟨_, rfl⟩
 case' true =>
  change ∀ w : World, Calls Try.prog 37 #[.int .i64 1] w fun e w' => e = .returned (.tuple #[.int .i64 64, .int .i64 64, .int .i64 16]) ∧ w' = w at hs
  change Calls _ _ #[.int .i64 1, _] _ fun e w' => (∃ x, e = .returned (.int .i64 x) ∧ (x = 0 ↔ n = 64)) ∧ _
  obtain ⟨N, hN⟩ : ∃ N : Nat, N = 64 := ⟨_, rfl⟩
 all_goals
  by_cases h1 : n < N
  case' neg => by_cases h2 : N < n
  all_goals
   subst hN
   go_enter Try.func39, Try.ntmps39
   go_wp2_with fail
   refine (hs _).mono ?_; rintro e w1 ⟨rfl, rfl⟩
   go_wp2_with fail
   go_ret
   exact ⟨⟨_, rfl, by omega⟩, rfl⟩
/-- Where a field stands, and how many bytes it has. -/
def atB (big : Bool) : Nat → Nat
 | 1 => 0 | 2 => 1 | 3 => 2 | 4 => 3 | 5 => 4 | 6 => 8 | 7 => 12
 | 8 => cond big 16 14
 | _ => cond big 17 15
def szB (big : Bool) : Nat → Nat
 | 5 => 4
 | 6 => cond big 8 6
 | 7 => cond big 4 2
 | _ => 1
/-- The rows in memory: each field's number, place and size. -/
def RowsIn (big : Bool) (w : World) (b : Nat) : Prop := b < w.heap.size ∧ ∀ f, 1 ≤ f → f ≤ 9 → w.cell? ⟨b, (f - 1) * 5, none⟩ = some (.int .i64 f) ∧ w.cell? ⟨b, (f - 1) * 5 + 1, none⟩ = some (.int .i64 (atB big f : Nat)) ∧ w.cell? ⟨b, (f - 1) * 5 + 2, none⟩ = some (.int .i64 (szB big f : Nat))
theorem info_row : (Try.prog.info? 104).map (fun i => (i.zero, i.size, i.bytes)) = some (some (.agg #[.int .i64 0, .int .i64 0, .int .i64 0, .string ⟨#[]⟩, .int .i64 0]), 5, 48) := by kernel_rfl
theorem rows_ok (big : Bool) (w : World) :
  Calls Try.prog 40 #[.int .i64 (kB big)] w fun e w' => (∃ b, e = .returned (.slice (some ⟨b, 0, none⟩) 9 9) ∧ w.heap.size ≤ b ∧ RowsIn big w' b) ∧ Below w.heap.size w w' := by
 cases hie : Try.prog.info? 104 with
 | none => have := info_row; rw [hie] at this; cases this
 | some ie =>
 have hi := info_row
 rw [hie] at hi
 simp only [Option.map_some, Option.some.injEq, Prod.mk.injEq] at hi
 obtain ⟨hz, hsz, -⟩ := hi
 cases big <;>
 ·simp only [kB, cond]
  go_enter Try.func40, Try.ntmps40
  go_wp2_with ((with_reducible show wpList _ _ _ (Oper.mk _ (Op.buildSlice _ _ _) _ _ _ _ :: _) _ _); refine wpList_buildSlice rfl 100 104 9 _ rfl rowCells ie _ Try.underlying100 hie hz (by rw [hsz]; decide) (by rw [hsz]; decide) (by rw [hsz]; rfl) ?_)
  go_ret
  refine ⟨⟨_, rfl, Nat.le_refl _, by simp, fun f h1 h2 => ?_⟩, (Below.refl _ _).alloc (Nat.le_refl _) _⟩
  have h : f = 1 ∨ f = 2 ∨ f = 3 ∨ f = 4 ∨ f = 5 ∨ f = 6 ∨ f = 7 ∨ f = 8 ∨ f = 9 := by omega
  rcases h with rfl | rfl | rfl | rfl | rfl | rfl | rfl | rfl | rfl <;> exact ⟨(cell_of_heap (World.alloc_heap_new w _) _).trans rfl, (cell_of_heap (World.alloc_heap_new w _) _).trans rfl, (cell_of_heap (World.alloc_heap_new w _) _).trans rfl⟩
end Go.Proofs.Ytahenngmaoellaa
