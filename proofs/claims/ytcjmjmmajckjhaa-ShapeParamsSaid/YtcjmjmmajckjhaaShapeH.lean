/- The walk of shape.Rows. No condition. -/
import Derived.Test.YtcjmjmmajckjhaaShapeG
namespace Go.Proofs.Ytcjmjmmajckjhaa
open Go.ChangeShapes Go.WideShapes Go.ChangeAt Go.RowKit Go.Joins Go.Shelf Go.Maps
attribute [local go_sem] Oper.semAt_some

theorem KpT.alloc (W : World) (o : Obj) : KpT W (W.alloc o) := fun b _ _ _ _ hb => (Below.heap_alloc W o b (Array.getElem?_eq_some_iff.1 hb).1).trans hb
theorem KpT.setCell {W : World} {p : Addr} {c : Array Value} {T : TypeId} {fr : Nat × Nat} (h : W.heap[p.block]? = some (Obj.cells c T fr)) (h1 : T ≠ 148) (h2 : T ≠ 32) (u : Value) : KpT W (W.setCell p u) := by
  intro b c' fr' T' hT hb
  by_cases e : b = p.block
  · subst e
    rw [h] at hb
    cases hb
    rcases hT with rfl | rfl
    · exact absurd rfl h1
    · exact absurd rfl h2
  · exact (Below.heap_setCell W p u b e).trans hb
theorem KpT.grown {W W' : World} {row : Option Nat} (hg : W.grownBy W' row) (hr : ∀ k, row = some k → ∃ (c : Array Value) (T : TypeId) (fr : Nat × Nat), W.heap[k]? = some (Obj.cells c T fr) ∧ T ≠ 148 ∧ T ≠ 32) : KpT W W' := by
  intro b c fr T hT hb
  refine (hg.block b (Array.getElem?_eq_some_iff.1 hb).1 (fun e => ?_)).trans hb
  obtain ⟨c', T', fr', h, h1, h2⟩ := hr b e.symm
  rw [h] at hb
  cases hb
  rcases hT with rfl | rfl
  · exact absurd rfl h1
  · exact absurd rfl h2
theorem KpT.putObj (W : World) (l : Nat) (o o' : Obj) (hl : W.heap[l]? = some o) (ho : o.isCells = false) : KpT W (W.putObj l o') := by
  intro b c fr T _ hb
  refine ((grownBy_putObj' W l o').block b (Array.getElem?_eq_some_iff.1 hb).1 (fun e => ?_)).trans hb
  cases e
  rw [hl] at hb
  cases hb
  cases ho
theorem ownsRow_typed {W : World} {base : Nat} {e : TypeId} {size : Nat} {v : Value} {k : Nat} {xs : List Value} (h : W.ownsRow base e size v k xs) : ∀ g, v.ownBlock = some g → ∃ (c : Array Value) (T : TypeId) (fr : Nat × Nat), W.heap[g]? = some (Obj.cells c T fr) ∧ T = e := by
  intro g hg
  rcases h.2 with ⟨rfl, _⟩ | ⟨g', cap, cur, rfl, _, hgb, _⟩
  · simp [Value.ownBlock] at hg
  · obtain rfl : g' = g := by simpa [Value.ownBlock] using hg
    exact ⟨_, _, _, hgb, rfl⟩

set_option maxRecDepth 100000 in
theorem rows_err (t : TreeV) (hl : 0 ≤ t.l ∧ t.l ≤ 4294967295) (total : Nat) (ht : (total : Int) ≤ 18446744073709551615) (h : t.err total ≠ 0) (w : World) :
    Calls Try.prog 36 #[t.val, .int .u64 total] w fun e w' => e = .returned (.tuple #[.slice none 0 0, .int .i64 (t.err total)]) ∧ Below w.heap.size w w' := by
  have e1 : (t.err total != 0) = true := by rw [bne_iff_ne]; exact h
  clear h
  unfold TreeV.val
  go_enter Try.func36, Try.ntmps36
  go_wp2_with fail
  refine (svalid_any t hl total ht _).mono ?_; rintro e w1 ⟨rfl, hb1⟩
  go_wp2
  go_ret2
  exact ⟨rfl, below_alloc_then _ hb1⟩

theorem range_nth (L : List Nat) : (List.range L.length).map (fun k => nth L k) = L := by
  apply List.ext_getElem?
  intro k
  by_cases hk : k < L.length
  · simp [hk, nth]
  · rw [List.getElem?_eq_none (by simp; omega), List.getElem?_eq_none (by omega)]
theorem rowAt_all {L : List Nat} {ys : List (RowAt L)} (h : ys.map (·.1) = List.range L.length) : ys.length = L.length ∧ ys.map (fun x => encU (nth L x.1)) = L.map encU := by
  constructor
  · have := congrArg List.length h
    simpa using this
  · have e : ys.map (fun x => encU (nth L x.1)) = (ys.map (·.1)).map (fun k => encU (nth L k)) := by simp
    rw [e, h]
    conv => rhs; rw [← range_nth L]
    simp

/-- What the loop of Rows has laid down so far. -/
def RowsAcc (w1 : World) (L : List Nat) (pre : List (RowAt L)) (W : World) : Prop :=
  (∃ v, Boxed W w1.heap.size 74 v ∧ W.ownsRow w1.heap.size 33 1 v pre.length (pre.map (fun x => encU (nth L x.1))) ∧ True) ∧ Below w1.heap.size w1 W
theorem RowsAcc.own {w1 : World} {L : List Nat} {B : Nat} (hB : w1.heap.size ≤ B) : OwnFrom B (RowsAcc w1 L) :=
  OwnFrom.and (Own.from (holdsRow_own w1.heap.size w1.heap.size 74 33 1 (fun pre : List (RowAt L) => pre.length) (fun pre => pre.map (fun x => encU (nth L x.1))) (fun _ _ => True)) _) (ownFrom_below (Nat.le_refl _) hB)
set_option maxRecDepth 100000 in
set_option maxHeartbeats 2000000 in
theorem rows_ok (t : TreeV) (hl : 0 ≤ t.l ∧ t.l ≤ 4294967295) (total : Nat) (ht : (total : Int) ≤ 18446744073709551615) (h : t.err total = 0) (w : World) :
    Calls Try.prog 36 #[t.val, .int .u64 total] w fun e w' => ∃ v, e = .returned (.tuple #[v, .int .i64 0]) ∧
      w'.ownsRow w.heap.size 33 1 v (rowsL t.fn t.pn (lvs total t.ln)).length ((rowsL t.fn t.pn (lvs total t.ln)).map encU) ∧ Below w.heap.size w w' := by
  obtain ⟨i0, hi, hz0, hz1, hz2⟩ := info_parts info_u64
  have hv := TreeV.err_valid h
  have hN : (rowsL t.fn t.pn (lvs total t.ln)).length ≤ 256 := by
    have hvf := TreeV.valid_facts hv
    have := rowsFrom_length t.fn t.pn t.pn 1 (lvs total t.ln)
    have hp : t.pn ≤ 255 := by unfold TreeV.pn; omega
    simp only [rowsL, List.length_cons]; omega
  obtain ⟨L, hL⟩ : ∃ L, rowsL t.fn t.pn (lvs total t.ln) = L := ⟨_, rfl⟩
  rw [hL] at hN
  have H := Lib.hid h
  clear h
  rw [hL]
  refine (callsIn_wide (n := 9)).1 ?_
  refine callsIn_of_wp_marks Try.func36 rfl trivial ?_ rfl
  unfold TreeV.val
  simp only [Try.ntmps36, List.size_toArray, List.length_cons, List.length_nil, Nat.reduceAdd, Nat.reduceSub, Array.replicate_succ, Array.replicate_zero, List.push_toArray, List.append_toArray, List.nil_append, List.cons_append]
  gi_wp2_with fail
  refine ⟨trivial, ?_⟩
  refine (callsIn_wide.2 (svalid_any t hl total ht _)).mono ?_; rintro e w1 ⟨rfl, hb1⟩
  rw [H.out]
  obtain ⟨hc, -⟩ := bcell hb1
  have hs1 : w.heap.size < w1.heap.size := by have := hb1.size; simp at this; omega
  gi_wp2_with fail
  refine ⟨trivial, ?_⟩
  refine (callsIn_wide.2 (each_any t total _)).mono ?_; rintro e w2 ⟨rfl, rfl⟩
  gi_wp2_with fail
  have bO := Boxed.new w1 74 (.slice none 0 0)
  have hT : ((w1.alloc (.cells #[.slice none 0 0] 74)).alloc (.cells t.arr 32)).heap[w1.heap.size + 1]? = some (Obj.cells t.arr 32 (0, 0)) := by
    have := World.alloc_heap_new (w1.alloc (.cells #[.slice none 0 0] 74)) (.cells t.arr 32)
    rwa [World.size_alloc] at this
  have hT2 : (((w1.alloc (.cells #[.slice none 0 0] 74)).alloc (.cells t.arr 32)).alloc (.cells #[.int .u64 total] 33)).heap[w1.heap.size + 1]? = some (Obj.cells t.arr 32 (0, 0)) :=
    (Below.heap_alloc _ _ _ (by simp)).trans hT
  have hN2 : (((w1.alloc (.cells #[.slice none 0 0] 74)).alloc (.cells t.arr 32)).alloc (.cells #[.int .u64 total] 33)).heap[w1.heap.size + 1 + 1]? = some (Obj.cells #[.int .u64 total] 33 (0, 0)) := by
    have := World.alloc_heap_new ((w1.alloc (.cells #[.slice none 0 0] 74)).alloc (.cells t.arr 32)) (.cells #[.int .u64 total] 33)
    rwa [World.size_alloc, World.size_alloc] at this
  have hB0 : Below w1.heap.size w1 (((w1.alloc (.cells #[.slice none 0 0] 74)).alloc (.cells t.arr 32)).alloc (.cells #[.int .u64 total] 33)) := (((Below.refl _ w1).alloc (Nat.le_refl _) _).alloc (by simp) _).alloc (by simp; omega) _
  have bO2 := (bO.alloc (.cells t.arr 32)).alloc (.cells #[.int .u64 total] 33)
  have hst := each_stops (9 - 1) t hl total ht hv _ _ _ hT2 hN2 L hL
  refine wpIn_rangeFunc_ownG rfl (by omega) (gf := 82) (lb := #[.pointer (some ⟨w1.heap.size + 1, 0, none⟩), .pointer (some ⟨w1.heap.size + 1 + 1, 0, none⟩)]) rfl trivial (enters_of Try.func82 (by kernel_rfl) rfl)
    hst (fun h k => h.trans k) (fun W l o o' _ hl ho _ => KpT.putObj W l o o' hl ho) (Below.refl _ _) (fun _ => rfl)
    (RowsAcc w1 L)
    (fun _ _ _ => False)
    (RowsAcc.own (by simp; omega))
    (fun _ _ _ _ _ hs _ _ => hs)
    ⟨⟨_, bO2, World.ownsRow_nil _ _ _ _, trivial⟩, hB0⟩
    (fun x => { tmps := #[t.val, .int .u64 total, .pointer (some ⟨w.heap.size, 0, none⟩), undef, .slice none 0 0, .int .i64 0, .int .i64 0, .pointer (some ⟨w1.heap.size, 0, none⟩), undef, .int .u64 (nth L x.1 : Nat), t.val, .int .u64 total, .int .i64 0, .int .i64 0, .bool false, undef, t.val, .int .u64 total,
      .func (.func 82) #[] #[.pointer (some ⟨w1.heap.size + 1, 0, none⟩), .pointer (some ⟨w1.heap.size + 1 + 1, 0, none⟩)], .int .i64 (x.1 : Nat), .int .u64 (nth L x.1 : Nat), undef, undef, undef, undef, undef], defers := [] }) ?assign ?body ?done ?stop
  case assign =>
    intro l x W K hK
    simp only [encR]
    gi_wp2
    exact hK
  case body =>
    rintro l pre x W ⟨⟨v, hb, hrow, -⟩, hB⟩ hlt
    have hc := hb.cell
    have hs2 := hB.size
    gi_wp2_with (gi_at_builtin; refine wpListIn_append_own _ rfl _ _ 74 rfl w1.heap.size 33 i0 (.int .u64 0) 1 8 Try.underlying74 hi hz0 hz1 hz2 rfl (by decide) _ _ _ rfl (hrow.alloc _) ⟨W.heap.size, 0, none⟩ 1 1 [.int .u64 (nth L x.1 : Nat)] rfl rfl (cell_one_new _ _ _) (by simp [Value.oneCell']) (by unfold maxLen; omega) (by omega) (by simp; omega) ?_; intro v' w3 hown' hgrow _; obtain ⟨g', cap', rfl⟩ := ownsRow_succ hown'; obtain ⟨hv1, hv2, hr2, hk2, hb2⟩ := hb.appended (by decide) hrow hB.size (Nat.le_refl _) hown' hgrow; have hc1 := hv1.cell; have hf1 := hv1.frozen)
    have hkp : KpT W (w3.setCell ⟨w1.heap.size, 0, none⟩ (.slice (some ⟨g', 0, none⟩) (pre.length + 1) cap')) := by
      refine ((KpT.alloc W _).trans (KpT.grown hgrow (fun k e => ?_))).trans (KpT.setCell (p := ⟨w1.heap.size, 0, none⟩) hv1 (by decide) (by decide) _)
      obtain ⟨c, T, fr, hh, rfl⟩ := ownsRow_typed (hrow.alloc _) k e
      exact ⟨c, _, fr, hh, by decide, by decide⟩
    have e1 : (pre ++ [x]).length = pre.length + 1 := by rw [List.length_append]; rfl
    have e2 : (pre ++ [x]).map (fun x => encU (nth L x.1)) = pre.map (fun x => encU (nth L x.1)) ++ [.int .u64 (nth L x.1 : Nat)] := by rw [List.map_append]; rfl
    have hr3 : (w3.setCell ⟨w1.heap.size, 0, none⟩ (.slice (some ⟨g', 0, none⟩) (pre.length + 1) cap')).ownsRow w1.heap.size 33 1 (.slice (some ⟨g', 0, none⟩) (pre.length + 1) cap') (pre ++ [x]).length ((pre ++ [x]).map (fun x => encU (nth L x.1))) := by
      rw [e1, e2]; exact hr2
    exact ⟨hk2.from _, hkp, ⟨_, hv2, hr3, trivial⟩, hB.trans hb2⟩
  case done =>
    rintro D ys W hD hys ⟨⟨v, hb, hrow, -⟩, hB⟩ hK
    obtain ⟨hy1, hy2⟩ := rowAt_all hys
    have hc := hb.cell
    gi_wp2
    have hlD : w1.heap.size ≤ D := by simp at hD; omega
    refine ⟨by simp, .inl ⟨_, _, rfl, run_takeDeferred hK, ?_⟩⟩
    refine ⟨_, results_tmp2 (fn := Try.f36) (t := 4) (u := 5) rfl _ _ _, v, rfl, ?_, ?_⟩
    · have hr2 := ownsRow_putObj hrow (.deferred none) hK rfl
      rw [hy1, hy2] at hr2
      exact ownsRow_le hr2 (by omega)
    · exact (below_alloc_then _ hb1).trans ((hB.trans (belowK_b (w := w1) (Nat.le_refl _) W D _ _ hlD hK rfl rfl)).mono (by omega))
  case stop =>
    rintro D c pre W _ _ h _
    exact h.elim
end Go.Proofs.Ytcjmjmmajckjhaa
