/- The walk of shape.Spot. No condition. -/
import Derived.Test.YtahenngmaoellaaN31
import Derived.BigQuiet
import Derived.Deep.QuietTactic
import Derived.WalkMore
import Derived.Scope
set_option linter.all false
set_option maxRecDepth 100000
set_option maxHeartbeats 8000000
namespace Go.Proofs.Ytahenngmaoellaa
open Go.ChangeShapes Go.WideShapes Go.ChangeAt Go.RowKit Go.Joins Go.Shelf Go.Maps
attribute [local go_sem] Oper.semAt_some
theorem wpIn_scope_wide {n : Nat} {P : Program} {c : Code} {Q : Exit → Act → World → Prop} {a : Act} {w : World} (h : c.wpIn Fence.wide n P (Exit.noGoto Q) a w) : (Code.scope c).wpIn Fence.wide n P Q a w :=
  wpIn_wide.2 (wp_scope_straight (wpIn_wide.1 h))
theorem block_set6 {W : World} {b : Nat} {a0 a1 a2 a3 a4 a5 : Value} {T : TypeId} {fr : Nat × Nat} (h : W.heap[b]? = some (Obj.cells #[a0, a1, a2, a3, a4, a5] T fr)) (v0 v1 v2 v3 v4 v5 : Value) :
    ((((((W.setCell ⟨b, 0, none⟩ v0).setCell ⟨b, 1, none⟩ v1).setCell ⟨b, 2, none⟩ v2).setCell ⟨b, 3, none⟩ v3).setCell ⟨b, 4, none⟩ v4).setCell ⟨b, 5, none⟩ v5).heap[b]? = some (Obj.cells #[v0, v1, v2, v3, v4, v5] T fr) :=
  block_setCell (block_setCell (block_setCell (block_setCell (block_setCell (block_setCell h v0) v1) v2) v3) v4) v5
theorem other_set6 {W : World} {b c : Nat} (h : c ≠ b) (v0 v1 v2 v3 v4 v5 : Value) :
    ((((((W.setCell ⟨b, 0, none⟩ v0).setCell ⟨b, 1, none⟩ v1).setCell ⟨b, 2, none⟩ v2).setCell ⟨b, 3, none⟩ v3).setCell ⟨b, 4, none⟩ v4).setCell ⟨b, 5, none⟩ v5).heap[c]? = W.heap[c]? :=
  (Below.heap_setCell _ _ _ _ h).trans ((Below.heap_setCell _ _ _ _ h).trans ((Below.heap_setCell _ _ _ _ h).trans ((Below.heap_setCell _ _ _ _ h).trans ((Below.heap_setCell _ _ _ _ h).trans (Below.heap_setCell _ _ _ _ h)))))
theorem below_set6 {B : Nat} {a W : World} (h : Below B a W) {b : Nat} (hb : B ≤ b) (v0 v1 v2 v3 v4 v5 : Value) :
    Below B a ((((((W.setCell ⟨b, 0, none⟩ v0).setCell ⟨b, 1, none⟩ v1).setCell ⟨b, 2, none⟩ v2).setCell ⟨b, 3, none⟩ v3).setCell ⟨b, 4, none⟩ v4).setCell ⟨b, 5, none⟩ v5) :=
  (((((h.setCell (p := ⟨b, 0, none⟩) hb v0).setCell (p := ⟨b, 1, none⟩) hb v1).setCell (p := ⟨b, 2, none⟩) hb v2).setCell (p := ⟨b, 3, none⟩) hb v3).setCell (p := ⟨b, 4, none⟩) hb v4).setCell (p := ⟨b, 5, none⟩) hb v5
theorem World.alloc_heap_new_at (w : World) (o : Obj) {n : Nat} (hn : n = w.heap.size) : (w.alloc o).heap[n]? = some o := by subst hn; exact World.alloc_heap_new w o
/-- What a function with a place and an error as its results hands back, out of their two blocks. -/
theorem spot_results {P : Program} {fn : Func} {tmps : Array Value} {W : World} {b c : Nat} {v0 v1 v2 v3 v4 v5 e : Value} {T T' : TypeId} {fr fr' : Nat × Nat}
    (hr : fn.results = #[.cell 8 44, .cell 9 32]) (h8 : tmps[8]?.getD undef = .pointer (some ⟨b, 0, none⟩)) (h9 : tmps[9]?.getD undef = .pointer (some ⟨c, 0, none⟩))
    (hb : W.heap[b]? = some (Obj.cells #[v0, v1, v2, v3, v4, v5] T fr)) (hc : W.heap[c]? = some (Obj.cells #[e] T' fr')) (hP : P = Try.prog) :
    (results fn tmps).run P W = .ok (.tuple #[.agg #[v0, v1, v2, v3, v4, v5], e]) W := by
  subst hP
  have c0 := cell_of_heap hb 0
  have c1 := cell_of_heap hb 1
  have c2 := cell_of_heap hb 2
  have c3 := cell_of_heap hb 3
  have c4 := cell_of_heap hb 4
  have c5 := cell_of_heap hb 5
  have d0 := cell_of_heap hc 0
  simp only [List.getElem?_toArray, List.getElem?_cons_zero, List.getElem?_cons_succ] at c0 c1 c2 c3 c4 c5 d0
  simp [results, hr, h8, h9, go_sem, c0, c1, c2, c3, c4, c5, d0]
theorem spot_err (t : TreeV) (hl : 0 ≤ t.l ∧ t.l ≤ 4294967295) (total : Nat) (ht : (total : Int) ≤ 18446744073709551615) (h : t.err total ≠ 0) (row : Int) (at_ : Nat) (w : World) :
    Calls Try.prog 11 #[t.val, .int .u64 total, .int .i64 row, .int .u64 at_] w fun e w' => e = .returned (.tuple #[SpotV.zero.val, .int .i64 (t.err total)]) ∧ Below w.heap.size w w' := by
  have e1 : (t.err total != 0) = true := by rw [bne_iff_ne]; exact h
  clear h
  unfold TreeV.val
  go_enter Try.func11, Try.ntmps11
  go_wp2_with fail
  go_step3
  go_wp2_with fail
  refine (svalid_any t hl total ht _).mono ?_; rintro e w1 ⟨rfl, hb1⟩
  obtain ⟨hc, hf⟩ := bcell hb1
  have hs1 := hb1.size
  simp at hs1
  go_wp2
  rw [Exit.noGoto_ret]
  have hB : Below w.heap.size w w1 := by
    refine Below.trans ?_ (hb1.mono (by simp; omega))
    repeat (first | exact Below.refl _ _ | (refine Below.alloc ?_ (by simp; omega) _) | (refine Below.alloc ?_ (by simp) _))
  have b4 : w1.heap[w.heap.size + 1 + 1 + 1 + 1]? = some (Obj.cells #[.int .i64 0, .int .u64 0, .int .u64 0, .int .u64 0, .bool false, .bool false] 44 (0, 0)) := by
    rw [hb1.block _ (by simp)]
    rw [Below.heap_alloc _ _ _ (by simp)]
    exact World.alloc_heap_new_at _ _ (by simp)
  have b5 : w1.heap[w.heap.size + 1 + 1 + 1 + 1 + 1]? = some (Obj.cells #[.int .i64 0] 32 (0, 0)) := by
    rw [hb1.block _ (by simp)]
    exact World.alloc_heap_new_at _ _ (by simp)
  refine bodyPost_ret (spot_results rfl rfl rfl (b := w.heap.size + 1 + 1 + 1 + 1) (c := w.heap.size + 1 + 1 + 1 + 1 + 1) (T := 44) (fr := (0, 0)) (T' := 32) (fr' := (0, 0)) ?_ ?_ rfl) rfl ⟨rfl, ?_⟩
  · rw [Below.heap_setCell _ _ _ _ (by simp)]
    exact block_set6 b4 _ _ _ _ _ _
  · exact block_setCell ((other_set6 (by omega) _ _ _ _ _ _).trans b5) _
  · exact (below_set6 hB (by omega) _ _ _ _ _ _).setCell (by simp; omega) _
end Go.Proofs.Ytahenngmaoellaa
namespace Go.Proofs.Ytahenngmaoellaa
open Go.ChangeShapes Go.WideShapes Go.ChangeAt Go.RowKit Go.Joins Go.Shelf Go.Maps
/-- The number of the row below, as the loop has it. -/
def belowN (L : List Nat) (pre : List (RowAt L)) : Nat := match pre.getLast? with
  | none => 0
  | some k => nth L k.1
theorem belowN_snoc (L : List Nat) (pre : List (RowAt L)) (x : RowAt L) : belowN L (pre ++ [x]) = nth L x.1 := by simp [belowN]
/-- What the loop of Spot knows between two rounds. -/
def SpotI (w1 : World) (L : List Nat) (row : Int) (pre : List (RowAt L)) (W : World) : Prop :=
  (∀ k ∈ pre, (k.1 : Int) < row) ∧ W.heap[w1.heap.size]? = some (Obj.cells #[.int .u64 (belowN L pre)] 28 (0, 0)) ∧ Below w1.heap.size w1 W
/-- The node's fields, as they are laid down. -/
def spotF (f l total : Nat) (row at_ n b : Nat) : Array Value :=
  if 1 ≤ row ∧ n = 1 then #[.int .i64 row, .int .u64 at_, .int .u64 0, .int .u64 b, .bool ((at_ : Int) == (n : Int) - 1), .bool true]
  else if (at_ : Int) = (n : Int) - 1 then #[.int .i64 row, .int .u64 at_, .int .u64 (IntKind.u64.wrap (at_ * (if row = 0 then l else f : Nat))), .int .u64 (if row = 0 then total else b : Nat), .bool true, .bool false]
  else #[.int .i64 row, .int .u64 at_, .int .u64 (IntKind.u64.wrap (at_ * (if row = 0 then l else f : Nat))), .int .u64 (IntKind.u64.wrap (((at_ : Int) + 1) * (if row = 0 then l else f : Nat))), .bool false, .bool false]
/-- How the loop of Spot may be left. -/
def SpotX (w : World) (t : TreeV) (total : Nat) (L : List Nat) (row : Int) (at_ : Nat) (c : Code) (pre : List (RowAt L)) (W : World) : Prop :=
  (∃ ini k, pre = ini ++ [k] ∧ (∀ j ∈ ini, (j.1 : Int) < row) ∧ row ≤ (k.1 : Nat) ∧
    ((c = .ret ∧ 0 ≤ row ∧ at_ < nth L k.1 ∧ W.heap[w.heap.size + 1 + 1 + 1 + 1]? = some (Obj.cells (spotF t.fn t.ln total row.toNat at_ (nth L k.1) (belowN L ini)) 44 (0, 0)) ∧
        W.heap[w.heap.size + 1 + 1 + 1 + 1 + 1]? = some (Obj.cells #[.int .i64 0] 32 (0, 0))) ∨
     (c = .exit 0 ∧ (row < 0 ∨ nth L k.1 ≤ at_) ∧ W.heap[w.heap.size + 1 + 1 + 1 + 1]? = some (Obj.cells SpotV.zero.val.cells 44 (0, 0)) ∧
        W.heap[w.heap.size + 1 + 1 + 1 + 1 + 1]? = some (Obj.cells #[.int .i64 0] 32 (0, 0))))) ∧ Below w.heap.size w W
theorem own_heap {β : Type} (B b : Nat) (f : β → Array Value) (T : TypeId) (fr : Nat × Nat) : OwnFrom B (fun (s : β) W => W.heap[b]? = some (Obj.cells (f s) T fr)) := by
  intro s W W' row hs hg hr
  refine (hg.block b (Array.getElem?_eq_some_iff.1 hs).1 (fun e => ?_)).trans hs
  obtain ⟨-, o, ho, hc⟩ := hr b e.symm
  rw [hs] at ho
  cases ho
  cases hc
theorem SpotI.own {w1 : World} {L : List Nat} {row : Int} {B : Nat} (hB : w1.heap.size ≤ B) : OwnFrom B (SpotI w1 L row) :=
  fun s W W' r hs hg hr => ⟨hs.1, own_heap B w1.heap.size (fun pre : List (RowAt L) => #[.int .u64 (belowN L pre)]) _ _ s W W' r hs.2.1 hg hr, ownFrom_below (β := List (RowAt L)) (Nat.le_refl _) hB s W W' r hs.2.2 hg hr⟩
theorem SpotX.own {w : World} {t : TreeV} {total : Nat} {L : List Nat} {row : Int} {at_ : Nat} {c : Code} {B : Nat} (hB : w.heap.size ≤ B) : OwnFrom B (SpotX w t total L row at_ c) := by
  intro s W W' r hs hg hr
  obtain ⟨⟨ini, k, h1, h2, h3, h4⟩, hb⟩ := hs
  refine ⟨⟨ini, k, h1, h2, h3, ?_⟩, ownFrom_below (β := List (RowAt L)) (Nat.le_refl _) hB s W W' r hb hg hr⟩
  rcases h4 with ⟨e, r0, r1, r2, r3⟩ | ⟨e, r0, r2, r3⟩
  · exact .inl ⟨e, r0, r1, own_heap B _ (fun _ : Unit => _) _ _ () W W' r r2 hg hr, own_heap B _ (fun _ : Unit => _) _ _ () W W' r r3 hg hr⟩
  · exact .inr ⟨e, r0, own_heap B _ (fun _ : Unit => _) _ _ () W W' r r2 hg hr, own_heap B _ (fun _ : Unit => _) _ _ () W W' r r3 hg hr⟩
/-- What a round that returns leaves behind. -/
def RetP (B : Nat) (w : World) (t : TreeV) (total : Nat) (L : List Nat) (row : Int) (at_ : Nat) (xs : List (RowAt L)) (W W' : World) : Prop := KeepsFrom B W W' ∧ SpotX w t total L row at_ .ret xs W'
theorem RetP.drew {B : Nat} {w : World} {t : TreeV} {total : Nat} {L : List Nat} {row : Int} {at_ : Nat} {xs : List (RowAt L)} {W W' : World} (h : RetP B w t total L row at_ xs W W') : RetP B w t total L row at_ xs W W'.drew :=
  ⟨h.1.trans ((KeepsOthers.drew _).from _), h.2.1, h.2.2.drew⟩
theorem spot_ret {B : Nat} {w : World} {t : TreeV} {total : Nat} {L : List Nat} {row : Int} {at_ : Nat} {pre : List (RowAt L)} {x : RowAt L} {W : World} {a0 a1 a2 a3 a4 a5 b0 v0 v1 v2 v3 v4 v5 : Value} {o : Obj}
    (h0 : ∀ k ∈ pre, (k.1 : Int) < row) (hr : 0 ≤ row) (hk : row ≤ (x.1 : Nat)) (hat : at_ < nth L x.1) (hB : Below w.heap.size w W)
    (d4 : W.heap[w.heap.size + 1 + 1 + 1 + 1]? = some (Obj.cells #[a0, a1, a2, a3, a4, a5] 44 (0, 0))) (d5 : W.heap[w.heap.size + 1 + 1 + 1 + 1 + 1]? = some (Obj.cells #[b0] 32 (0, 0)))
    (hv : spotF t.fn t.ln total row.toNat at_ (nth L x.1) (belowN L pre) = #[v0, v1, v2, v3, v4, v5]) :
    RetP B w t total L row at_ (pre ++ [x]) W ((((((((W.setCell ⟨w.heap.size + 1 + 1 + 1 + 1, 0, none⟩ v0).setCell ⟨w.heap.size + 1 + 1 + 1 + 1, 1, none⟩ v1).setCell ⟨w.heap.size + 1 + 1 + 1 + 1, 2, none⟩ v2).setCell ⟨w.heap.size + 1 + 1 + 1 + 1, 3, none⟩ v3).setCell ⟨w.heap.size + 1 + 1 + 1 + 1, 4, none⟩ v4).setCell ⟨w.heap.size + 1 + 1 + 1 + 1, 5, none⟩ v5).setCell ⟨w.heap.size + 1 + 1 + 1 + 1 + 1, 0, none⟩ (.int .i64 0)).alloc o) := by
  have s4 := (Array.getElem?_eq_some_iff.1 d4).1
  have s5 := (Array.getElem?_eq_some_iff.1 d5).1
  refine ⟨((((((((KeepsOthers.setCell W _ _).trans (KeepsOthers.setCell _ _ _)).trans (KeepsOthers.setCell _ _ _)).trans (KeepsOthers.setCell _ _ _)).trans (KeepsOthers.setCell _ _ _)).trans (KeepsOthers.setCell _ _ _)).trans (KeepsOthers.setCell _ _ _)).trans (KeepsOthers.alloc _ _)).from _,
    ⟨pre, x, rfl, h0, hk, .inl ⟨rfl, hr, hat, ?_, ?_⟩⟩, ((below_set6 hB (by omega) _ _ _ _ _ _).setCell (p := ⟨w.heap.size + 1 + 1 + 1 + 1 + 1, 0, none⟩) (by show w.heap.size ≤ w.heap.size + 1 + 1 + 1 + 1 + 1; omega) _).alloc (by simp; omega) _⟩
  · rw [Below.heap_alloc _ _ _ (by simp; omega), Below.heap_setCell _ _ _ _ (by simp), hv]
    exact block_set6 d4 _ _ _ _ _ _
  · rw [Below.heap_alloc _ _ _ (by simp; omega)]
    exact block_setCell ((other_set6 (by omega) _ _ _ _ _ _).trans d5) _
/-! ### What the walk leaves, in plain words -/
theorem spotF_val {f p total l : Nat} {L : List Nat} (hl : 1 ≤ l) (ht : (total : Int) ≤ 18446744073709551615) (h : RowsIs f p (lvs total l) L) {row at_ b : Nat} (hr : row < L.length) (ha : at_ < nth L row) (hb : 1 ≤ row → b = nth L (row - 1)) :
    spotF f l total row at_ (nth L row) b = (spotIn f l total L row at_).val.cells := by
  have hla : ((at_ : Int) == (nth L row : Int) - 1) = decide (at_ = nth L row - 1) := by
    rw [Bool.eq_iff_iff, beq_iff_eq, decide_eq_true_iff]; omega
  unfold spotF spotIn
  by_cases hn : 1 ≤ row ∧ nth L row = 1
  · rw [if_pos hn, if_pos hn, hb hn.1, hla]; rfl
  · obtain ⟨b1, b2, -⟩ := spot_bounds hl h hr ha hn
    have e3 : (if row = 0 then total else b) = (if row = 0 then total else nth L (row - 1)) := by
      by_cases h0 : row = 0
      · rw [if_pos h0, if_pos h0]
      · rw [if_neg h0, if_neg h0, hb (by omega)]
    have hto : ((if row = 0 then total else nth L (row - 1) : Nat) : Int) ≤ 18446744073709551615 := by
      by_cases h0 : row = 0
      · rw [if_pos h0]; exact ht
      · rw [if_neg h0]; exact rows_le hl ht h _ (by omega)
    have w1 : IntKind.u64.wrap ((at_ : Int) * ((if row = 0 then l else f : Nat) : Int)) = ((at_ * (if row = 0 then l else f) : Nat) : Int) := by
      rw [wrap_u64, ← Int.natCast_mul]; omega
    rw [if_neg hn, if_neg hn, w1, e3]
    by_cases hz : at_ = nth L row - 1
    · rw [if_pos (show (at_ : Int) = (nth L row : Int) - 1 by omega), if_pos hz]; rfl
    · have b2' := b2 hz
      have w2 : IntKind.u64.wrap (((at_ : Int) + 1) * ((if row = 0 then l else f : Nat) : Int)) = (((at_ + 1) * (if row = 0 then l else f) : Nat) : Int) := by
        rw [wrap_u64, show ((at_ : Int) + 1) = ((at_ + 1 : Nat) : Int) by omega, ← Int.natCast_mul]; omega
      rw [if_neg (show ¬ (at_ : Int) = (nth L row : Int) - 1 by omega), if_neg hz, w2]; rfl
/-- The rows that a loop has met, where they are a beginning of all. -/
theorem rowAt_last {L : List Nat} {ini : List (RowAt L)} {k : RowAt L} (h : (ini ++ [k]).map (·.1) = List.range (ini ++ [k]).length) : k.1 = ini.length ∧ ini.map (·.1) = List.range ini.length := by
  rw [List.map_append, List.length_append, List.length_singleton, List.range_succ] at h
  have := List.append_inj h (by simp)
  exact ⟨by simpa using this.2, this.1⟩
theorem rowAt_mem {L : List Nat} {ini : List (RowAt L)} (h : ini.map (·.1) = List.range ini.length) {row : Int} (hlt : ∀ j ∈ ini, (j.1 : Int) < row) : (ini.length : Int) ≤ row ∨ ini = [] := by
  by_cases h0 : ini = []
  · exact .inr h0
  · refine .inl ?_
    have hl : 0 < ini.length := List.length_pos_iff.2 h0
    have hm : ini.length - 1 ∈ ini.map (·.1) := by rw [h]; exact List.mem_range.2 (by omega)
    obtain ⟨j, hj, e⟩ := List.mem_map.1 hm
    have := hlt j hj
    omega
theorem belowN_is {L : List Nat} {ini : List (RowAt L)} (h : ini.map (·.1) = List.range ini.length) (h1 : 1 ≤ ini.length) : belowN L ini = nth L (ini.length - 1) := by
  obtain ⟨a, k, rfl⟩ : ∃ a k, ini = a ++ [k] := ⟨_, _, (List.dropLast_concat_getLast (by intro e; subst e; simp at h1)).symm⟩
  rw [belowN_snoc, (rowAt_last h).1]
  congr 1
  simp
/-- A loop that returned: there is such a node, and what it laid down is the node. -/
theorem spot_found {t : TreeV} {total : Nat} (ht : (total : Int) ≤ 18446744073709551615) (hl : 1 ≤ t.ln) (h : t.err total = 0) {row : Int} {at_ : Nat} {ini : List (RowAt (t.rowsOf total))} {k : RowAt (t.rowsOf total)}
    (hp : (ini ++ [k]).map (·.1) = List.range (ini ++ [k]).length) (hlt : ∀ j ∈ ini, (j.1 : Int) < row) (hk : row ≤ (k.1 : Nat)) (h0 : 0 ≤ row) (ha : at_ < nth (t.rowsOf total) k.1) :
    t.there total row at_ ∧ spotF t.fn t.ln total row.toNat at_ (nth (t.rowsOf total) k.1) (belowN _ ini) = (t.spot total row.toNat at_).val.cells := by
  obtain ⟨e1, e2⟩ := rowAt_last hp
  have e3 : row.toNat = k.1 := by
    rcases rowAt_mem e2 hlt with g | g
    · omega
    · subst g
      simp at e1
      omega
  rw [e3]
  refine ⟨⟨h0, by rw [e3]; exact k.2, by rw [e3]; exact ha⟩, spotF_val hl ht (TreeV.rows_is h) k.2 ha (fun g => ?_)⟩
  rw [belowN_is e2 (by omega), e1]
theorem spot_notfound {t : TreeV} {total : Nat} {row : Int} {at_ : Nat} {ini : List (RowAt (t.rowsOf total))} {k : RowAt (t.rowsOf total)}
    (hp : (ini ++ [k]).map (·.1) = List.range (ini ++ [k]).length) (hlt : ∀ j ∈ ini, (j.1 : Int) < row) (hk : row ≤ (k.1 : Nat)) (h0 : row < 0 ∨ nth (t.rowsOf total) k.1 ≤ at_) : ¬ t.there total row at_ := by
  rintro ⟨g0, g1, g2⟩
  obtain ⟨e1, e2⟩ := rowAt_last hp
  have e3 : row.toNat = k.1 := by
    rcases rowAt_mem e2 hlt with g | g
    · omega
    · subst g
      simp at e1
      omega
  rw [e3] at g2
  omega
theorem spot_past {t : TreeV} {total : Nat} {row : Int} {at_ : Nat} {ys : List (RowAt (t.rowsOf total))} (hp : ys.map (·.1) = List.range (t.rowsOf total).length) (hlt : ∀ j ∈ ys, (j.1 : Int) < row) : ¬ t.there total row at_ := by
  rintro ⟨g0, g1, -⟩
  have hm : row.toNat ∈ ys.map (·.1) := by rw [hp]; exact List.mem_range.2 g1
  obtain ⟨j, hj, e⟩ := List.mem_map.1 hm
  have := hlt j hj
  omega
end Go.Proofs.Ytahenngmaoellaa
