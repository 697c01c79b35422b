/- The walk of shape.Spot, where the tree may be. No condition. -/
import Derived.Test.YtchepcilkcdemaaS28
import Derived.Sort.QuietIn
import Derived.BigRegionIn
import Derived.Test.YtchepcilkcdemaaS29
import Derived.Test.YtchepcilkcdemaaS06
import Derived.Deep.RegionHeld3
set_option linter.all false
set_option maxRecDepth 100000
set_option maxHeartbeats 8000000
namespace Go.Proofs.Ytchepcilkcdemaa
open Go.ChangeShapes Go.WideShapes Go.ChangeAt Go.RowKit Go.Joins Go.Shelf Go.Maps
attribute [local go_sem] Oper.semAt_some
theorem one_way {G X : Prop} (h : G → X) (g : G) : X := h g
/-- A node's place and the error. -/
def TreeV.spotR (t : TreeV) (total : Nat) (row : Int) (at_ : Nat) : SpotV := if t.err total = 0 ∧ t.there total row at_ then t.spot total row.toNat at_ else SpotV.zero
def TreeV.spotE (t : TreeV) (total : Nat) (row : Int) (at_ : Nat) : Int := if t.err total ≠ 0 then t.err total else if t.there total row at_ then 0 else 6
/-- The fields that the reference lays down. -/
def refF (f l : Int) (total k at_ n b : Nat) (root : Bool) : Array Value :=
 if root = true then #[.int .i64 k, .int .u64 at_, .int .u64 0, .int .u64 b, .bool ((at_ : Int) == (n : Int) - 1), .bool true]
 else if (at_ : Int) = (n : Int) - 1 then #[.int .i64 k, .int .u64 at_, .int .u64 (IntKind.u64.wrap (at_ * (if k = 0 then l else f))), .int .u64 (if k = 0 then total else b : Nat), .bool true, .bool false]
 else #[.int .i64 k, .int .u64 at_, .int .u64 (IntKind.u64.wrap (at_ * (if k = 0 then l else f))), .int .u64 (IntKind.u64.wrap (IntKind.u64.wrap (at_ * (if k = 0 then l else f)) + (if k = 0 then l else f))), .bool false, .bool false]
/-- What the reference lays down is this. -/
def IsRef (t : TreeV) (L : List Nat) (total k at_ : Nat) (A : Array Value) : Prop := A = refF t.f t.l total k at_ (nth L k) (nth L (k - 1)) (decide (k = L.length - 1))
end Go.Proofs.Ytchepcilkcdemaa
namespace Go.Proofs.Ytchepcilkcdemaa
open Go.ChangeShapes Go.WideShapes Go.ChangeAt Go.RowKit Go.Joins Go.Shelf Go.Maps
theorem refF_val {t : TreeV} {p total : Nat} {L : List Nat} (hfe : t.f = (t.fn : Int)) (hle : t.l = (t.ln : Int)) (hl : 1 ≤ t.ln) (ht : (total : Int) ≤ 18446744073709551615) (h : RowsIs t.fn p (lvs total t.ln) L) {row at_ : Nat} (hr : row < L.length) (ha : at_ < nth L row) :
  refF t.f t.l total row at_ (nth L row) (nth L (row - 1)) (decide (row = L.length - 1)) = (spotIn t.fn t.ln total L row at_).val.cells := by
 have hla : ((at_ : Int) == (nth L row : Int) - 1) = decide (at_ = nth L row - 1) := by
  rw [Bool.eq_iff_iff, beq_iff_eq, decide_eq_true_iff]; omega
 rw [hfe, hle]
 generalize t.fn = f at *
 generalize t.ln = l at *
 unfold refF spotIn
 by_cases hn : 1 ≤ row ∧ nth L row = 1
 ·rw [if_pos (decide_eq_true ((h.root_iff hr).1 hn)), if_pos hn, hla]; rfl
 ·have hn' : ¬ row = L.length - 1 := fun e => hn ((h.root_iff hr).2 e)
  obtain ⟨b1, b2, -⟩ := spot_bounds hl h hr ha hn
  have hto : ((if row = 0 then total else nth L (row - 1) : Nat) : Int) ≤ 18446744073709551615 := by
   by_cases h0 : row = 0
   ·rw [if_pos h0]; exact ht
   ·rw [if_neg h0]; exact rows_le hl ht h _ (by omega)
  have e0 : (if row = 0 then (l : Int) else (f : Int)) = ((if row = 0 then l else f : Nat) : Int) := by split <;> rfl
  have w1 : IntKind.u64.wrap ((at_ : Int) * ((if row = 0 then l else f : Nat) : Int)) = ((at_ * (if row = 0 then l else f) : Nat) : Int) := by
   rw [wrap_u64, ← Int.natCast_mul]; omega
  rw [e0, if_neg (by simp; exact hn'), if_neg hn, w1]
  by_cases hz : at_ = nth L row - 1
  ·rw [if_pos (show (at_ : Int) = (nth L row : Int) - 1 by omega), if_pos hz]; rfl
  ·have b2' := b2 hz
   have w2 : IntKind.u64.wrap (((at_ * (if row = 0 then l else f) : Nat) : Int) + ((if row = 0 then l else f : Nat) : Int)) = (((at_ + 1) * (if row = 0 then l else f) : Nat) : Int) := by
    rw [Nat.add_mul, Nat.one_mul] at b2' ⊢
    rw [wrap_u64, ← Int.natCast_add]; omega
   rw [if_neg (show ¬ (at_ : Int) = (nth L row : Int) - 1 by omega), if_neg hz, w2]; rfl
end Go.Proofs.Ytchepcilkcdemaa
namespace Go.Proofs.Ytchepcilkcdemaa
open Go.ChangeShapes Go.WideShapes Go.ChangeAt Go.RowKit Go.Joins Go.Shelf Go.Maps
attribute [local go_sem] Oper.semAt_some
theorem block_set11 {W : World} {b : Nat} {a0 a1 a2 a3 a4 a5 a6 a7 a8 a9 a10 : Value} {T : TypeId} {fr : Nat × Nat} (h : W.heap[b]? = some (Obj.cells #[a0, a1, a2, a3, a4, a5, a6, a7, a8, a9, a10] T fr)) (v0 v1 v2 v3 v4 v5 v6 v7 v8 v9 v10 : Value) :
  (((((((((((W.setCell ⟨b, 0, none⟩ v0).setCell ⟨b, 1, none⟩ v1).setCell ⟨b, 2, none⟩ v2).setCell ⟨b, 3, none⟩ v3).setCell ⟨b, 4, none⟩ v4).setCell ⟨b, 5, none⟩ v5).setCell ⟨b, 6, none⟩ v6).setCell ⟨b, 7, none⟩ v7).setCell ⟨b, 8, none⟩ v8).setCell ⟨b, 9, none⟩ v9).setCell ⟨b, 10, none⟩ v10).heap[b]? = some (Obj.cells #[v0, v1, v2, v3, v4, v5, v6, v7, v8, v9, v10] T fr) := by
 have h0 : (W.setCell ⟨b, 0, none⟩ v0).heap[b]? = some (Obj.cells #[v0, a1, a2, a3, a4, a5, a6, a7, a8, a9, a10] T fr) := block_setCell h v0
 have h1 : ((W.setCell ⟨b, 0, none⟩ v0).setCell ⟨b, 1, none⟩ v1).heap[b]? = some (Obj.cells #[v0, v1, a2, a3, a4, a5, a6, a7, a8, a9, a10] T fr) := block_setCell h0 v1
 have h2 : (((W.setCell ⟨b, 0, none⟩ v0).setCell ⟨b, 1, none⟩ v1).setCell ⟨b, 2, none⟩ v2).heap[b]? = some (Obj.cells #[v0, v1, v2, a3, a4, a5, a6, a7, a8, a9, a10] T fr) := block_setCell h1 v2
 have h3 : ((((W.setCell ⟨b, 0, none⟩ v0).setCell ⟨b, 1, none⟩ v1).setCell ⟨b, 2, none⟩ v2).setCell ⟨b, 3, none⟩ v3).heap[b]? = some (Obj.cells #[v0, v1, v2, v3, a4, a5, a6, a7, a8, a9, a10] T fr) := block_setCell h2 v3
 have h4 : (((((W.setCell ⟨b, 0, none⟩ v0).setCell ⟨b, 1, none⟩ v1).setCell ⟨b, 2, none⟩ v2).setCell ⟨b, 3, none⟩ v3).setCell ⟨b, 4, none⟩ v4).heap[b]? = some (Obj.cells #[v0, v1, v2, v3, v4, a5, a6, a7, a8, a9, a10] T fr) := block_setCell h3 v4
 have h5 : ((((((W.setCell ⟨b, 0, none⟩ v0).setCell ⟨b, 1, none⟩ v1).setCell ⟨b, 2, none⟩ v2).setCell ⟨b, 3, none⟩ v3).setCell ⟨b, 4, none⟩ v4).setCell ⟨b, 5, none⟩ v5).heap[b]? = some (Obj.cells #[v0, v1, v2, v3, v4, v5, a6, a7, a8, a9, a10] T fr) := block_setCell h4 v5
 have h6 : (((((((W.setCell ⟨b, 0, none⟩ v0).setCell ⟨b, 1, none⟩ v1).setCell ⟨b, 2, none⟩ v2).setCell ⟨b, 3, none⟩ v3).setCell ⟨b, 4, none⟩ v4).setCell ⟨b, 5, none⟩ v5).setCell ⟨b, 6, none⟩ v6).heap[b]? = some (Obj.cells #[v0, v1, v2, v3, v4, v5, v6, a7, a8, a9, a10] T fr) := block_setCell h5 v6
 have h7 : ((((((((W.setCell ⟨b, 0, none⟩ v0).setCell ⟨b, 1, none⟩ v1).setCell ⟨b, 2, none⟩ v2).setCell ⟨b, 3, none⟩ v3).setCell ⟨b, 4, none⟩ v4).setCell ⟨b, 5, none⟩ v5).setCell ⟨b, 6, none⟩ v6).setCell ⟨b, 7, none⟩ v7).heap[b]? = some (Obj.cells #[v0, v1, v2, v3, v4, v5, v6, v7, a8, a9, a10] T fr) := block_setCell h6 v7
 have h8 : (((((((((W.setCell ⟨b, 0, none⟩ v0).setCell ⟨b, 1, none⟩ v1).setCell ⟨b, 2, none⟩ v2).setCell ⟨b, 3, none⟩ v3).setCell ⟨b, 4, none⟩ v4).setCell ⟨b, 5, none⟩ v5).setCell ⟨b, 6, none⟩ v6).setCell ⟨b, 7, none⟩ v7).setCell ⟨b, 8, none⟩ v8).heap[b]? = some (Obj.cells #[v0, v1, v2, v3, v4, v5, v6, v7, v8, a9, a10] T fr) := block_setCell h7 v8
 have h9 : ((((((((((W.setCell ⟨b, 0, none⟩ v0).setCell ⟨b, 1, none⟩ v1).setCell ⟨b, 2, none⟩ v2).setCell ⟨b, 3, none⟩ v3).setCell ⟨b, 4, none⟩ v4).setCell ⟨b, 5, none⟩ v5).setCell ⟨b, 6, none⟩ v6).setCell ⟨b, 7, none⟩ v7).setCell ⟨b, 8, none⟩ v8).setCell ⟨b, 9, none⟩ v9).heap[b]? = some (Obj.cells #[v0, v1, v2, v3, v4, v5, v6, v7, v8, v9, a10] T fr) := block_setCell h8 v9
 have h10 : (((((((((((W.setCell ⟨b, 0, none⟩ v0).setCell ⟨b, 1, none⟩ v1).setCell ⟨b, 2, none⟩ v2).setCell ⟨b, 3, none⟩ v3).setCell ⟨b, 4, none⟩ v4).setCell ⟨b, 5, none⟩ v5).setCell ⟨b, 6, none⟩ v6).setCell ⟨b, 7, none⟩ v7).setCell ⟨b, 8, none⟩ v8).setCell ⟨b, 9, none⟩ v9).setCell ⟨b, 10, none⟩ v10).heap[b]? = some (Obj.cells #[v0, v1, v2, v3, v4, v5, v6, v7, v8, v9, v10] T fr) := block_setCell h9 v10
 exact h10
theorem below_set11 {B : Nat} {a W : World} (h : Below B a W) {b : Nat} (hb : B ≤ b) (v0 v1 v2 v3 v4 v5 v6 v7 v8 v9 v10 : Value) :
  Below B a (((((((((((W.setCell ⟨b, 0, none⟩ v0).setCell ⟨b, 1, none⟩ v1).setCell ⟨b, 2, none⟩ v2).setCell ⟨b, 3, none⟩ v3).setCell ⟨b, 4, none⟩ v4).setCell ⟨b, 5, none⟩ v5).setCell ⟨b, 6, none⟩ v6).setCell ⟨b, 7, none⟩ v7).setCell ⟨b, 8, none⟩ v8).setCell ⟨b, 9, none⟩ v9).setCell ⟨b, 10, none⟩ v10) :=
 (((((((((((h.setCell (p := ⟨b, 0, none⟩) hb v0).setCell (p := ⟨b, 1, none⟩) hb v1).setCell (p := ⟨b, 2, none⟩) hb v2).setCell (p := ⟨b, 3, none⟩) hb v3).setCell (p := ⟨b, 4, none⟩) hb v4).setCell (p := ⟨b, 5, none⟩) hb v5).setCell (p := ⟨b, 6, none⟩) hb v6).setCell (p := ⟨b, 7, none⟩) hb v7).setCell (p := ⟨b, 8, none⟩) hb v8).setCell (p := ⟨b, 9, none⟩) hb v9).setCell (p := ⟨b, 10, none⟩) hb v10)
theorem params_results {P : Program} {fn : Func} {tmps : Array Value} {W : World} {b : Nat} {v0 v1 v2 v3 v4 v5 v6 v7 v8 v9 v10 e : Value} {T : TypeId} {fr : Nat × Nat}
  (hr : fn.results = #[.cell 8 84, .tmp 9]) (h8 : tmps[8]?.getD undef = .pointer (some ⟨b, 0, none⟩)) (h9 : tmps[9]?.getD undef = e)
  (hb : W.heap[b]? = some (Obj.cells #[v0, v1, v2, v3, v4, v5, v6, v7, v8, v9, v10] T fr)) (hP : P = Try.prog) :
  (results fn tmps).run P W = .ok (.tuple #[.agg #[v0, v1, v2, v3, v4, v5, v6, v7, v8, v9, v10], e]) W := by
 subst hP
 have c0 := cell_of_heap hb 0
 have c1 := cell_of_heap hb 1
 have c2 := cell_of_heap hb 2
 have c3 := cell_of_heap hb 3
 have c4 := cell_of_heap hb 4
 have c5 := cell_of_heap hb 5
 have c6 := cell_of_heap hb 6
 have c7 := cell_of_heap hb 7
 have c8 := cell_of_heap hb 8
 have c9 := cell_of_heap hb 9
 have c10 := cell_of_heap hb 10
 simp only [List.getElem?_toArray, List.getElem?_cons_zero, List.getElem?_cons_succ] at c0 c1 c2 c3 c4 c5 c6 c7 c8 c9 c10
 simp [results, hr, h8, h9, go_sem, c0, c1, c2, c3, c4, c5, c6, c7, c8, c9, c10]
theorem other_set11 {W : World} {b c : Nat} (h : c ≠ b) (v0 v1 v2 v3 v4 v5 v6 v7 v8 v9 v10 : Value) : (((((((((((W.setCell ⟨b, 0, none⟩ v0).setCell ⟨b, 1, none⟩ v1).setCell ⟨b, 2, none⟩ v2).setCell ⟨b, 3, none⟩ v3).setCell ⟨b, 4, none⟩ v4).setCell ⟨b, 5, none⟩ v5).setCell ⟨b, 6, none⟩ v6).setCell ⟨b, 7, none⟩ v7).setCell ⟨b, 8, none⟩ v8).setCell ⟨b, 9, none⟩ v9).setCell ⟨b, 10, none⟩ v10).heap[c]? = W.heap[c]? :=
 (Below.heap_setCell _ _ _ _ h).trans ((Below.heap_setCell _ _ _ _ h).trans ((Below.heap_setCell _ _ _ _ h).trans ((Below.heap_setCell _ _ _ _ h).trans ((Below.heap_setCell _ _ _ _ h).trans ((Below.heap_setCell _ _ _ _ h).trans ((Below.heap_setCell _ _ _ _ h).trans ((Below.heap_setCell _ _ _ _ h).trans ((Below.heap_setCell _ _ _ _ h).trans ((Below.heap_setCell _ _ _ _ h).trans (Below.heap_setCell _ _ _ _ h))))))))))
theorem ownsRow_same {W W' : World} {base : Nat} {e : TypeId} {size : Nat} {v : Value} {n : Nat} {xs : List Value} (h : W.ownsRow base e size v n xs) (hb : ∀ g, base ≤ g → g < W.heap.size → W'.heap[g]? = W.heap[g]?) : W'.ownsRow base e size v n xs := by
 refine ⟨h.1, ?_⟩
 rcases h.2 with h2 | ⟨g, cap, cur, h1, h2, h3, h4⟩
 ·exact .inl h2
 ·exact .inr ⟨g, cap, cur, h1, h2, (hb g h2 (Array.getElem?_eq_some_iff.1 h3).1).trans h3, h4⟩
theorem SideIs.same {W W' : World} {base : Nat} {zs : List Int} {v : Value} (h : SideIs base W zs v) (hb : ∀ g, base ≤ g → g < W.heap.size → W'.heap[g]? = W.heap[g]?) : SideIs base W' zs v := by
 rcases h with h | ⟨h1, h2⟩
 ·exact .inl h
 ·exact .inr ⟨h1, ownsRow_same h2 hb⟩
theorem cells11 {W : World} {b : Nat} {a0 a1 a2 a3 a4 a5 a6 a7 a8 a9 a10 : Value} {T : TypeId} (h : W.heap[b]? = some (Obj.cells #[a0, a1, a2, a3, a4, a5, a6, a7, a8, a9, a10] T (0, 0))) :
  W.cell? ⟨b, 0, none⟩ = some a0 ∧ W.cell? ⟨b, 1, none⟩ = some a1 ∧ W.cell? ⟨b, 2, none⟩ = some a2 ∧ W.cell? ⟨b, 3, none⟩ = some a3 ∧ W.cell? ⟨b, 4, none⟩ = some a4 ∧ W.cell? ⟨b, 5, none⟩ = some a5 ∧ W.cell? ⟨b, 6, none⟩ = some a6 ∧ W.cell? ⟨b, 7, none⟩ = some a7 ∧ W.cell? ⟨b, 8, none⟩ = some a8 ∧ W.cell? ⟨b, 9, none⟩ = some a9 ∧ W.cell? ⟨b, 10, none⟩ = some a10 ∧ ∀ i, W.frozen? ⟨b, i, none⟩ = false := by
 have c0 := cell_of_heap h 0
 have c1 := cell_of_heap h 1
 have c2 := cell_of_heap h 2
 have c3 := cell_of_heap h 3
 have c4 := cell_of_heap h 4
 have c5 := cell_of_heap h 5
 have c6 := cell_of_heap h 6
 have c7 := cell_of_heap h 7
 have c8 := cell_of_heap h 8
 have c9 := cell_of_heap h 9
 have c10 := cell_of_heap h 10
 simp only [List.getElem?_toArray, List.getElem?_cons_zero, List.getElem?_cons_succ] at c0 c1 c2 c3 c4 c5 c6 c7 c8 c9 c10
 exact ⟨c0, c1, c2, c3, c4, c5, c6, c7, c8, c9, c10, fun i => by simp [World.frozen?, h]⟩
theorem SideIs.form {W : World} {base : Nat} {zs : List Int} {v : Value} (h : SideIs base W zs v) : ∃ a n c, v = .slice a n c := by
 rcases h with ⟨h, -⟩ | ⟨-, h2⟩
 ·exact ⟨_, _, _, h⟩
 ·rcases ownsRow_forms h2 with ⟨h, -⟩ | ⟨g, cap, h⟩
  ·exact ⟨_, _, _, h⟩
  ·exact ⟨_, _, _, h⟩
theorem SideIs.le {W : World} {base base' : Nat} {zs : List Int} {v : Value} (h : SideIs base W zs v) (hb : base' ≤ base) : SideIs base' W zs v := by
 rcases h with h | ⟨h1, h2⟩
 ·exact .inl h
 ·exact .inr ⟨h1, ownsRow_le h2 hb⟩
/-- A node's parameters. -/
def parVal (t : TreeV) (row : Int) (at_ : Nat) (s p : Value) : Value := .agg #[.int .i64 t.d, .int .i64 t.kl, .int .i64 t.f, .int .i64 t.p, .int .u32 t.l, .int .u64 at_, .int .u32 0, .int .i64 row, .int .i64 t.i, s, p]
def parZero : Value := .agg #[.int .i64 0, .int .i64 0, .int .i64 0, .int .i64 0, .int .u32 0, .int .u64 0, .int .u32 0, .int .i64 0, .int .i64 0, .slice none 0 0, .slice none 0 0]
theorem holds8_between {w w' : World} {v : Value} {zs : List Int} (h : Holds8 w v zs) (hc : ∀ b o, b < w.heap.size → w'.cell? ⟨b, o, none⟩ = w.cell? ⟨b, o, none⟩) (hs : w.heap.size ≤ w'.heap.size) : Holds8 w' v zs := by
 obtain ⟨a, cap, rfl, h⟩ := h
 refine ⟨a, cap, rfl, ?_⟩
 rcases h with h | ⟨b, off, rfl, h1, h2⟩
 ·exact .inl h
 ·exact .inr ⟨b, off, rfl, Nat.lt_of_lt_of_le h1 hs, fun i hi => (hc b (off + i) h1).trans (h2 i hi)⟩
theorem keep11 {W w1 : World} {c b : Nat} (hlt : c < b) (h : ∀ o, W.cell? ⟨c, o, none⟩ = w1.cell? ⟨c, o, none⟩) (v0 v1 v2 v3 v4 v5 v6 v7 v8 v9 v10 : Value) (o : Nat) : (((((((((((W.setCell ⟨b, 0, none⟩ v0).setCell ⟨b, 1, none⟩ v1).setCell ⟨b, 2, none⟩ v2).setCell ⟨b, 3, none⟩ v3).setCell ⟨b, 4, none⟩ v4).setCell ⟨b, 5, none⟩ v5).setCell ⟨b, 6, none⟩ v6).setCell ⟨b, 7, none⟩ v7).setCell ⟨b, 8, none⟩ v8).setCell ⟨b, 9, none⟩ v9).setCell ⟨b, 10, none⟩ v10).cell? ⟨c, o, none⟩ = w1.cell? ⟨c, o, none⟩ :=
 ((below_set11 (Below.refl b W) (Nat.le_refl b) v0 v1 v2 v3 v4 v5 v6 v7 v8 v9 v10).cell (p := ⟨c, o, none⟩) hlt).trans (h o)
end Go.Proofs.Ytchepcilkcdemaa
