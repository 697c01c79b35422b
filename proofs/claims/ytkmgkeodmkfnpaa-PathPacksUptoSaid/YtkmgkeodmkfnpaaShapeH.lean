/- The walk of shape.Rows. No condition. -/
import Derived.Test.YtkmgkeodmkfnpaaShapeG
namespace Go.Proofs.Ytkmgkeodmkfnpaa
open Go.ChangeShapes Go.WideShapes Go.ChangeAt Go.RowKit Go.Joins Go.Shelf Go.Maps
attribute [local go_sem] Oper.semAt_some

theorem KpT.alloc (W : World) (o : Obj) : KpT W (W.alloc o) := fun b _ _ _ _ hb => (Below.heap_alloc W o b (Array.getElem?_eq_some_iff.1 hb).1).trans hb
theorem KpT.setCell {W : World} {p : Addr} {c : Array Value} {T : TypeId} {fr : Nat × Nat} (h : W.heap[p.block]? = some (Obj.cells c T fr)) (h1 : T ≠ 186) (h2 : T ≠ 26) (u : Value) : KpT W (W.setCell p u) := by
  intro b c' fr' T' hT hb
  by_cases e : b = p.block
  · subst e
    rw [h] at hb
    cases hb
    rcases hT with rfl | rfl
    · exact absurd rfl h1
    · exact absurd rfl h2
  · exact (Below.heap_setCell W p u b e).trans hb
theorem KpT.grown {W W' : World} {row : Option Nat} (hg : W.grownBy W' row) (hr : ∀ k, row = some k → ∃ (c : Array Value) (T : TypeId) (fr : Nat × Nat), W.heap[k]? = some (Obj.cells c T fr) ∧ T ≠ 186 ∧ T ≠ 26) : KpT W W' := by
  intro b c fr T hT hb
  refine (hg.block b (Array.getElem?_eq_some_iff.1 hb).1 (fun e => ?_)).trans hb
  obtain ⟨c', T', fr', h, h1, h2⟩ := hr b e.symm
  rw [h] at hb
  cases hb
  rcases hT with rfl | rfl
  · exact absurd rfl h1
  · exact absurd rfl h2
theorem KpT.putObj (W : World) (l : Nat) (o o' : Obj) (hl : W.heap[l]? = some o) (ho : o.isCells = false) : KpT W (W.putObj l o') := by
  intro b c fr T _ hb
  refine ((grownBy_putObj' W l o').block b (Array.getElem?_eq_some_iff.1 hb).1 (fun e => ?_)).trans hb
  cases e
  rw [hl] at hb
  cases hb
  cases ho
theorem ownsRow_typed {W : World} {base : Nat} {e : TypeId} {size : Nat} {v : Value} {k : Nat} {xs : List Value} (h : W.ownsRow base e size v k xs) : ∀ g, v.ownBlock = some g → ∃ (c : Array Value) (T : TypeId) (fr : Nat × Nat), W.heap[g]? = some (Obj.cells c T fr) ∧ T = e := by
  intro g hg
  rcases h.2 with ⟨rfl, _⟩ | ⟨g', cap, cur, rfl, _, hgb, _⟩
  · simp [Value.ownBlock] at hg
  · obtain rfl : g' = g := by simpa [Value.ownBlock] using hg
    exact ⟨_, _, _, hgb, rfl⟩

theorem range_nth (L : List Nat) : (List.range L.length).map (fun k => nth L k) = L := by
  apply List.ext_getElem?
  intro k
  by_cases hk : k < L.length
  · simp [hk, nth]
  · rw [List.getElem?_eq_none (by simp; omega), List.getElem?_eq_none (by omega)]
theorem rowAt_all {L : List Nat} {ys : List (RowAt L)} (h : ys.map (·.1) = List.range L.length) : ys.length = L.length ∧ ys.map (fun x => encU (nth L x.1)) = L.map encU := by
  constructor
  · have := congrArg List.length h
    simpa using this
  · have e : ys.map (fun x => encU (nth L x.1)) = (ys.map (·.1)).map (fun k => encU (nth L k)) := by simp
    rw [e, h]
    conv => rhs; rw [← range_nth L]
    simp

/-- What the loop of Rows has laid down so far. -/
def RowsAcc (w1 : World) (L : List Nat) (pre : List (RowAt L)) (W : World) : Prop :=
  (∃ v, Boxed W w1.heap.size 72 v ∧ W.ownsRow w1.heap.size 27 1 v pre.length (pre.map (fun x => encU (nth L x.1))) ∧ True) ∧ Below w1.heap.size w1 W
theorem RowsAcc.own {w1 : World} {L : List Nat} {B : Nat} (hB : w1.heap.size ≤ B) : OwnFrom B (RowsAcc w1 L) :=
  OwnFrom.and (Own.from (holdsRow_own w1.heap.size w1.heap.size 72 27 1 (fun pre : List (RowAt L) => pre.length) (fun pre => pre.map (fun x => encU (nth L x.1))) (fun _ _ => True)) _) (ownFrom_below (Nat.le_refl _) hB)
end Go.Proofs.Ytkmgkeodmkfnpaa
