/- The programs of a pool, by the program. No condition. -/
import Derived.Test.YtadkpndfbfjmfaaPoolA
import Derived.Test.YtadkpndfbfjmfaaInv
namespace Go.Proofs.Ytadkpndfbfjmfaa
open Go.ChangeShapes Go.WideShapes Go.ChangeAt Go.RowKit Go.Joins
attribute [local go_sem] Oper.semAt_some

structure InstV where
  op : Int
  a : Int
  b : Int
  c : Int
def InstV.val (i : InstV) : Value := .agg #[.int .i64 i.op, .int .i64 i.a, .int .i64 i.b, .int .i64 i.c]
def instCells (L : List InstV) : List Value := L.flatMap fun i => [.int .i64 i.op, .int .i64 i.a, .int .i64 i.b, .int .i64 i.c]
def IntsAt (w : World) (v : Value) (L : List Int) : Prop := ∃ b, v = .slice (some ⟨b, 0, none⟩) L.length L.length ∧ w.heap[b]? = some (.cells (L.map fun z => Value.int .i64 z).toArray 3 (0, 0))
def InstsAt (w : World) (v : Value) (L : List InstV) : Prop := ∃ b, v = .slice (some ⟨b, 0, none⟩) L.length L.length ∧ w.heap[b]? = some (.cells (instCells L).toArray 51 (0, 0))
theorem block_below {w w' : World} {b : Nat} {o : Obj} (h : w.heap[b]? = some o) (hb : Below w.heap.size w w') : w'.heap[b]? = some o := (hb.block b (Array.getElem?_eq_some_iff.1 h).1).trans h
theorem IntsAt.below {w w' : World} {v : Value} {L : List Int} (h : IntsAt w v L) (hb : Below w.heap.size w w') : IntsAt w' v L := by
  obtain ⟨b, e, h⟩ := h; exact ⟨b, e, block_below h hb⟩
theorem InstsAt.below {w w' : World} {v : Value} {L : List InstV} (h : InstsAt w v L) (hb : Below w.heap.size w w') : InstsAt w' v L := by
  obtain ⟨b, e, h⟩ := h; exact ⟨b, e, block_below h hb⟩
theorem ints_in {w : World} {v : Value} {L : List Int} (h : IntsAt w v L) : ∃ b cap, v = .slice (some ⟨b, 0, none⟩) L.length cap ∧ w.heap[b]? = some (Obj.cells (L.map fun z => Value.int .i64 z).toArray 3 (0, 0)) := by
  obtain ⟨b, e, h⟩ := h; exact ⟨b, _, e, h⟩
inductive GK where
  | ints (l : List Int)
  | val (v : Value)
  | insts (l : List InstV)
def GK.holds : GK → Value → World → Prop
  | .ints l, v, W => IntsAt W v l
  | .val u, v, _ => v = u
  | .insts l, v, W => InstsAt W v l
theorem GK.below {g : GK} {v : Value} {W W' : World} (h : g.holds v W) (hb : Below W.heap.size W W') : g.holds v W' := by
  cases g with
  | ints l => exact IntsAt.below h hb
  | val u => exact h
  | insts l => exact InstsAt.below h hb
def GoodAt (L : List GK) (i : Nat) (v : Value) (W : World) : Prop := match L[i]? with | some g => g.holds v W | none => True
theorem goods_below (L : List GK) {W W' : World} (hb : Below W.heap.size W W') (i : Nat) : ∀ j u, j ≠ i → GoodAt L j u W → GoodAt L j u W' := by
  intro j u _ h
  unfold GoodAt at *
  split at h
  · exact GK.below h hb
  · trivial
theorem goods_alloc (L : List GK) {W : World} (o : Obj) (i : Nat) : ∀ j u, j ≠ i → GoodAt L j u W → GoodAt L j u (W.alloc o) := goods_below L ((Below.refl _ _).alloc (Nat.le_refl _) _) i
def AllAt (p : Nat → Oper → Prop) : Nat → List Oper → Prop
  | _, [] => True
  | n, o :: l => p n o ∧ AllAt p (n + 1) l
theorem allAt_cons {p : Nat → Oper → Prop} {n : Nat} {o : Oper} {l : List Oper} (h : p n o) (h' : AllAt p (n + 1) l) : AllAt p n (o :: l) := ⟨h, h'⟩
theorem allAt_nil {p : Nat → Oper → Prop} {n : Nat} : AllAt p n [] := trivial
theorem allAt_at {p : Nat → Oper → Prop} : ∀ (l : List Oper) (n : Nat), AllAt p n l → ∀ i o, l[i]? = some o → p (n + i) o
  | [], _, _, i, o, hi => by simp at hi
  | _ :: _, n, h, 0, o, hi => by simp at hi; subst hi; exact h.1
  | _ :: l, n, h, i + 1, o, hi => by
    have := allAt_at l (n + 1) h.2 i o (by simpa using hi)
    rw [show n + (i + 1) = n + 1 + i by omega]; exact this
theorem allAt_spec {p : Nat → Oper → Prop} {l : List Oper} (h : AllAt p 0 l) : ∀ i o, l[i]? = some o → p i o := fun i o hi => by
  have := allAt_at l 0 h i o hi
  rwa [Nat.zero_add] at this
theorem hgn_all {ops : List Oper} {G : Nat → Value → World → Prop} (h : (ops.all fun o => o.dst.isSome) = true) : ∀ i o v W, ops[i]? = some o → o.dst = none → G i v W → G i undef W := fun i o v W hi hd => by
  have := List.all_eq_true.1 h o (List.mem_of_getElem? hi)
  rw [hd] at this; cases this
/-- What stays while the lists are made. -/
structure Inv6 (w : World) (bx : Nat) (k : Int) (w2 W : World) : Prop where
  below : Below w2.heap.size w2 W
  size : bx + 1 < w2.heap.size
  cell : w2.cell? ⟨bx, 0, none⟩ = some (.int .i64 k)
namespace Inv6
variable {w : World} {bx : Nat} {k : Int} {w2 W W' : World}
theorem facts (h : Inv6 w bx k w2 W) : W.cell? ⟨bx, 0, none⟩ = some (.int .i64 k) ∧ bx + 1 < W.heap.size :=
  ⟨(h.below.cell (p := ⟨bx, 0, none⟩) (show bx < w2.heap.size by have := h.size; omega)).trans h.cell, by have := h.size; have := h.below.size; omega⟩
theorem next (h : Inv6 w bx k w2 W) (hb : Below W.heap.size W W') : Inv6 w bx k w2 W' := ⟨h.below.trans (hb.mono h.below.size), h.size, h.cell⟩
theorem alloc (h : Inv6 w bx k w2 W) (o : Obj) : Inv6 w bx k w2 (W.alloc o) := h.next ((Below.refl _ _).alloc (Nat.le_refl _) _)
end Inv6
def workL : List InstV := [⟨6, 0, 3, 6⟩, ⟨12, 3, 4, 0⟩, ⟨15, 0, 4, 0⟩, ⟨5, 2, 3, 0⟩, ⟨5, 1, 4, 0⟩, ⟨4, 0, 0, 0⟩, ⟨10, 0, -1, 0⟩, ⟨16, 0, 0, 0⟩]
def feedL (b n : Int) : List InstV := [⟨1, 0, 0, 0⟩, ⟨1, 1, b, 0⟩, ⟨1, 2, 1, 0⟩, ⟨3, 0, 1, 5⟩, ⟨4, 0, 0, 8⟩, ⟨5, 2, 0, 0⟩, ⟨2, 0, 2, 0⟩, ⟨4, 0, 0, 3⟩, ⟨1, 0, 0, 0⟩, ⟨1, 1, n, 0⟩, ⟨3, 0, 1, 12⟩, ⟨4, 0, 0, 17⟩, ⟨6, 2, 3, 17⟩, ⟨13, 3, 0, 0⟩, ⟨5, 0, 3, 0⟩, ⟨2, 0, 2, 0⟩, ⟨4, 0, 0, 10⟩, ⟨7, 0, 0, 0⟩, ⟨16, 0, 0, 0⟩]
def closeL : List InstV := [⟨11, 0, 0, 0⟩, ⟨7, 1, 0, 0⟩, ⟨16, 0, 0, 0⟩]
def combL (k : Int) : List InstV := [⟨1, 0, 0, 0⟩, ⟨1, 1, k, 0⟩, ⟨1, 2, 1, 0⟩, ⟨3, 0, 1, 5⟩, ⟨4, 0, 0, 9⟩, ⟨10, 0, 1, 0⟩, ⟨14, 1, 0, 0⟩, ⟨2, 0, 2, 0⟩, ⟨4, 0, 0, 3⟩, ⟨14, 2, 0, 0⟩, ⟨14, 3, 0, 0⟩, ⟨6, 1, 3, 14⟩, ⟨15, 1, 3, 0⟩, ⟨4, 0, 0, 11⟩, ⟨16, 0, 0, 0⟩]
def goods6 (bx : Nat) (k : Int) : List GK := [.ints [0, 0], .val (InstV.val ⟨1, 0, 0, 0⟩), .val (.pointer (some ⟨bx, 0, none⟩)), .val (.int .i64 k), .ints [1, k], .val (InstV.val ⟨1, 1, k, 0⟩), .ints [2, 1], .val (InstV.val ⟨1, 2, 1, 0⟩), .ints [0, 1, 5], .val (InstV.val ⟨3, 0, 1, 5⟩), .ints [0, 0, 9], .val (InstV.val ⟨4, 0, 0, 9⟩), .ints [0, 1], .val (InstV.val ⟨10, 0, 1, 0⟩), .ints [1], .val (InstV.val ⟨14, 1, 0, 0⟩), .ints [0, 2], .val (InstV.val ⟨2, 0, 2, 0⟩), .ints [0, 0, 3], .val (InstV.val ⟨4, 0, 0, 3⟩), .ints [2], .val (InstV.val ⟨14, 2, 0, 0⟩), .ints [3], .val (InstV.val ⟨14, 3, 0, 0⟩), .ints [1, 3, 14], .val (InstV.val ⟨6, 1, 3, 14⟩), .ints [1, 3], .val (InstV.val ⟨15, 1, 3, 0⟩), .ints [0, 0, 11], .val (InstV.val ⟨4, 0, 0, 11⟩), .val (InstV.val ⟨16, 0, 0, 0⟩), .insts (combL k), .insts (combL k)]
/-- The world behind w: the pool's box, the answer's own, and what has been made. -/
structure Inv7 (w : World) (k q : Int) (l : List (Value × List InstV)) (W : World) : Prop where
  below : Below w.heap.size w W
  size : w.heap.size + 1 < W.heap.size
  box : W.heap[w.heap.size]? = some (.cells #[.int .i64 k, .int .i64 q] 23 (0, 0))
  res : ∃ c0 c1 c2 c3 c4, W.heap[w.heap.size + 1]? = some (.cells #[c0, c1, c2, c3, c4] 32 (0, 0))
  held : ∀ p ∈ l, InstsAt W p.1 p.2
namespace Inv7
variable {w : World} {k q : Int} {l : List (Value × List InstV)} {W W' : World}
theorem next (h : Inv7 w k q l W) (hb : Below W.heap.size W W') : Inv7 w k q l W' :=
  ⟨h.below.trans (hb.mono h.below.size), by have := h.size; have := hb.size; omega, block_below h.box hb, by obtain ⟨c0, c1, c2, c3, c4, h⟩ := h.res; exact ⟨c0, c1, c2, c3, c4, block_below h hb⟩, fun p hp => (h.held p hp).below hb⟩
theorem more (h : Inv7 w k q l W) {v : Value} {L : List InstV} (hv : InstsAt W v L) : Inv7 w k q ((v, L) :: l) W :=
  ⟨h.below, h.size, h.box, h.res, fun p hp => by
    rcases List.mem_cons.1 hp with rfl | hp
    · exact hv
    · exact h.held p hp⟩
theorem set (h : Inv7 w k q l W) {p : Addr} (v : Value) (hp : p.block = w.heap.size + 1) (ho : p.off < 5) (hw : p.spot = none) : Inv7 w k q l (W.setCell p v) := by
  obtain ⟨b, o, wh⟩ := p
  simp only at hp ho hw
  subst hp hw
  refine ⟨h.below.trans ⟨rfl, rfl, rfl, by simp, fun g hg => Below.heap_setCell _ _ _ _ (by show g ≠ w.heap.size + 1; omega)⟩, by simpa using h.size, (Below.heap_setCell _ _ _ _ (by show w.heap.size ≠ w.heap.size + 1; omega)).trans h.box, ?_, fun p hp => ?_⟩
  · obtain ⟨c0, c1, c2, c3, c4, h⟩ := h.res
    have := block_setCell h (i := o) v
    rw [this]
    rcases (show o = 0 ∨ o = 1 ∨ o = 2 ∨ o = 3 ∨ o = 4 by omega) with rfl | rfl | rfl | rfl | rfl <;> exact ⟨_, _, _, _, _, rfl⟩
  · obtain ⟨b, e, hb⟩ := h.held p hp
    obtain ⟨c0, c1, c2, c3, c4, hr⟩ := h.res
    refine ⟨b, e, (Below.heap_setCell _ _ _ _ ?_).trans hb⟩
    show b ≠ w.heap.size + 1
    rintro rfl
    rw [hr] at hb
    simp at hb
end Inv7
def FieldsAt (w : World) (l : List Int) (v : Value) : Prop := (l = [] ∧ v = .slice none 0 0) ∨ ∃ b cap, v = .slice (some ⟨b, 0, none⟩) l.length cap ∧ w.heap[b]? = some (Obj.cells (l.map fun z => Value.int .i64 z).toArray 3 (0, 0))
theorem fieldsN {w : World} : FieldsAt w [] (.slice none 0 0) := .inl ⟨rfl, rfl⟩
theorem fields1 {w : World} {b c : Nat} {x : Int} (h : w.heap[b]? = some (Obj.cells #[.int .i64 x] 3 (0, 0))) : FieldsAt w [x] (.slice (some ⟨b, 0, none⟩) 1 c) := .inr ⟨b, c, rfl, h⟩
theorem fields2 {w : World} {b c : Nat} {x y : Int} (h : w.heap[b]? = some (Obj.cells #[.int .i64 x, .int .i64 y] 3 (0, 0))) : FieldsAt w [x, y] (.slice (some ⟨b, 0, none⟩) 2 c) := .inr ⟨b, c, rfl, h⟩
theorem fields3 {w : World} {b c : Nat} {x y z : Int} (h : w.heap[b]? = some (Obj.cells #[.int .i64 x, .int .i64 y, .int .i64 z] 3 (0, 0))) : FieldsAt w [x, y, z] (.slice (some ⟨b, 0, none⟩) 3 c) := .inr ⟨b, c, rfl, h⟩
theorem in_val {op : Int} {l : List Int} {v : Value} {w : World} (hl : l.length ≤ 3) (h : FieldsAt w l v) : Calls Try.prog 17 #[.int .i64 op, v] w fun e w' => e = .returned (.agg #[.int .i64 op, .int .i64 (l.getD 0 0), .int .i64 (l.getD 1 0), .int .i64 (l.getD 2 0)]) ∧ Below w.heap.size w w' := in_any op l hl v w h
theorem in_step {op : Int} {l : List Int} {v : Value} {w : World} {K : Ending → World → Prop} (h : FieldsAt w l v) (hl : l.length ≤ 3) (hk : ∀ w', Below w.heap.size w w' → K (.returned (.agg #[.int .i64 op, .int .i64 (l.getD 0 0), .int .i64 (l.getD 1 0), .int .i64 (l.getD 2 0)])) w') : Calls Try.prog 17 #[.int .i64 op, v] w K :=
  (in_val hl h).mono fun e w' h => by obtain ⟨rfl, hb⟩ := h; exact hk w' hb
theorem sys_results {P : Program} {fn : Func} {tmps : Array Value} {W : World} {b s t : Nat} {e v0 v1 v2 v3 v4 : Value} {T : TypeId} {fr : Nat × Nat}
    (hr : fn.results = #[.cell s 32, .tmp t]) (h4 : tmps[s]?.getD undef = .pointer (some ⟨b, 0, none⟩)) (he : tmps[t]?.getD undef = e)
    (hb : W.heap[b]? = some (Obj.cells #[v0, v1, v2, v3, v4] T fr)) (hP : P = Try.prog) :
    (results fn tmps).run P W = .ok (.tuple #[.agg #[v0, v1, v2, v3, v4], e]) W := by
  subst hP
  have c0 := cell_of_heap hb 0
  have c1 := cell_of_heap hb 1
  have c2 := cell_of_heap hb 2
  have c3 := cell_of_heap hb 3
  have c4 := cell_of_heap hb 4
  simp [results, hr, h4, he, go_sem, c0, c1, c2, c3, c4]
/-- A pool's system in memory. -/
def SysOk (w : World) (v : Value) (n k q : Int) : Prop :=
  ∃ b r v0 v1 v2 v3, v = .agg #[.slice (some ⟨b, 0, none⟩) 4 4, .slice (some ⟨r, 0, none⟩) 3 3, .int .i64 1, .int .i64 0, .int .i64 (poolB k q)] ∧
    w.heap[b]? = some (.cells #[v0, v1, v2, v3] 53 (0, 0)) ∧ w.heap[r]? = some (.cells #[.int .i64 q, .int .i64 q, .int .i64 (poolB k q)] 3 (0, 0)) ∧
    InstsAt w v0 (combL k) ∧ InstsAt w v1 workL ∧ InstsAt w v2 (feedL (poolB k q) n) ∧ InstsAt w v3 closeL
def sysZero : Value := .agg #[.slice none 0 0, .slice none 0 0, .int .i64 0, .int .i64 0, .int .i64 0]
set_option maxRecDepth 100000 in
set_option maxHeartbeats 4000000 in
theorem system_ok (n k q : Int) (hp : PoolOk k q) (h0 : 0 ≤ n) (h1 : n ≤ 1024) (w : World) : Calls Try.prog 7 #[.int .i64 n, .agg #[.int .i64 k, .int .i64 q]] w fun e w' => ∃ v, e = .returned (.tuple #[v, .int .i64 0]) ∧ SysOk w' v n k q ∧ Below w.heap.size w w' := by
  have HV := Lib.hid (buffers_any k q)
  rw [show poolE k q = 0 by unfold poolE; rw [if_pos hp]] at HV
  obtain ⟨bq, hbq⟩ : ∃ bq, poolB k q = bq := ⟨_, rfl⟩
  unfold SysOk
  rw [hbq] at HV ⊢
  obtain ⟨bx, hbx⟩ : ∃ bx, w.heap.size = bx := ⟨_, rfl⟩
  go_enter Try.func7, Try.ntmps7
  go_wp2_with fail
  refine (HV.out _).mono ?_; rintro r w2 ⟨rfl, hb2⟩
  have hs2 := hb2.size
  simp at hs2
  have hI : Inv6 w bx k w2 w2.drew := ⟨⟨rfl, rfl, rfl, Nat.le_refl _, fun _ _ => rfl⟩, by omega, (hb2.cell (p := ⟨bx, 0, none⟩) (by simp; omega)).trans (by rw [← hbx]; simp)⟩
  have hinv : ∀ W, Below w2.heap.size w2 W → Inv7 w k q [] W := fun W hW => by
    have h2 : Inv7 w k q [] w2 := ⟨below_alloc_then _ (below_alloc_then _ hb2), by omega, (hb2.block _ (by simp; omega)).trans ((Below.heap_alloc _ _ _ (by simp)).trans (World.alloc_heap_new _ _)), ⟨_, _, _, _, _, (hb2.block _ (by simp)).trans (World.alloc_heap_new_at _ _ (by simp))⟩, fun p hp => by cases hp⟩
    exact h2.next hW
  have HI := Lib.hid hI
  have INV := Lib.hid hinv
  clear hI hinv
  go_wp2_with fail
  refine wp_region_inv (ds := [28, 29, 30, 31, 32, 33, 34, 35, 36, 37, 38, 39, 40, 41, 42, 43, 44, 45, 46, 47, 48, 49, 50, 51, 52, 53, 54, 55, 56, 57, 58, 59, 8]) (R := Inv6 w bx k w2) (Good := GoodAt (goods6 bx k)) rfl (by decide) (by kernel_rfl) (by kernel_rfl) ?_ ?_ (hgn_all (by kernel_rfl)) ?_
  case refine_1 => exact HI.out
  case refine_2 =>
    refine allAt_spec (p := _) ?_
    refine allAt_cons ?_ (allAt_cons ?_ (allAt_cons ?_ (allAt_cons ?_ (allAt_cons ?_ (allAt_cons ?_ (allAt_cons ?_ (allAt_cons ?_ (allAt_cons ?_ (allAt_cons ?_ (allAt_cons ?_ (allAt_cons ?_ (allAt_cons ?_ (allAt_cons ?_ (allAt_cons ?_ (allAt_cons ?_ (allAt_cons ?_ (allAt_cons ?_ (allAt_cons ?_ (allAt_cons ?_ (allAt_cons ?_ (allAt_cons ?_ (allAt_cons ?_ (allAt_cons ?_ (allAt_cons ?_ (allAt_cons ?_ (allAt_cons ?_ (allAt_cons ?_ (allAt_cons ?_ (allAt_cons ?_ (allAt_cons ?_ (allAt_cons ?_ (allAt_cons ?_ (allAt_nil)))))))))))))))))))))))))))))))))
    · intro x W hR hdep K hK
      have cX := hR.facts.1
      have hsz := hR.facts.2
      clear hdep
      simp only [lay, Act.put, List.setIfInBounds_toArray, List.set_cons_zero, List.set_cons_succ] at hK ⊢
      go_simp
      exact hK _ _ (hR.alloc _) (goods_alloc _ _ _) ⟨W.heap.size, rfl, World.alloc_heap_new _ _⟩
    · intro x W hR hdep K hK
      have g0 : (GK.holds (.ints [0, 0]) (x 28) W) := hdep ⟨0, .data⟩ (by simp) rfl _ rfl
      have cX := hR.facts.1
      have hsz := hR.facts.2
      clear hdep
      simp only [lay, Act.put, List.setIfInBounds_toArray, List.set_cons_zero, List.set_cons_succ] at hK ⊢
      go_simp
      refine (in_any 1 [0, 0] (by simp) _ W (.inr (ints_in g0))).mono ?_
      rintro r w' ⟨rfl, hb⟩
      exact hK _ _ (hR.next hb) (goods_below _ hb _) rfl
    · intro x W hR hdep K hK
      have cX := hR.facts.1
      have hsz := hR.facts.2
      clear hdep
      simp only [lay, Act.put, List.setIfInBounds_toArray, List.set_cons_zero, List.set_cons_succ] at hK ⊢
      go_simp
      exact hK _ _ hR (fun _ _ _ h => h) rfl
    · intro x W hR hdep K hK
      have g0 : (GK.holds (.val (.pointer (some ⟨bx, 0, none⟩))) (x 30) W) := hdep ⟨2, .data⟩ (by simp) rfl _ rfl
      change x 30 = _ at g0
      have cX := hR.facts.1
      have hsz := hR.facts.2
      clear hdep
      simp only [lay, Act.put, List.setIfInBounds_toArray, List.set_cons_zero, List.set_cons_succ, g0] at hK ⊢
      go_simp
      exact hK _ _ hR (fun _ _ _ h => h) rfl
    · intro x W hR hdep K hK
      have g0 : (GK.holds (.val (.int .i64 k)) (x 31) W) := hdep ⟨3, .data⟩ (by simp) rfl _ rfl
      change x 31 = _ at g0
      have cX := hR.facts.1
      have hsz := hR.facts.2
      clear hdep
      simp only [lay, Act.put, List.setIfInBounds_toArray, List.set_cons_zero, List.set_cons_succ, g0] at hK ⊢
      go_simp
      exact hK _ _ (hR.alloc _) (goods_alloc _ _ _) ⟨W.heap.size, rfl, World.alloc_heap_new _ _⟩
    · intro x W hR hdep K hK
      have g0 : (GK.holds (.ints [1, k]) (x 32) W) := hdep ⟨4, .data⟩ (by simp) rfl _ rfl
      have cX := hR.facts.1
      have hsz := hR.facts.2
      clear hdep
      simp only [lay, Act.put, List.setIfInBounds_toArray, List.set_cons_zero, List.set_cons_succ] at hK ⊢
      go_simp
      refine (in_any 1 [1, k] (by simp) _ W (.inr (ints_in g0))).mono ?_
      rintro r w' ⟨rfl, hb⟩
      exact hK _ _ (hR.next hb) (goods_below _ hb _) rfl
    · intro x W hR hdep K hK
      have cX := hR.facts.1
      have hsz := hR.facts.2
      clear hdep
      simp only [lay, Act.put, List.setIfInBounds_toArray, List.set_cons_zero, List.set_cons_succ] at hK ⊢
      go_simp
      exact hK _ _ (hR.alloc _) (goods_alloc _ _ _) ⟨W.heap.size, rfl, World.alloc_heap_new _ _⟩
    · intro x W hR hdep K hK
      have g0 : (GK.holds (.ints [2, 1]) (x 34) W) := hdep ⟨6, .data⟩ (by simp) rfl _ rfl
      have cX := hR.facts.1
      have hsz := hR.facts.2
      clear hdep
      simp only [lay, Act.put, List.setIfInBounds_toArray, List.set_cons_zero, List.set_cons_succ] at hK ⊢
      go_simp
      refine (in_any 1 [2, 1] (by simp) _ W (.inr (ints_in g0))).mono ?_
      rintro r w' ⟨rfl, hb⟩
      exact hK _ _ (hR.next hb) (goods_below _ hb _) rfl
    · intro x W hR hdep K hK
      have cX := hR.facts.1
      have hsz := hR.facts.2
      clear hdep
      simp only [lay, Act.put, List.setIfInBounds_toArray, List.set_cons_zero, List.set_cons_succ] at hK ⊢
      go_simp
      exact hK _ _ (hR.alloc _) (goods_alloc _ _ _) ⟨W.heap.size, rfl, World.alloc_heap_new _ _⟩
    · intro x W hR hdep K hK
      have g0 : (GK.holds (.ints [0, 1, 5]) (x 36) W) := hdep ⟨8, .data⟩ (by simp) rfl _ rfl
      have cX := hR.facts.1
      have hsz := hR.facts.2
      clear hdep
      simp only [lay, Act.put, List.setIfInBounds_toArray, List.set_cons_zero, List.set_cons_succ] at hK ⊢
      go_simp
      refine (in_any 3 [0, 1, 5] (by simp) _ W (.inr (ints_in g0))).mono ?_
      rintro r w' ⟨rfl, hb⟩
      exact hK _ _ (hR.next hb) (goods_below _ hb _) rfl
    · intro x W hR hdep K hK
      have cX := hR.facts.1
      have hsz := hR.facts.2
      clear hdep
      simp only [lay, Act.put, List.setIfInBounds_toArray, List.set_cons_zero, List.set_cons_succ] at hK ⊢
      go_simp
      exact hK _ _ (hR.alloc _) (goods_alloc _ _ _) ⟨W.heap.size, rfl, World.alloc_heap_new _ _⟩
    · intro x W hR hdep K hK
      have g0 : (GK.holds (.ints [0, 0, 9]) (x 38) W) := hdep ⟨10, .data⟩ (by simp) rfl _ rfl
      have cX := hR.facts.1
      have hsz := hR.facts.2
      clear hdep
      simp only [lay, Act.put, List.setIfInBounds_toArray, List.set_cons_zero, List.set_cons_succ] at hK ⊢
      go_simp
      refine (in_any 4 [0, 0, 9] (by simp) _ W (.inr (ints_in g0))).mono ?_
      rintro r w' ⟨rfl, hb⟩
      exact hK _ _ (hR.next hb) (goods_below _ hb _) rfl
    · intro x W hR hdep K hK
      have cX := hR.facts.1
      have hsz := hR.facts.2
      clear hdep
      simp only [lay, Act.put, List.setIfInBounds_toArray, List.set_cons_zero, List.set_cons_succ] at hK ⊢
      go_simp
      exact hK _ _ (hR.alloc _) (goods_alloc _ _ _) ⟨W.heap.size, rfl, World.alloc_heap_new _ _⟩
    · intro x W hR hdep K hK
      have g0 : (GK.holds (.ints [0, 1]) (x 40) W) := hdep ⟨12, .data⟩ (by simp) rfl _ rfl
      have cX := hR.facts.1
      have hsz := hR.facts.2
      clear hdep
      simp only [lay, Act.put, List.setIfInBounds_toArray, List.set_cons_zero, List.set_cons_succ] at hK ⊢
      go_simp
      refine (in_any 10 [0, 1] (by simp) _ W (.inr (ints_in g0))).mono ?_
      rintro r w' ⟨rfl, hb⟩
      exact hK _ _ (hR.next hb) (goods_below _ hb _) rfl
    · intro x W hR hdep K hK
      have cX := hR.facts.1
      have hsz := hR.facts.2
      clear hdep
      simp only [lay, Act.put, List.setIfInBounds_toArray, List.set_cons_zero, List.set_cons_succ] at hK ⊢
      go_simp
      exact hK _ _ (hR.alloc _) (goods_alloc _ _ _) ⟨W.heap.size, rfl, World.alloc_heap_new _ _⟩
    · intro x W hR hdep K hK
      have g0 : (GK.holds (.ints [1]) (x 42) W) := hdep ⟨14, .data⟩ (by simp) rfl _ rfl
      have cX := hR.facts.1
      have hsz := hR.facts.2
      clear hdep
      simp only [lay, Act.put, List.setIfInBounds_toArray, List.set_cons_zero, List.set_cons_succ] at hK ⊢
      go_simp
      refine (in_any 14 [1] (by simp) _ W (.inr (ints_in g0))).mono ?_
      rintro r w' ⟨rfl, hb⟩
      exact hK _ _ (hR.next hb) (goods_below _ hb _) rfl
    · intro x W hR hdep K hK
      have cX := hR.facts.1
      have hsz := hR.facts.2
      clear hdep
      simp only [lay, Act.put, List.setIfInBounds_toArray, List.set_cons_zero, List.set_cons_succ] at hK ⊢
      go_simp
      exact hK _ _ (hR.alloc _) (goods_alloc _ _ _) ⟨W.heap.size, rfl, World.alloc_heap_new _ _⟩
    · intro x W hR hdep K hK
      have g0 : (GK.holds (.ints [0, 2]) (x 44) W) := hdep ⟨16, .data⟩ (by simp) rfl _ rfl
      have cX := hR.facts.1
      have hsz := hR.facts.2
      clear hdep
      simp only [lay, Act.put, List.setIfInBounds_toArray, List.set_cons_zero, List.set_cons_succ] at hK ⊢
      go_simp
      refine (in_any 2 [0, 2] (by simp) _ W (.inr (ints_in g0))).mono ?_
      rintro r w' ⟨rfl, hb⟩
      exact hK _ _ (hR.next hb) (goods_below _ hb _) rfl
    · intro x W hR hdep K hK
      have cX := hR.facts.1
      have hsz := hR.facts.2
      clear hdep
      simp only [lay, Act.put, List.setIfInBounds_toArray, List.set_cons_zero, List.set_cons_succ] at hK ⊢
      go_simp
      exact hK _ _ (hR.alloc _) (goods_alloc _ _ _) ⟨W.heap.size, rfl, World.alloc_heap_new _ _⟩
    · intro x W hR hdep K hK
      have g0 : (GK.holds (.ints [0, 0, 3]) (x 46) W) := hdep ⟨18, .data⟩ (by simp) rfl _ rfl
      have cX := hR.facts.1
      have hsz := hR.facts.2
      clear hdep
      simp only [lay, Act.put, List.setIfInBounds_toArray, List.set_cons_zero, List.set_cons_succ] at hK ⊢
      go_simp
      refine (in_any 4 [0, 0, 3] (by simp) _ W (.inr (ints_in g0))).mono ?_
      rintro r w' ⟨rfl, hb⟩
      exact hK _ _ (hR.next hb) (goods_below _ hb _) rfl
    · intro x W hR hdep K hK
      have cX := hR.facts.1
      have hsz := hR.facts.2
      clear hdep
      simp only [lay, Act.put, List.setIfInBounds_toArray, List.set_cons_zero, List.set_cons_succ] at hK ⊢
      go_simp
      exact hK _ _ (hR.alloc _) (goods_alloc _ _ _) ⟨W.heap.size, rfl, World.alloc_heap_new _ _⟩
    · intro x W hR hdep K hK
      have g0 : (GK.holds (.ints [2]) (x 48) W) := hdep ⟨20, .data⟩ (by simp) rfl _ rfl
      have cX := hR.facts.1
      have hsz := hR.facts.2
      clear hdep
      simp only [lay, Act.put, List.setIfInBounds_toArray, List.set_cons_zero, List.set_cons_succ] at hK ⊢
      go_simp
      refine (in_any 14 [2] (by simp) _ W (.inr (ints_in g0))).mono ?_
      rintro r w' ⟨rfl, hb⟩
      exact hK _ _ (hR.next hb) (goods_below _ hb _) rfl
    · intro x W hR hdep K hK
      have cX := hR.facts.1
      have hsz := hR.facts.2
      clear hdep
      simp only [lay, Act.put, List.setIfInBounds_toArray, List.set_cons_zero, List.set_cons_succ] at hK ⊢
      go_simp
      exact hK _ _ (hR.alloc _) (goods_alloc _ _ _) ⟨W.heap.size, rfl, World.alloc_heap_new _ _⟩
    · intro x W hR hdep K hK
      have g0 : (GK.holds (.ints [3]) (x 50) W) := hdep ⟨22, .data⟩ (by simp) rfl _ rfl
      have cX := hR.facts.1
      have hsz := hR.facts.2
      clear hdep
      simp only [lay, Act.put, List.setIfInBounds_toArray, List.set_cons_zero, List.set_cons_succ] at hK ⊢
      go_simp
      refine (in_any 14 [3] (by simp) _ W (.inr (ints_in g0))).mono ?_
      rintro r w' ⟨rfl, hb⟩
      exact hK _ _ (hR.next hb) (goods_below _ hb _) rfl
    · intro x W hR hdep K hK
      have cX := hR.facts.1
      have hsz := hR.facts.2
      clear hdep
      simp only [lay, Act.put, List.setIfInBounds_toArray, List.set_cons_zero, List.set_cons_succ] at hK ⊢
      go_simp
      exact hK _ _ (hR.alloc _) (goods_alloc _ _ _) ⟨W.heap.size, rfl, World.alloc_heap_new _ _⟩
    · intro x W hR hdep K hK
      have g0 : (GK.holds (.ints [1, 3, 14]) (x 52) W) := hdep ⟨24, .data⟩ (by simp) rfl _ rfl
      have cX := hR.facts.1
      have hsz := hR.facts.2
      clear hdep
      simp only [lay, Act.put, List.setIfInBounds_toArray, List.set_cons_zero, List.set_cons_succ] at hK ⊢
      go_simp
      refine (in_any 6 [1, 3, 14] (by simp) _ W (.inr (ints_in g0))).mono ?_
      rintro r w' ⟨rfl, hb⟩
      exact hK _ _ (hR.next hb) (goods_below _ hb _) rfl
    · intro x W hR hdep K hK
      have cX := hR.facts.1
      have hsz := hR.facts.2
      clear hdep
      simp only [lay, Act.put, List.setIfInBounds_toArray, List.set_cons_zero, List.set_cons_succ] at hK ⊢
      go_simp
      exact hK _ _ (hR.alloc _) (goods_alloc _ _ _) ⟨W.heap.size, rfl, World.alloc_heap_new _ _⟩
    · intro x W hR hdep K hK
      have g0 : (GK.holds (.ints [1, 3]) (x 54) W) := hdep ⟨26, .data⟩ (by simp) rfl _ rfl
      have cX := hR.facts.1
      have hsz := hR.facts.2
      clear hdep
      simp only [lay, Act.put, List.setIfInBounds_toArray, List.set_cons_zero, List.set_cons_succ] at hK ⊢
      go_simp
      refine (in_any 15 [1, 3] (by simp) _ W (.inr (ints_in g0))).mono ?_
      rintro r w' ⟨rfl, hb⟩
      exact hK _ _ (hR.next hb) (goods_below _ hb _) rfl
    · intro x W hR hdep K hK
      have cX := hR.facts.1
      have hsz := hR.facts.2
      clear hdep
      simp only [lay, Act.put, List.setIfInBounds_toArray, List.set_cons_zero, List.set_cons_succ] at hK ⊢
      go_simp
      exact hK _ _ (hR.alloc _) (goods_alloc _ _ _) ⟨W.heap.size, rfl, World.alloc_heap_new _ _⟩
    · intro x W hR hdep K hK
      have g0 : (GK.holds (.ints [0, 0, 11]) (x 56) W) := hdep ⟨28, .data⟩ (by simp) rfl _ rfl
      have cX := hR.facts.1
      have hsz := hR.facts.2
      clear hdep
      simp only [lay, Act.put, List.setIfInBounds_toArray, List.set_cons_zero, List.set_cons_succ] at hK ⊢
      go_simp
      refine (in_any 4 [0, 0, 11] (by simp) _ W (.inr (ints_in g0))).mono ?_
      rintro r w' ⟨rfl, hb⟩
      exact hK _ _ (hR.next hb) (goods_below _ hb _) rfl
    · intro x W hR hdep K hK
      have cX := hR.facts.1
      have hsz := hR.facts.2
      clear hdep
      simp only [lay, Act.put, List.setIfInBounds_toArray, List.set_cons_zero, List.set_cons_succ] at hK ⊢
      go_simp
      refine (in_any 16 [] (by simp) _ W (.inl ⟨rfl, rfl⟩)).mono ?_
      rintro r w' ⟨rfl, hb⟩
      exact hK _ _ (hR.next hb) (goods_below _ hb _) rfl
    · intro x W hR hdep K hK
      have g0 : (GK.holds (.val (InstV.val ⟨1, 0, 0, 0⟩)) (x 29) W) := hdep ⟨1, .data⟩ (by simp) rfl _ rfl
      have g1 : (GK.holds (.val (InstV.val ⟨1, 1, k, 0⟩)) (x 33) W) := hdep ⟨5, .data⟩ (by simp) rfl _ rfl
      have g2 : (GK.holds (.val (InstV.val ⟨1, 2, 1, 0⟩)) (x 35) W) := hdep ⟨7, .data⟩ (by simp) rfl _ rfl
      have g3 : (GK.holds (.val (InstV.val ⟨3, 0, 1, 5⟩)) (x 37) W) := hdep ⟨9, .data⟩ (by simp) rfl _ rfl
      have g4 : (GK.holds (.val (InstV.val ⟨4, 0, 0, 9⟩)) (x 39) W) := hdep ⟨11, .data⟩ (by simp) rfl _ rfl
      have g5 : (GK.holds (.val (InstV.val ⟨10, 0, 1, 0⟩)) (x 41) W) := hdep ⟨13, .data⟩ (by simp) rfl _ rfl
      have g6 : (GK.holds (.val (InstV.val ⟨14, 1, 0, 0⟩)) (x 43) W) := hdep ⟨15, .data⟩ (by simp) rfl _ rfl
      have g7 : (GK.holds (.val (InstV.val ⟨2, 0, 2, 0⟩)) (x 45) W) := hdep ⟨17, .data⟩ (by simp) rfl _ rfl
      have g8 : (GK.holds (.val (InstV.val ⟨4, 0, 0, 3⟩)) (x 47) W) := hdep ⟨19, .data⟩ (by simp) rfl _ rfl
      have g9 : (GK.holds (.val (InstV.val ⟨14, 2, 0, 0⟩)) (x 49) W) := hdep ⟨21, .data⟩ (by simp) rfl _ rfl
      have g10 : (GK.holds (.val (InstV.val ⟨14, 3, 0, 0⟩)) (x 51) W) := hdep ⟨23, .data⟩ (by simp) rfl _ rfl
      have g11 : (GK.holds (.val (InstV.val ⟨6, 1, 3, 14⟩)) (x 53) W) := hdep ⟨25, .data⟩ (by simp) rfl _ rfl
      have g12 : (GK.holds (.val (InstV.val ⟨15, 1, 3, 0⟩)) (x 55) W) := hdep ⟨27, .data⟩ (by simp) rfl _ rfl
      have g13 : (GK.holds (.val (InstV.val ⟨4, 0, 0, 11⟩)) (x 57) W) := hdep ⟨29, .data⟩ (by simp) rfl _ rfl
      have g14 : (GK.holds (.val (InstV.val ⟨16, 0, 0, 0⟩)) (x 58) W) := hdep ⟨30, .data⟩ (by simp) rfl _ rfl
      change x 29 = _ at g0
      change x 33 = _ at g1
      change x 35 = _ at g2
      change x 37 = _ at g3
      change x 39 = _ at g4
      change x 41 = _ at g5
      change x 43 = _ at g6
      change x 45 = _ at g7
      change x 47 = _ at g8
      change x 49 = _ at g9
      change x 51 = _ at g10
      change x 53 = _ at g11
      change x 55 = _ at g12
      change x 57 = _ at g13
      change x 58 = _ at g14
      have cX := hR.facts.1
      have hsz := hR.facts.2
      clear hdep
      unfold InstV.val at g0 g1 g2 g3 g4 g5 g6 g7 g8 g9 g10 g11 g12 g13 g14
      simp only [lay, Act.put, List.setIfInBounds_toArray, List.set_cons_zero, List.set_cons_succ, g0, g1, g2, g3, g4, g5, g6, g7, g8, g9, g10, g11, g12, g13, g14] at hK ⊢
      go_simp
      exact hK _ _ (hR.alloc _) (goods_alloc _ _ _) ⟨W.heap.size, rfl, World.alloc_heap_new _ _⟩
    · intro x W hR hdep K hK
      have g0 : (GK.holds (.insts (combL k)) (x 59) W) := hdep ⟨31, .data⟩ (by simp) rfl _ rfl
      have cX := hR.facts.1
      have hsz := hR.facts.2
      clear hdep
      simp only [lay, Act.put, List.setIfInBounds_toArray, List.set_cons_zero, List.set_cons_succ] at hK ⊢
      go_simp
      exact hK _ _ hR (fun _ _ _ h => h) g0
  case refine_3 =>
    intro x W hR hG
    have g0 : (GK.holds (.insts (combL k)) (x 8) W) := hG 32 _ rfl
    clear hG
    have hI := (INV.out W hR.below).more g0
    obtain ⟨b8, e8, -⟩ := g0
    have e8' : x 8 = .slice (some ⟨b8, 0, none⟩) 15 15 := e8
    clear e8 hR
    simp only [lay, Act.put, List.setIfInBounds_toArray, List.set_cons_zero, List.set_cons_succ]
    rw [e8'] at hI ⊢
    iterate 8
      go_wp2_with fail
      refine in_step (by first | exact fieldsN | exact fields2 (World.alloc_heap_new _ _) | exact fields3 (World.alloc_heap_new _ _) | exact fields1 (World.alloc_heap_new _ _) | exact fields2 (World.alloc_heap_new_at _ _ (by simp)) | exact fields3 (World.alloc_heap_new_at _ _ (by simp)) | exact fields1 (World.alloc_heap_new_at _ _ (by simp))) (by simp) (fun w' hb => ?_)
      replace hI := hI.next (by first | exact below_alloc_then _ hb | exact hb)
      clear hb
    go_wp2_with fail
    replace hI := (hI.next ((Below.refl _ _).alloc (Nat.le_refl _) _)).more (L := workL) ⟨_, rfl, World.alloc_heap_new _ _⟩
    refine in_step (by first | exact fieldsN | exact fields2 (World.alloc_heap_new _ _) | exact fields3 (World.alloc_heap_new _ _) | exact fields1 (World.alloc_heap_new _ _) | exact fields2 (World.alloc_heap_new_at _ _ (by simp)) | exact fields3 (World.alloc_heap_new_at _ _ (by simp)) | exact fields1 (World.alloc_heap_new_at _ _ (by simp))) (by simp) (fun w' hb => ?_)
    replace hI := hI.next (by first | exact below_alloc_then _ hb | exact hb)
    clear hb
    iterate 18
      go_wp2_with fail
      refine in_step (by first | exact fieldsN | exact fields2 (World.alloc_heap_new _ _) | exact fields3 (World.alloc_heap_new _ _) | exact fields1 (World.alloc_heap_new _ _)) (by simp) (fun w' hb => ?_)
      replace hI := hI.next (by first | exact below_alloc_then _ hb | exact hb)
      clear hb
    go_wp2_with fail
    replace hI := (hI.next ((Below.refl _ _).alloc (Nat.le_refl _) _)).more (L := feedL bq n) ⟨_, rfl, World.alloc_heap_new _ _⟩
    refine in_step (by first | exact fieldsN | exact fields2 (World.alloc_heap_new _ _) | exact fields3 (World.alloc_heap_new _ _) | exact fields1 (World.alloc_heap_new _ _) | exact fields2 (World.alloc_heap_new_at _ _ (by simp)) | exact fields3 (World.alloc_heap_new_at _ _ (by simp)) | exact fields1 (World.alloc_heap_new_at _ _ (by simp))) (by simp) (fun w' hb => ?_)
    replace hI := hI.next (by first | exact below_alloc_then _ hb | exact hb)
    clear hb
    iterate 2
      go_wp2_with fail
      refine in_step (by first | exact fieldsN | exact fields2 (World.alloc_heap_new _ _) | exact fields3 (World.alloc_heap_new _ _) | exact fields1 (World.alloc_heap_new _ _)) (by simp) (fun w' hb => ?_)
      replace hI := hI.next (by first | exact below_alloc_then _ hb | exact hb)
      clear hb
    obtain ⟨c0, c1, c2, c3, c4, hr⟩ := hI.res
    have hx := hI.box
    rw [hbx] at hx hr
    obtain ⟨cx, fx⟩ := blockC hx
    obtain ⟨cr, fr⟩ := blockC hr
    have hsz := hI.size
    rw [hbx] at hsz
    have hsz' : bx < w'.heap.size := by omega
    have HI := Lib.hid hI
    have HR := Lib.hid hr
    clear hI hx hr
    go_wp2
    have h5 := ((((HI.out.set (p := ⟨bx + 1, 0, none⟩) (.slice (some ⟨w'.heap.size + 1, 0, none⟩) 4 4) (by simp [hbx]) (by simp) rfl).set (p := ⟨bx + 1, 1, none⟩) (.slice (some ⟨w'.heap.size + 1 + 1, 0, none⟩) 3 3) (by simp [hbx]) (by simp) rfl).set (p := ⟨bx + 1, 2, none⟩) (.int .i64 1) (by simp [hbx]) (by simp) rfl).set (p := ⟨bx + 1, 3, none⟩) (.int .i64 0) (by simp [hbx]) (by simp) rfl).set (p := ⟨bx + 1, 4, none⟩) (.int .i64 bq) (by simp [hbx]) (by simp) rfl
    have h6 := (h5.next ((Below.refl _ _).alloc (Nat.le_refl _) (.cells (instCells closeL).toArray 51 (0, 0)))).more (v := .slice (some ⟨w'.heap.size, 0, none⟩) 3 3) (L := closeL) ⟨_, rfl, World.alloc_heap_new_at _ _ (by simp)⟩
    have hr5 := block_setCell (i := 4) (block_setCell (i := 3) (block_setCell (i := 2) (block_setCell (i := 1) (block_setCell (i := 0) HR.out (.slice (some ⟨w'.heap.size + 1, 0, none⟩) 4 4)) (.slice (some ⟨w'.heap.size + 1 + 1, 0, none⟩) 3 3)) (.int .i64 1)) (.int .i64 0)) (.int .i64 bq)
    refine bodyPost_ret (sys_results rfl rfl rfl ((Below.heap_alloc _ _ _ (by simp; omega)).trans ((Below.heap_alloc _ _ _ (by simp; omega)).trans ((Below.heap_alloc _ _ _ (by simp; omega)).trans hr5))) rfl) rfl ⟨_, rfl, ⟨_, _, _, _, _, _, rfl, (Below.heap_alloc _ _ _ (by simp)).trans (World.alloc_heap_new_at _ _ (by simp)), World.alloc_heap_new_at _ _ (by simp), (h6.next (((Below.refl _ _).alloc (Nat.le_refl _) _).alloc (by simp) _)).held _ (.tail _ (.tail _ (.tail _ (.head _)))), (h6.next (((Below.refl _ _).alloc (Nat.le_refl _) _).alloc (by simp) _)).held _ (.tail _ (.tail _ (.head _))), (h6.next (((Below.refl _ _).alloc (Nat.le_refl _) _).alloc (by simp) _)).held _ (.tail _ (.head _)), (h6.next (((Below.refl _ _).alloc (Nat.le_refl _) _).alloc (by simp) _)).held _ (.head _)⟩, (h6.next (((Below.refl _ _).alloc (Nat.le_refl _) _).alloc (by simp) _)).below⟩
end Go.Proofs.Ytadkpndfbfjmfaa
