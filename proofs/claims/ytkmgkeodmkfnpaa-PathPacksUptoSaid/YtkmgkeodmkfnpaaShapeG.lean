/- The program's rows as an iterator, whole: each. No condition. -/
import Derived.Test.YtkmgkeodmkfnpaaShapeF
namespace Go.Proofs.Ytkmgkeodmkfnpaa
open Go.ChangeShapes Go.WideShapes Go.ChangeAt Go.RowKit Go.Joins Go.Shelf
attribute [local go_sem] Oper.semAt_some

/-- A tree's cells, under a name. -/
def TreeV.arr (t : TreeV) : Array Value := t.val.cells
def encP (x : Nat × Nat) : Array Value := #[.int .i64 (x.1 : Nat), .int .u64 (x.2 : Nat)]
/-- each: the tree and the length are boxed; the function value captures the boxes. -/
theorem each_any (t : TreeV) (total : Nat) (w : World) : Calls Try.prog 94 #[t.val, .int .u64 total] w fun e w' =>
    e = .returned (.func (.func 118) #[] #[.pointer (some ⟨w.heap.size, 0, none⟩), .pointer (some ⟨w.heap.size + 1, 0, none⟩)]) ∧
    w' = (w.alloc (.cells t.arr 26)).alloc (.cells #[.int .u64 total] 27) := by
  unfold TreeV.val
  go_enter Try.func94, Try.ntmps94
  go_wp2
  go_ret
  exact ⟨rfl, rfl⟩
theorem rows_any (t : TreeV) (total : Nat) (w : World) : Calls Try.prog 119 #[t.val, .int .u64 total] w fun e w' =>
    e = .returned (.func (.func 131) #[] #[.pointer (some ⟨w.heap.size + 1, 0, none⟩), .pointer (some ⟨w.heap.size, 0, none⟩)]) ∧
    w' = (w.alloc (.cells t.val.cells 26)).alloc (.cells #[.int .u64 total] 27) := by
  unfold TreeV.val
  go_enter Try.func119, Try.ntmps119
  go_wp2
  go_ret
  exact ⟨rfl, rfl⟩
theorem rows_in (n0 : Nat) (t : TreeV) (total : Nat) (w : World) : CallsIn Fence.wide n0 Try.prog 119 #[t.val, .int .u64 total] w fun e w' =>
    e = .returned (.func (.func 131) #[] #[.pointer (some ⟨w.heap.size + 1, 0, none⟩), .pointer (some ⟨w.heap.size, 0, none⟩)]) ∧
    w' = (w.alloc (.cells t.val.cells 26)).alloc (.cells #[.int .u64 total] 27) := callsIn_wide.2 (rows_any t total w)

set_option maxRecDepth 100000 in
set_option maxHeartbeats 1000000 in
theorem each1_in (n0 m0 : Nat) (t : TreeV) (hl : 0 ≤ t.l ∧ t.l ≤ 4294967295) (total : Nat) (ht : (total : Int) ≤ 18446744073709551615) (hv : t.validE = 0) (l Bt Bn : Nat)
    (J Jx : List (Nat × Nat) → World → Prop) (W : World) (hJ : AbidesFrom W.heap.size J)
    (hY : ∀ pre x W, J pre W → pre ++ [x] <+: pairsFrom 0 (rowsL t.fn t.pn (lvs total t.ln)) → YieldAt Fence.wide m0 Try.prog l (encP x) W fun e W' =>
      (e = .returned (.bool true) ∧ J (pre ++ [x]) W' ∧ KpT W W') ∨ (e = .returned (.bool false) ∧ Jx (pre ++ [x]) W'))
    (h1 : W.heap[Bt]? = some (Obj.cells t.val.cells 26 (0, 0))) (h2 : W.heap[Bn]? = some (Obj.cells #[.int .u64 total] 27 (0, 0))) (h0 : J [] W) :
    CallsIn Fence.wide n0 Try.prog 118 #[.func (.yield l) #[] #[], .pointer (some ⟨Bt, 0, none⟩), .pointer (some ⟨Bn, 0, none⟩)] W fun e W' => (∃ v, e = .returned v) ∧
      ((∃ ys, ys = pairsFrom 0 (rowsL t.fn t.pn (lvs total t.ln)) ∧ J ys W') ∨ (∃ pre, pre <+: pairsFrom 0 (rowsL t.fn t.pn (lvs total t.ln)) ∧ Jx pre W')) := by
  have c0 := cell_of_heap h1 0
  have c1 := cell_of_heap h1 1
  have c2 := cell_of_heap h1 2
  have c3 := cell_of_heap h1 3
  have c4 := cell_of_heap h1 4
  have c5 := cell_of_heap h1 5
  have c6 := cell_of_heap h1 6
  have c7 := cell_of_heap h1 7
  have c8 := cell_of_heap h1 8
  have cn := cell_of_heap h2 0
  simp only [TreeV.val, Value.cells, List.getElem?_toArray, List.getElem?_cons_zero, List.getElem?_cons_succ] at c0 c1 c2 c3 c4 c5 c6 c7 c8 cn
  have b1 : Bt < W.heap.size := (Array.getElem?_eq_some_iff.1 h1).1
  have b2 : Bn < W.heap.size := (Array.getElem?_eq_some_iff.1 h2).1
  have H1 := Lib.hid h1
  have H2 := Lib.hid h2
  clear h1 h2
  refine callsIn_of_wp Try.func118 rfl trivial ?_ rfl
  simp only [Try.ntmps118, List.size_toArray, List.length_cons, List.length_nil, Nat.reduceAdd, Nat.reduceSub, Array.replicate_succ, Array.replicate_zero, List.push_toArray, List.append_toArray, List.nil_append, List.cons_append]
  gi_wp2_with fail
  refine ⟨trivial, (fun h => by cases h), ?_⟩
  refine (rows_in _ t total _).mono ?_; rintro e w2 ⟨rfl, rfl⟩
  simp only [World.size_alloc, TreeV.val, Value.cells]
  have hh1 : ((((W.alloc (Obj.cells #[.func (.yield l) #[] #[]] 186)).alloc (.cells t.val.cells 26)).alloc (.cells #[.int .u64 total] 27))).heap[W.heap.size + 1]? = some (Obj.cells t.val.cells 26 (0, 0)) := by
    rw [Below.heap_alloc _ _ _ (by simp)]
    have := World.alloc_heap_new (W.alloc (Obj.cells #[.func (.yield l) #[] #[]] 186)) (.cells t.val.cells 26)
    rwa [World.size_alloc] at this
  have hh2 : ((((W.alloc (Obj.cells #[.func (.yield l) #[] #[]] 186)).alloc (.cells t.val.cells 26)).alloc (.cells #[.int .u64 total] 27))).heap[W.heap.size + 1 + 1]? = some (Obj.cells #[.int .u64 total] 27 (0, 0)) := by
    have := World.alloc_heap_new ((W.alloc (Obj.cells #[.func (.yield l) #[] #[]] 186)).alloc (.cells t.val.cells 26)) (.cells #[.int .u64 total] 27)
    rwa [World.size_alloc, World.size_alloc] at this
  have hh3 : ((((W.alloc (Obj.cells #[.func (.yield l) #[] #[]] 186)).alloc (.cells t.val.cells 26)).alloc (.cells #[.int .u64 total] 27))).heap[W.heap.size]? = some (Obj.cells #[.func (.yield l) #[] #[]] 186 (0, 0)) := by
    rw [Below.heap_alloc _ _ _ (by simp; omega), Below.heap_alloc _ _ _ (by simp)]
    exact World.alloc_heap_new _ _
  have hj1 := hJ _ _ _ none h0 (World.grownBy_alloc W (Obj.cells #[.func (.yield l) #[] #[]] 186) none) (fun r e => by cases e)
  have hj2 := hJ _ _ _ none hj1 (World.grownBy_alloc _ (.cells t.val.cells 26) none) (fun r e => by cases e)
  have hj3 := hJ _ _ _ none hj2 (World.grownBy_alloc _ (.cells #[.int .u64 total] 27) none) (fun r e => by cases e)
  have hcall := rows1_in (n0 - 1) m0 t hl total ht hv l _ _ _ J Jx _ (fun pre x W1 hj hlen => hY pre x W1 hj hlen) hh1 hh2 hh3 hj3
  simp only [TreeV.val, Value.cells] at hcall
  clear hj1 hj2 hj3 hh1 hh2 hh3 h0 hY
  gi_wp2_with fail
  refine ⟨trivial, (fun h => by cases h), ?_⟩
  refine hcall.mono ?_
  rintro e W4 ⟨⟨v, rfl⟩, hp⟩
  clear hcall
  gi_wp2
  go_end0
  exact ⟨⟨_, rfl⟩, hp⟩

/-- A row of a tree, by its number. -/
abbrev RowAt (L : List Nat) := { k : Nat // k < L.length }
def encR (L : List Nat) (x : RowAt L) : Array Value := #[.int .i64 (x.1 : Nat), .int .u64 (nth L x.1 : Nat)]
theorem pairs_get (r : Nat) (L : List Nat) (k : Nat) (hk : k < L.length) : (pairsFrom r L)[k]? = some (r + k, nth L k) := by
  induction L generalizing r k with
  | nil => simp at hk
  | cons n l ih =>
    cases k with
    | zero => simp [pairsFrom, nth]
    | succ k =>
      have := ih (r + 1) k (by simpa using hk)
      simp only [pairsFrom, List.getElem?_cons_succ, this, nth_cons_succ]
      congr 2; omega
theorem pairs_range (L : List Nat) : pairsFrom 0 L = (List.range L.length).map (fun k => (k, nth L k)) := by
  apply List.ext_getElem?
  intro k
  by_cases hk : k < L.length
  · rw [pairs_get 0 L k hk]; simp [hk]
  · rw [List.getElem?_eq_none (by rw [pairsFrom_length]; omega), List.getElem?_eq_none (by simp; omega)]
theorem pairs_next {L : List Nat} {pre : List (Nat × Nat)} {x : Nat × Nat} (h : pre ++ [x] <+: pairsFrom 0 L) : x.1 < L.length ∧ x.2 = nth L x.1 := by
  obtain ⟨t, ht⟩ := h
  have h1 : (pairsFrom 0 L)[pre.length]? = some x := by rw [← ht]; simp
  have hl : pre.length < L.length := by
    have := congrArg List.length ht
    rw [pairsFrom_length] at this
    simp at this; omega
  rw [pairs_get 0 L _ hl] at h1
  simp only [Option.some.injEq] at h1
  subst h1
  exact ⟨by simpa using hl, by simp⟩
def rowPairs (L : List Nat) (ks : List (RowAt L)) : List (Nat × Nat) := ks.map fun k => (k.1, nth L k.1)
theorem rowPairs_all {L : List Nat} {ks : List (RowAt L)} (h : rowPairs L ks = pairsFrom 0 L) : ks.map (·.1) = List.range L.length := by
  have := congrArg (List.map (·.1)) h
  rw [pairs_range] at this
  simpa [rowPairs, Function.comp_def] using this
theorem rowPairs_some {L : List Nat} {ks : List (RowAt L)} (h : rowPairs L ks <+: pairsFrom 0 L) : ks.map (·.1) = List.range ks.length ∧ ks.length ≤ L.length := by
  have hl := h.length_le
  rw [pairsFrom_length] at hl
  have hl2 : ks.length ≤ L.length := by simpa [rowPairs] using hl
  refine ⟨?_, hl2⟩
  have h1 := List.prefix_iff_eq_take.1 h
  have := congrArg (List.map (·.1)) h1
  rw [pairs_range] at this
  simp [rowPairs, Function.comp_def, List.map_take] at this
  have this2 : ks.map (·.1) = List.range (min ks.length L.length) := this
  rw [this2, Nat.min_eq_left hl2]

/-- **each HANDS BACK A VALUE THAT 'SeqStopsK'**: all rows with their numbers, in order; or a beginning of them. -/
theorem each_stops (n0 : Nat) (t : TreeV) (hl : 0 ≤ t.l ∧ t.l ≤ 4294967295) (total : Nat) (ht : (total : Int) ≤ 18446744073709551615) (hv : t.validE = 0) (Bt Bn : Nat) (w : World)
    (h1 : w.heap[Bt]? = some (Obj.cells t.val.cells 26 (0, 0))) (h2 : w.heap[Bn]? = some (Obj.cells #[.int .u64 total] 27 (0, 0))) (L : List Nat) (hL : rowsL t.fn t.pn (lvs total t.ln) = L) :
    SeqStopsK Fence.wide n0 Try.prog 118 #[.pointer (some ⟨Bt, 0, none⟩), .pointer (some ⟨Bn, 0, none⟩)] (encR L) KpT
      (fun ys => ys.map (·.1) = List.range L.length) (fun pre => pre.map (·.1) = List.range pre.length ∧ pre.length ≤ L.length) (L.length + 1) w := by
  intro l J Jx W hW hJ hJx hY h0
  subst hL
  have hJ' : AbidesFrom W.heap.size (fun (ps : List (Nat × Nat)) W => ∃ ks : List (RowAt (rowsL t.fn t.pn (lvs total t.ln))), rowPairs _ ks = ps ∧ J ks W) :=
    fun ps A B row ⟨ks, e, hj⟩ hg hr => ⟨ks, e, hJ ks A B row hj hg hr⟩
  refine (each1_in n0 (n0 - 1) t hl total ht hv l Bt Bn (fun ps W => ∃ ks : List (RowAt (rowsL t.fn t.pn (lvs total t.ln))), rowPairs _ ks = ps ∧ J ks W)
    (fun ps W => ∃ ks : List (RowAt (rowsL t.fn t.pn (lvs total t.ln))), rowPairs _ ks = ps ∧ Jx ks W) W hJ' ?_
    ((hW.block Bt (Array.getElem?_eq_some_iff.1 h1).1).trans h1) ((hW.block Bn (Array.getElem?_eq_some_iff.1 h2).1).trans h2) ⟨[], rfl, h0⟩).mono ?_
  · rintro pre x W1 ⟨ks, rfl, hj⟩ hpre
    obtain ⟨hx1, hx2⟩ := pairs_next hpre
    have hlen : ks.length < (rowsL t.fn t.pn (lvs total t.ln)).length + 1 := by
      have := hpre.length_le
      rw [pairsFrom_length] at this
      simp [rowPairs] at this; omega
    obtain ⟨fn, tmps, assign, body, hy, hR⟩ := hY ks ⟨x.1, hx1⟩ W1 hj hlen
    refine ⟨fn, tmps, assign, body, ?_, hR.mono ?_⟩
    · rw [← hy]; simp only [encR, encP, hx2]
    · have ex : rowPairs _ (ks ++ [⟨x.1, hx1⟩]) = rowPairs _ ks ++ [x] := by simp [rowPairs, ← hx2]
      rintro e W' (⟨he, hj', hk⟩ | ⟨he, hj'⟩)
      · exact .inl ⟨he, ⟨_, ex, hj'⟩, hk⟩
      · exact .inr ⟨he, ⟨_, ex, hj'⟩⟩
  · rintro e W' ⟨hv', h⟩
    refine ⟨hv', ?_⟩
    rcases h with ⟨ys, rfl, ks, e, hj⟩ | ⟨pre, hp, ks, rfl, hj⟩
    · exact .inl ⟨ks, rowPairs_all e, hj⟩
    · exact .inr ⟨ks, rowPairs_some hp, hj⟩
end Go.Proofs.Ytkmgkeodmkfnpaa
