/- The pool's small functions, on both sides: Valid, Buffers, in, inst. No condition. -/
import Derived.Test.YtadkpndfbfjmfaaBase
import Derived.Lib.SmallJoins
import Derived.Lib.Hide
import Derived.RangeFuncRecord
namespace Go.Proofs.Ytadkpndfbfjmfaa
open Go.ChangeShapes Go.WideShapes Go.ChangeAt Go.RowKit Go.Joins
attribute [local go_sem] Oper.semAt_some

theorem cell_of_heap {W : World} {b : Nat} {c : Array Value} {T : TypeId} {fr : Nat × Nat} (h : W.heap[b]? = some (.cells c T fr)) (i : Nat) : W.cell? ⟨b, i, none⟩ = c[i]? := by simp [World.cell?, h]
theorem blockC {W : World} {b : Nat} {cs : Array Value} {T : TypeId} (h : W.heap[b]? = some (Obj.cells cs T (0, 0))) : (∀ o, W.cell? ⟨b, o, none⟩ = cs[o]?) ∧ (∀ o, W.frozen? ⟨b, o, none⟩ = false) :=
  ⟨fun o => cell_of_heap h o, fun o => by simp [World.frozen?, h]⟩
theorem bcell {W w1 : World} (hb : Below W.heap.size W w1) : (∀ b o, b < W.heap.size → w1.cell? ⟨b, o, none⟩ = W.cell? ⟨b, o, none⟩) ∧ (∀ b o, b < W.heap.size → w1.frozen? ⟨b, o, none⟩ = W.frozen? ⟨b, o, none⟩) :=
  ⟨fun b o h => hb.cell (p := ⟨b, o, none⟩) h, fun b o h => hb.frozen (p := ⟨b, o, none⟩) h⟩
theorem below_alloc_then {w w1 : World} (o : Obj) (hb : Below (w.alloc o).heap.size (w.alloc o) w1) : Below w.heap.size w w1 :=
  (Below.alloc (Below.refl _ _) (Nat.le_refl _) o).trans (hb.mono (by simp))

theorem World.alloc_heap_new_at (w : World) (o : Obj) {n : Nat} (hn : n = w.heap.size) : (w.alloc o).heap[n]? = some o := by subst hn; exact World.alloc_heap_new w o
theorem ret_t2 {k : IntKind} {a b : Int} {v : Value} (h : a = b) : Ending.returned (.tuple #[.int k a, v]) = .returned (.tuple #[.int k b, v]) := by rw [h]
def PoolOk (k q : Int) : Prop := 1 ≤ k ∧ k ≤ 256 ∧ 1 ≤ q ∧ q ≤ 1024
instance (k q : Int) : Decidable (PoolOk k q) := by unfold PoolOk; infer_instance
def poolE (k q : Int) : Int := if PoolOk k q then 0 else 150
def poolB (k q : Int) : Int := if PoolOk k q then min (q + k) 64 else 0

set_option maxRecDepth 100000 in
theorem valid_any (k q : Int) (w : World) : Calls Try.prog 11 #[.agg #[.int .i64 k, .int .i64 q]] w fun e w' => e = .returned (.int .i64 (poolE k q)) ∧ Below w.heap.size w w' := by
  have fin : ∀ x : Int, poolE k q = x → ∀ e : Int, e = x → Ending.returned (.int .i64 e) = .returned (.int .i64 (poolE k q)) := fun x h e h' => by rw [h, h']
  have FIN := Lib.hid fin
  clear fin
  by_cases h1 : k < 1
  · have HE := Lib.hid (show poolE k q = 150 by unfold poolE; rw [if_neg (by unfold PoolOk; omega)])
    go_enter Try.func11, Try.ntmps11
    go_wp2
    go_ret
    exact ⟨FIN.out _ HE.out _ rfl, (Below.refl _ _).alloc (Nat.le_refl _) _⟩
  by_cases h2 : 256 < k
  · have HE := Lib.hid (show poolE k q = 150 by unfold poolE; rw [if_neg (by unfold PoolOk; omega)])
    go_enter Try.func11, Try.ntmps11
    go_wp2
    go_ret
    exact ⟨FIN.out _ HE.out _ rfl, (Below.refl _ _).alloc (Nat.le_refl _) _⟩
  by_cases h3 : q < 1
  · have HE := Lib.hid (show poolE k q = 150 by unfold poolE; rw [if_neg (by unfold PoolOk; omega)])
    go_enter Try.func11, Try.ntmps11
    go_wp2
    go_ret
    exact ⟨FIN.out _ HE.out _ rfl, (Below.refl _ _).alloc (Nat.le_refl _) _⟩
  by_cases h4 : 1024 < q
  · have HE := Lib.hid (show poolE k q = 150 by unfold poolE; rw [if_neg (by unfold PoolOk; omega)])
    go_enter Try.func11, Try.ntmps11
    go_wp2
    go_ret
    exact ⟨FIN.out _ HE.out _ rfl, (Below.refl _ _).alloc (Nat.le_refl _) _⟩
  · have HE := Lib.hid (show poolE k q = 0 by unfold poolE; rw [if_pos (by unfold PoolOk; omega)])
    go_enter Try.func11, Try.ntmps11
    go_wp2
    go_ret
    exact ⟨FIN.out _ HE.out _ rfl, (Below.refl _ _).alloc (Nat.le_refl _) _⟩
set_option maxRecDepth 100000 in
theorem refValid_any (k q : Int) (w : World) : Calls Try.prog 12 #[.agg #[.int .i64 k, .int .i64 q]] w fun e w' => e = .returned (.int .i64 (poolE k q)) ∧ Below w.heap.size w w' := by
  have fin : ∀ x : Int, poolE k q = x → ∀ e : Int, e = x → Ending.returned (.int .i64 e) = .returned (.int .i64 (poolE k q)) := fun x h e h' => by rw [h, h']
  have FIN := Lib.hid fin
  clear fin
  by_cases h1 : k < 1
  · have HE := Lib.hid (show poolE k q = 150 by unfold poolE; rw [if_neg (by unfold PoolOk; omega)])
    go_enter Try.func12, Try.ntmps12
    go_wp2
    go_ret
    exact ⟨FIN.out _ HE.out _ rfl, (Below.refl _ _).alloc (Nat.le_refl _) _⟩
  by_cases h2 : 256 < k
  · have HE := Lib.hid (show poolE k q = 150 by unfold poolE; rw [if_neg (by unfold PoolOk; omega)])
    go_enter Try.func12, Try.ntmps12
    go_wp2
    go_ret
    exact ⟨FIN.out _ HE.out _ rfl, (Below.refl _ _).alloc (Nat.le_refl _) _⟩
  by_cases h3 : q < 1
  · have HE := Lib.hid (show poolE k q = 150 by unfold poolE; rw [if_neg (by unfold PoolOk; omega)])
    go_enter Try.func12, Try.ntmps12
    go_wp2
    go_ret
    exact ⟨FIN.out _ HE.out _ rfl, (Below.refl _ _).alloc (Nat.le_refl _) _⟩
  by_cases h4 : 1024 < q
  · have HE := Lib.hid (show poolE k q = 150 by unfold poolE; rw [if_neg (by unfold PoolOk; omega)])
    go_enter Try.func12, Try.ntmps12
    go_wp2
    go_ret
    exact ⟨FIN.out _ HE.out _ rfl, (Below.refl _ _).alloc (Nat.le_refl _) _⟩
  · have HE := Lib.hid (show poolE k q = 0 by unfold poolE; rw [if_pos (by unfold PoolOk; omega)])
    go_enter Try.func12, Try.ntmps12
    go_wp2
    go_ret
    exact ⟨FIN.out _ HE.out _ rfl, (Below.refl _ _).alloc (Nat.le_refl _) _⟩

set_option maxRecDepth 100000 in
theorem buffers_any (k q : Int) (w : World) : Calls Try.prog 5 #[.agg #[.int .i64 k, .int .i64 q]] w fun e w' => e = .returned (.tuple #[.int .i64 (poolB k q), .int .i64 (poolE k q)]) ∧ Below w.heap.size w w' := by
  have HV := Lib.hid (valid_any k q)
  by_cases h : PoolOk k q
  · by_cases h5 : q + k < 64
    · have HB := Lib.hid (show poolB k q = q + k by unfold poolB; rw [if_pos h]; omega)
      have HE := Lib.hid (show poolE k q = 0 by unfold poolE; rw [if_pos h])
      rw [HB.out]
      rw [HE.out] at HV ⊢
      obtain ⟨h1, h2, h3, h4⟩ := h
      go_enter Try.func5, Try.ntmps5
      go_wp2_with fail
      refine (HV.out _).mono ?_; rintro r w1 ⟨rfl, hb1⟩
      obtain ⟨hc1, hf1⟩ := bcell hb1
      have hs1 : w.heap.size < w1.heap.size := by have := hb1.size; simp at this; omega
      go_wp2
      all_goals exact bodyPost_ret (results_tmp2 rfl _ _ _) rfl ⟨by first | rfl | exact ret_t2 (by omega), below_alloc_then _ hb1⟩
    · have HB := Lib.hid (show poolB k q = 64 by unfold poolB; rw [if_pos h]; omega)
      have HE := Lib.hid (show poolE k q = 0 by unfold poolE; rw [if_pos h])
      rw [HB.out]
      rw [HE.out] at HV ⊢
      obtain ⟨h1, h2, h3, h4⟩ := h
      go_enter Try.func5, Try.ntmps5
      go_wp2_with fail
      refine (HV.out _).mono ?_; rintro r w1 ⟨rfl, hb1⟩
      obtain ⟨hc1, hf1⟩ := bcell hb1
      have hs1 : w.heap.size < w1.heap.size := by have := hb1.size; simp at this; omega
      go_wp2
      all_goals exact bodyPost_ret (results_tmp2 rfl _ _ _) rfl ⟨by first | rfl | exact ret_t2 (by omega), below_alloc_then _ hb1⟩
  · have HB := Lib.hid (show poolB k q = 0 by unfold poolB; rw [if_neg h])
    have HE := Lib.hid (show poolE k q = 150 by unfold poolE; rw [if_neg h])
    rw [HB.out]
    rw [HE.out] at HV ⊢
    go_enter Try.func5, Try.ntmps5
    go_wp2_with fail
    refine (HV.out _).mono ?_; rintro r w1 ⟨rfl, hb1⟩
    go_wp2
    exact bodyPost_ret (results_tmp2 rfl _ _ _) rfl ⟨rfl, below_alloc_then _ hb1⟩
set_option maxRecDepth 100000 in
theorem refBuffers_any (k q : Int) (w : World) : Calls Try.prog 6 #[.agg #[.int .i64 k, .int .i64 q]] w fun e w' => e = .returned (.tuple #[.int .i64 (poolB k q), .int .i64 (poolE k q)]) ∧ Below w.heap.size w w' := by
  have HV := Lib.hid (refValid_any k q)
  by_cases h : PoolOk k q
  · by_cases h5 : q + k < 64
    · have HB := Lib.hid (show poolB k q = q + k by unfold poolB; rw [if_pos h]; omega)
      have HE := Lib.hid (show poolE k q = 0 by unfold poolE; rw [if_pos h])
      rw [HB.out]
      rw [HE.out] at HV ⊢
      obtain ⟨h1, h2, h3, h4⟩ := h
      go_enter Try.func6, Try.ntmps6
      go_wp2_with fail
      refine (HV.out _).mono ?_; rintro r w1 ⟨rfl, hb1⟩
      obtain ⟨hc1, hf1⟩ := bcell hb1
      have hs1 : w.heap.size < w1.heap.size := by have := hb1.size; simp at this; omega
      go_wp2
      all_goals exact bodyPost_ret (results_tmp2 rfl _ _ _) rfl ⟨by first | rfl | exact ret_t2 (by omega), below_alloc_then _ hb1⟩
    · have HB := Lib.hid (show poolB k q = 64 by unfold poolB; rw [if_pos h]; omega)
      have HE := Lib.hid (show poolE k q = 0 by unfold poolE; rw [if_pos h])
      rw [HB.out]
      rw [HE.out] at HV ⊢
      obtain ⟨h1, h2, h3, h4⟩ := h
      go_enter Try.func6, Try.ntmps6
      go_wp2_with fail
      refine (HV.out _).mono ?_; rintro r w1 ⟨rfl, hb1⟩
      obtain ⟨hc1, hf1⟩ := bcell hb1
      have hs1 : w.heap.size < w1.heap.size := by have := hb1.size; simp at this; omega
      go_wp2
      all_goals exact bodyPost_ret (results_tmp2 rfl _ _ _) rfl ⟨by first | rfl | exact ret_t2 (by omega), below_alloc_then _ hb1⟩
  · have HB := Lib.hid (show poolB k q = 0 by unfold poolB; rw [if_neg h])
    have HE := Lib.hid (show poolE k q = 150 by unfold poolE; rw [if_neg h])
    rw [HB.out]
    rw [HE.out] at HV ⊢
    go_enter Try.func6, Try.ntmps6
    go_wp2_with fail
    refine (HV.out _).mono ?_; rintro r w1 ⟨rfl, hb1⟩
    go_wp2
    exact bodyPost_ret (results_tmp2 rfl _ _ _) rfl ⟨rfl, below_alloc_then _ hb1⟩
theorem inst_results {P : Program} {fn : Func} {tmps : Array Value} {W : World} {b s : Nat} {v0 v1 v2 v3 : Value} {T : TypeId} {fr : Nat × Nat}
    (hr : fn.results = #[.cell s 51]) (h4 : tmps[s]?.getD undef = .pointer (some ⟨b, 0, none⟩))
    (hb : W.heap[b]? = some (Obj.cells #[v0, v1, v2, v3] T fr)) (hP : P = Try.prog) :
    (results fn tmps).run P W = .ok (.agg #[v0, v1, v2, v3]) W := by
  subst hP
  have c0 := cell_of_heap hb 0
  have c1 := cell_of_heap hb 1
  have c2 := cell_of_heap hb 2
  have c3 := cell_of_heap hb 3
  simp [results, hr, h4, go_sem, c0, c1, c2, c3]
/-- An instruction's fields, as the fields that are told. -/
theorem inst_any (op a b c : Int) (w : World) : Calls Try.prog 18 #[.int .i64 op, .int .i64 a, .int .i64 b, .int .i64 c] w fun e w' => e = .returned (.agg #[.int .i64 op, .int .i64 a, .int .i64 b, .int .i64 c]) ∧ Below w.heap.size w w' := by
  go_enter Try.func18, Try.ntmps18
  go_wp2
  refine bodyPost_ret (inst_results rfl rfl (World.alloc_heap_new _ _) rfl) rfl ⟨rfl, ?_⟩
  repeat (first | exact Below.refl _ _ | (refine Below.setCell ?_ (by simp) _) | (refine Below.alloc ?_ (by simp) _))

def fldZ (l : List Int) (n j : Nat) : Int := if j < n then l.getD j 0 else 0
set_option maxRecDepth 100000 in
/-- in, of at most three fields that lie in a block. -/
theorem in_any (op : Int) (l : List Int) (hl : l.length ≤ 3) (v : Value) (w : World) (hv : (l = [] ∧ v = .slice none 0 0) ∨ ∃ b cap, v = .slice (some ⟨b, 0, none⟩) l.length cap ∧ w.heap[b]? = some (Obj.cells (l.map fun z => Value.int .i64 z).toArray 3 (0, 0))) :
    Calls Try.prog 17 #[.int .i64 op, v] w fun e w' => e = .returned (.agg #[.int .i64 op, .int .i64 (l.getD 0 0), .int .i64 (l.getD 1 0), .int .i64 (l.getD 2 0)]) ∧ Below w.heap.size w w' := by
  have hcell : ∀ j (x : Int), l[j]? = some x → ∃ b, v = .slice (some ⟨b, 0, none⟩) l.length (match v with | .slice _ _ c => c | _ => 0) ∧ b < w.heap.size ∧ w.cell? ⟨b, j, none⟩ = some (.int .i64 x) := by
    intro j x hj
    rcases hv with ⟨rfl, rfl⟩ | ⟨b, cap, rfl, hb⟩
    · simp at hj
    · refine ⟨b, rfl, (Array.getElem?_eq_some_iff.1 hb).1, ?_⟩
      rw [cell_of_heap hb]
      simp [hj]
  obtain ⟨a, cap, rfl⟩ : ∃ a cap, v = .slice a l.length cap := by
    rcases hv with ⟨rfl, rfl⟩ | ⟨b, cap, rfl, hb⟩
    · exact ⟨_, _, rfl⟩
    · exact ⟨_, _, rfl⟩
  have HC := Lib.hid hcell
  clear hcell hv
  have f0 : ∀ j, fldZ l 0 j = 0 := fun j => rfl
  have fend : ∀ j, fldZ l l.length j = l.getD j 0 := fun j => by
    unfold fldZ
    split
    · rfl
    · simp [List.getD_eq_getElem?_getD, List.getElem?_eq_none (show l.length ≤ j by omega)]
  have F0 := Lib.hid f0
  have FE := Lib.hid fend
  clear f0 fend
  go_enter Try.func17, Try.ntmps17
  go_wp2_with fail
  go_loopw [12] (fun i wr => ∃ k : Nat, i = .int .i64 k ∧ k ≤ l.length ∧ Below w.heap.size w wr ∧ w.heap.size + 1 < wr.heap.size ∧ (∃ c T, wr.heap[w.heap.size]? = some (Obj.cells c T (0, 0)) ∧ c.size = 4) ∧ wr.heap[w.heap.size + 1]? = some (Obj.cells #[.int .i64 op, .int .i64 (fldZ l k 0), .int .i64 (fldZ l k 1), .int .i64 (fldZ l k 2)] 51 (0, 0))) (fun i _ => l.length - (intOf i).toNat)
  case atStart => exact ⟨0, rfl, Nat.zero_le _, ((Below.refl _ _).alloc (Nat.le_refl _) _).alloc (by simp) _, by simp, ⟨_, _, (Below.heap_alloc _ _ _ (by simp)).trans (World.alloc_heap_new _ _), rfl⟩, by rw [F0.out, F0.out, F0.out]; exact World.alloc_heap_new_at _ _ (by simp)⟩
  case round =>
    obtain ⟨k, rfl, hk, hb, hs, ⟨c, T, hR, hcs⟩, hI⟩ := hrel
    obtain ⟨cI, fI⟩ := blockC hI
    obtain ⟨cR, fR⟩ := blockC hR
    have HI := Lib.hid hI
    have HR := Lib.hid hR
    have qI : w.heap.size < wr.heap.size := by omega
    clear hI hR
    by_cases hlt : k < l.length
    · obtain ⟨b, hv, hbl, hcb⟩ := HC.out k l[k] (by simp [hlt])
      simp only [Value.slice.injEq, and_true] at hv
      subst hv
      have hcw := (hb.cell (p := ⟨b, k, none⟩) hbl).trans hcb
      clear hcb cR fR
      rcases (show k = 0 ∨ k = 1 ∨ k = 2 by omega) with rfl | rfl | rfl
      · have E0 : fldZ l (0 + 1) 0 = l[0] := by unfold fldZ; rw [if_pos (by omega)]; simp [List.getD_eq_getElem?_getD, hlt]
        have E1 : fldZ l (0 + 1) 1 = fldZ l 0 1 := by unfold fldZ; rw [if_neg (by omega), if_neg (by omega)]
        have E2 : fldZ l (0 + 1) 2 = fldZ l 0 2 := by unfold fldZ; rw [if_neg (by omega), if_neg (by omega)]
        have E0' := Lib.hid E0
        have E1' := Lib.hid E1
        have E2' := Lib.hid E2
        clear E0 E1 E2
        go_wp2
        refine ⟨⟨0 + 1, rfl, by omega, hb.trans ⟨rfl, rfl, rfl, by simp, fun g hg => Below.heap_setCell _ _ _ _ (by show g ≠ w.heap.size + 1; omega)⟩, by simp; omega, ⟨c, T, (Below.heap_setCell _ _ _ _ (by show w.heap.size ≠ w.heap.size + 1; omega)).trans HR.out, hcs⟩, ?_⟩, by simp [intOf]; omega⟩
        rw [E0'.out, E1'.out, E2'.out]
        exact block_setCell HI.out _
      · have E1 : fldZ l (1 + 1) 1 = l[1] := by unfold fldZ; rw [if_pos (by omega)]; simp [List.getD_eq_getElem?_getD, hlt]
        have E0 : fldZ l (1 + 1) 0 = fldZ l 1 0 := by unfold fldZ; rw [if_pos (by omega), if_pos (by omega)]
        have E2 : fldZ l (1 + 1) 2 = fldZ l 1 2 := by unfold fldZ; rw [if_neg (by omega), if_neg (by omega)]
        have E0' := Lib.hid E0
        have E1' := Lib.hid E1
        have E2' := Lib.hid E2
        clear E0 E1 E2
        go_wp2
        refine ⟨⟨1 + 1, rfl, by omega, hb.trans ⟨rfl, rfl, rfl, by simp, fun g hg => Below.heap_setCell _ _ _ _ (by show g ≠ w.heap.size + 1; omega)⟩, by simp; omega, ⟨c, T, (Below.heap_setCell _ _ _ _ (by show w.heap.size ≠ w.heap.size + 1; omega)).trans HR.out, hcs⟩, ?_⟩, by simp [intOf]; omega⟩
        rw [E0'.out, E1'.out, E2'.out]
        exact block_setCell HI.out _
      · have E2 : fldZ l (2 + 1) 2 = l[2] := by unfold fldZ; rw [if_pos (by omega)]; simp [List.getD_eq_getElem?_getD, hlt]
        have E0 : fldZ l (2 + 1) 0 = fldZ l 2 0 := by unfold fldZ; rw [if_pos (by omega), if_pos (by omega)]
        have E1 : fldZ l (2 + 1) 1 = fldZ l 2 1 := by unfold fldZ; rw [if_pos (by omega), if_pos (by omega)]
        have E0' := Lib.hid E0
        have E1' := Lib.hid E1
        have E2' := Lib.hid E2
        clear E0 E1 E2
        go_wp2
        refine ⟨⟨2 + 1, rfl, by omega, hb.trans ⟨rfl, rfl, rfl, by simp, fun g hg => Below.heap_setCell _ _ _ _ (by show g ≠ w.heap.size + 1; omega)⟩, by simp; omega, ⟨c, T, (Below.heap_setCell _ _ _ _ (by show w.heap.size ≠ w.heap.size + 1; omega)).trans HR.out, hcs⟩, ?_⟩, by simp [intOf]; omega⟩
        rw [E0'.out, E1'.out, E2'.out]
        exact block_setCell HI.out _
    · obtain rfl : k = l.length := by omega
      obtain ⟨c0, c1, c2, c3, hc4⟩ : ∃ c0 c1 c2 c3, c = #[c0, c1, c2, c3] := by
        obtain ⟨L⟩ := c
        match L, hcs with
        | [c0, c1, c2, c3], _ => exact ⟨_, _, _, _, rfl⟩
      subst hc4
      go_wp2
      refine bodyPost_ret (inst_results rfl rfl (block_setCell (block_setCell (block_setCell (block_setCell HR.out _) _) _) _) rfl) rfl ⟨by rw [FE.out, FE.out, FE.out], hb.trans ⟨rfl, rfl, rfl, by simp, fun g hg => ?_⟩⟩
      have hgn : g ≠ w.heap.size := by omega
      exact (Below.heap_setCell _ _ _ _ hgn).trans ((Below.heap_setCell _ _ _ _ hgn).trans ((Below.heap_setCell _ _ _ _ hgn).trans (Below.heap_setCell _ _ _ _ hgn)))
end Go.Proofs.Ytadkpndfbfjmfaa
