/- The program's rows as an iterator: each of a tree and a length. No condition. -/
import Derived.Test.YtahenngmaoellaaN05
import Derived.RangeFuncNested
import Derived.RangeFuncBound
import Derived.RangeFuncCalls
import Derived.RangeFuncLeaves
import Derived.RangeFuncBox
import Derived.Shelf.Abstract
import Derived.Shelf.RegionOpen
import Derived.OwnWalkIn
import Derived.TacticsInMore
import Derived.LoopNIn
import Derived.LoopIn
import Derived.Lib.MinMax
set_option linter.all false
set_option maxRecDepth 100000
set_option maxHeartbeats 8000000
namespace Go.Proofs.Ytahenngmaoellaa
open Go.ChangeShapes Go.WideShapes Go.ChangeAt Go.RowKit Go.Joins Go.Shelf
open Go.Lib (hid)
attribute [local go_sem] Oper.semAt_some
theorem room_of_none {F : Fence} (hd : F.depth = none) (k : Nat) : F.room k := fun d h => by rw [hd] at h; cases h
theorem RoundIn.anyDepth {F : Fence} (hd : F.depth = none) {m m' : Nat} {P : Program} {l : Nat} {f : FuncId} {tmps : Array Value} {assign body : Code} {w : World} {R : Ending → World → Prop}
    (h : RoundIn F m P l f tmps assign body w R) : RoundIn F m' P l f tmps assign body w R := ⟨h.1, fun c cs _ => h.2 c cs (room_of_none hd _)⟩
theorem YieldAt.anyDepth {F : Fence} (hd : F.depth = none) {m : Nat} (m' : Nat) {P : Program} {l : Nat} {args : Array Value} {W : World} {R : Ending → World → Prop} (h : YieldAt F m P l args W R) : YieldAt F m' P l args W R := by
  obtain ⟨fn, tmps, assign, body, hy, hR⟩ := h
  exact ⟨fn, tmps, assign, body, hy, RoundIn.anyDepth hd hR⟩
/-- What the iterator over rows asks of a loop's body: the boxes of trees and of yields stay. -/
def KpT (W W' : World) : Prop := ∀ (b : Nat) (c : Array Value) (fr : Nat × Nat) (T : TypeId), (T = 92 ∨ T = 26) → W.heap[b]? = some (Obj.cells c T fr) → W'.heap[b]? = some (Obj.cells c T fr)
theorem KpT.trans {A B C : World} (h : KpT A B) (k : KpT B C) : KpT A C := fun b c fr T hT hb => k b c fr T hT (h b c fr T hT hb)
theorem cell_of_heap {W : World} {b : Nat} {c : Array Value} {T : TypeId} {fr : Nat × Nat} (h : W.heap[b]? = some (.cells c T fr)) (i : Nat) : W.cell? ⟨b, i, none⟩ = c[i]? := by simp [World.cell?, h]
/-- each's inner function: it hands the row and its number on to yield. -/
theorem pass_in (n m : Nat) (l Y r k : Nat) (bo : Bool) (W : World) (R : Ending → World → Prop)
    (hY : W.heap[Y]? = some (.cells #[.func (.yield l) #[] #[]] 92 (0, 0)))
    (hR : YieldAt Fence.wide m Try.prog l #[.int .i64 r, .int .u64 k] W R) (hRb : ∀ e W', R e W' → e = .returned (.bool true) ∨ e = .returned (.bool false)) :
    CallsIn Fence.wide n Try.prog 36 #[.int .i64 r, .int .u64 k, .bool bo, .pointer (some ⟨Y, 0, none⟩)] W R := by
  have hc := cell_of_heap hY 0
  obtain ⟨fn, tmps, assign, body, hy, hR⟩ := YieldAt.anyDepth (m' := n - 1) rfl hR
  refine callsIn_of_wp Try.func36 rfl trivial ?_ rfl
  simp only [Try.ntmps36, List.size_toArray, List.length_cons, List.length_nil, Nat.reduceAdd, Nat.reduceSub, Array.replicate_succ, Array.replicate_zero, List.push_toArray, List.append_toArray, List.nil_append, List.cons_append]
  gi_wp2
  refine ⟨(fun h => by cases h), ?_⟩
  refine hR.mono ?_
  intro e W' h
  rcases hRb e W' h with rfl | rfl
  · gi_wp2
    exact h
  · gi_wp2
    exact h
/-- ceil, in a fence. -/
theorem ceil_in (n0 n d : Nat) (hn : (n : Int) ≤ 18446744073709551615) (hd : 1 ≤ d) (hd2 : (d : Int) ≤ 18446744073709551615) (w : World) :
    CallsIn Fence.wide n0 Try.prog 33 #[.int .u64 n, .int .u64 d] w fun e w' => e = .returned (.int .u64 (cdiv n d)) ∧ w = w' := callsIn_wide.2 (ceil_any n d hn hd hd2 w)
/-- What the iterator's loop knows at its head. -/
def IterRel (f p N : Nat) (Bt Y l : Nat) (tc : Array Value) (J : List (Nat × Nat) → World → Prop) (n r : Value) (wr : World) : Prop :=
  ∃ (k m fuel : Nat) (pre : List (Nat × Nat)), n = .int .u64 m ∧ r = .int .i64 k ∧ 1 ≤ k ∧ k + 1 ≤ p ∧ p ≤ fuel + k ∧ (m : Int) ≤ 18446744073709551615 ∧
    pairsFrom 0 (rowsL f p N) = pre ++ pairsFrom k (rowsFrom f p fuel k m) ∧ J pre wr ∧ wr.heap[Bt]? = some (Obj.cells tc 26 (0, 0)) ∧
    wr.heap[Y]? = some (Obj.cells #[.func (.yield l) #[] #[]] 92 (0, 0))
/-- rows' inner function, over each's. -/
theorem rows1_in (n0 m0 : Nat) (t : TreeV) (hl : 0 ≤ t.l ∧ t.l ≤ 4294967295) (total : Nat) (ht : (total : Int) ≤ 18446744073709551615) (hv : t.validE = 0) (l Bt Bn Y : Nat)
    (J Jx : List (Nat × Nat) → World → Prop) (W : World)
    (hY : ∀ pre x W, J pre W → pre ++ [x] <+: pairsFrom 0 (rowsL t.fn t.pn (lvs total t.ln)) → YieldAt Fence.wide m0 Try.prog l #[.int .i64 (x.1 : Nat), .int .u64 (x.2 : Nat)] W fun e W' =>
      (e = .returned (.bool true) ∧ J (pre ++ [x]) W' ∧ KpT W W') ∨ (e = .returned (.bool false) ∧ Jx (pre ++ [x]) W'))
    (h1 : W.heap[Bt]? = some (Obj.cells t.val.cells 26 (0, 0))) (h2 : W.heap[Bn]? = some (Obj.cells #[.int .u64 total] 28 (0, 0)))
    (h3 : W.heap[Y]? = some (Obj.cells #[.func (.yield l) #[] #[]] 92 (0, 0))) (h0 : J [] W) :
    CallsIn Fence.wide n0 Try.prog 50 #[.func (.func 36) #[] #[.pointer (some ⟨Y, 0, none⟩)], .pointer (some ⟨Bn, 0, none⟩), .pointer (some ⟨Bt, 0, none⟩)] W fun e W' => (∃ v, e = .returned v) ∧
      ((∃ ys, ys = pairsFrom 0 (rowsL t.fn t.pn (lvs total t.ln)) ∧ J ys W') ∨ (∃ pre, pre <+: pairsFrom 0 (rowsL t.fn t.pn (lvs total t.ln)) ∧ Jx pre W')) := by
  have hvf := TreeV.valid_facts hv
  obtain ⟨-, -, -, -, -, hf, hp2, hp3, hl0, -, -, -⟩ := hvf
  have hl1 : 1 ≤ t.ln := by unfold TreeV.ln; omega
  have hl2 : (t.ln : Int) ≤ 18446744073709551615 := by unfold TreeV.ln; omega
  have hlv := lvs_le total t.ln hl1 ht
  have hpn : t.p = (t.pn : Int) := by unfold TreeV.pn; omega
  have hfn : t.f = (t.fn : Int) := by unfold TreeV.fn; omega
  have hln : t.l = (t.ln : Int) := by unfold TreeV.ln; omega
  have hp4 : 2 ≤ t.pn := by omega
  have hp5 : t.pn ≤ 255 := by omega
  have hf3 : t.fn ≤ 255 := by omega
  have hmx : Hid ((lvs total t.ln : Int) = max 1 (cdiv total t.ln : Int)) := by show _ = _; unfold lvs; omega
  have c2 : W.cell? ⟨Bt, 2, none⟩ = some (.int .i64 t.fn) := by rw [cell_of_heap h1, ← hfn]; rfl
  have c3 : W.cell? ⟨Bt, 3, none⟩ = some (.int .i64 t.pn) := by rw [cell_of_heap h1, ← hpn]; rfl
  have c4 : W.cell? ⟨Bt, 4, none⟩ = some (.int .u32 t.ln) := by rw [cell_of_heap h1, ← hln]; rfl
  have c0 := cell_of_heap h2 0
  have HF := hid hfn
  have HP := hid hpn
  have HV := hid hv
  clear hpn hfn hln hv hf hl0
  refine callsIn_of_wp Try.func50 rfl trivial ?_ rfl
  simp only [Try.ntmps50, List.size_toArray, List.length_cons, List.length_nil, Nat.reduceAdd, Nat.reduceSub, Array.replicate_succ, Array.replicate_zero, List.push_toArray, List.append_toArray, List.nil_append, List.cons_append]
  have hy0 := hY [] (0, lvs total t.ln) W h0 (by simp [rowsL, pairsFrom])
  have H1 := hid h1
  have H2 := hid h2
  have H3 := hid h3
  clear h1 h2 h3
  gi_wp2_with fail
  refine ⟨trivial, (fun h => by cases h), ?_⟩
  refine (ceil_in _ total t.ln ht hl1 hl2 _).mono ?_; rintro e w2 ⟨rfl, rfl⟩
  gi_wp2_with fail
  rw [← hmx.out]
  refine ⟨trivial, (fun h => by cases h), ?_⟩
  refine (pass_in _ m0 l Y 0 (lvs total t.ln) false _ _ H3.out hy0 (fun e W' h => h.elim (fun h => .inl h.1) (fun h => .inr h.1))).mono ?_
  rintro e W1 (⟨rfl, hJ1, hk1⟩ | ⟨rfl, hJx1⟩)
  · gi_wp2
    gi_loopw [4, 5] (fun n r wr => IterRel t.fn t.pn (lvs total t.ln) Bt Y l t.val.cells J n r wr) (fun _ r _ => t.pn - (intOf r).toNat)
    case atStart =>
      exact ⟨1, lvs total t.ln, t.pn, [(0, lvs total t.ln)], rfl, rfl, Nat.le_refl _, by omega, by omega, hlv, rfl, hJ1, hk1 _ _ _ _ (.inr rfl) H1.out, hk1 _ _ _ _ (.inl rfl) H3.out⟩
    case round =>
      obtain ⟨k, m, fuel, pre, rfl, rfl, hk1, hk2, hfu, hm, hro, hJs, hb1, hb2⟩ := hrel
      have c2 : wr.cell? ⟨Bt, 2, none⟩ = some (.int .i64 t.fn) := by rw [cell_of_heap hb1, ← HF.out]; rfl
      have c3 : wr.cell? ⟨Bt, 3, none⟩ = some (.int .i64 t.pn) := by rw [cell_of_heap hb1, ← HP.out]; rfl
      have HRO := hid hro
      have hfu1 : 1 ≤ fuel := by omega
      clear hro
      by_cases hf0 : t.fn = 0
      · have HS := hid (rowsFrom_stop (m := m) hfu1 (.inl hf0 : t.fn = 0 ∨ k = t.pn - 1))
        have hall : pairsFrom 0 (rowsL t.fn t.pn (lvs total t.ln)) = pre ++ [(k, 1)] := by rw [HRO.out, HS.out]; rfl
        have hlen : pre ++ [(k, 1)] <+: pairsFrom 0 (rowsL t.fn t.pn (lvs total t.ln)) := by rw [hall]; simp
        have hyk := hY pre (k, 1) wr hJs hlen
        have HALL := hid hall
        clear hall
        have e1 : ((t.fn : Int) == 0) = true := by rw [beq_iff_eq]; omega
        clear hf0
        gi_wp2_with fail
        refine ⟨trivial, (fun h => by cases h), ?_⟩
        refine (pass_in _ m0 l Y k 1 true _ _ hb2 hyk (fun e W' h => h.elim (fun h => .inl h.1) (fun h => .inr h.1))).mono ?_
        have hall := HALL.out
        rintro e W3 (⟨rfl, hJ3, hk3⟩ | ⟨rfl, hJx3⟩)
        · gi_wp2
          refine bodyPost_ret (results_none rfl _ _ _) rfl ?_
          refine ⟨⟨_, rfl⟩, .inl ⟨_, rfl, ?_⟩⟩
          rw [hall]
          exact hJ3
        · gi_wp2
          refine bodyPost_ret (results_none rfl _ _ _) rfl ?_
          exact ⟨⟨_, rfl⟩, .inr ⟨pre ++ [(k, 1)], by rw [hall]; simp, hJx3⟩⟩
      have e1 : ((t.fn : Int) == 0) = false := by rw [beq_eq_false_iff_ne]; omega
      by_cases hrp : k = t.pn - 1
      · have HS := hid (rowsFrom_stop (m := m) hfu1 (.inr hrp : t.fn = 0 ∨ k = t.pn - 1))
        have hall : pairsFrom 0 (rowsL t.fn t.pn (lvs total t.ln)) = pre ++ [(k, 1)] := by rw [HRO.out, HS.out]; rfl
        have hlen : pre ++ [(k, 1)] <+: pairsFrom 0 (rowsL t.fn t.pn (lvs total t.ln)) := by rw [hall]; simp
        have hyk := hY pre (k, 1) wr hJs hlen
        have HALL := hid hall
        clear hall
        have e2 : ((k : Int) == (t.pn : Int) - 1) = true := by rw [beq_iff_eq]; omega
        clear hf0 hrp
        gi_wp2_with fail
        refine ⟨trivial, (fun h => by cases h), ?_⟩
        refine (pass_in _ m0 l Y k 1 true _ _ hb2 hyk (fun e W' h => h.elim (fun h => .inl h.1) (fun h => .inr h.1))).mono ?_
        have hall := HALL.out
        rintro e W3 (⟨rfl, hJ3, hk3⟩ | ⟨rfl, hJx3⟩)
        · gi_wp2
          refine bodyPost_ret (results_none rfl _ _ _) rfl ?_
          refine ⟨⟨_, rfl⟩, .inl ⟨_, rfl, ?_⟩⟩
          rw [hall]
          exact hJ3
        · gi_wp2
          refine bodyPost_ret (results_none rfl _ _ _) rfl ?_
          exact ⟨⟨_, rfl⟩, .inr ⟨pre ++ [(k, 1)], by rw [hall]; simp, hJx3⟩⟩
      have e2 : ((k : Int) == (t.pn : Int) - 1) = false := by rw [beq_eq_false_iff_ne]; omega
      have hns : ¬ (t.fn = 0 ∨ k = t.pn - 1) := fun h => h.elim hf0 hrp
      have hcd := cdiv_le (n := m) (show 1 ≤ t.fn by omega)
      have hf1 : 1 ≤ t.fn := by omega
      have hk3' : k + 2 ≤ t.pn := by omega
      by_cases h1 : cdiv m t.fn = 1
      · have HS := hid (rowsFrom_one hfu1 hns h1)
        have H1' := hid h1
        have hall : pairsFrom 0 (rowsL t.fn t.pn (lvs total t.ln)) = pre ++ [(k, (cdiv m t.fn))] := by rw [HRO.out, HS.out, H1'.out]; rfl
        have hlen : pre ++ [(k, (cdiv m t.fn))] <+: pairsFrom 0 (rowsL t.fn t.pn (lvs total t.ln)) := by rw [hall]; simp
        have hyk := hY pre (k, (cdiv m t.fn)) wr hJs hlen
        have HALL := hid hall
        clear hall
        have e3 : ((cdiv m t.fn : Int) == 1) = true := by rw [beq_iff_eq]; omega
        clear hf0 hrp hns h1
        gi_wp2_with (refine ⟨trivial, (fun h => by cases h), ?_⟩; gi_at_call 33; refine (ceil_in _ m t.fn hm hf1 (by omega) _).mono ?_; rintro e w2 ⟨rfl, rfl⟩)
        refine ⟨trivial, (fun h => by cases h), ?_⟩
        refine (pass_in _ m0 l Y k (cdiv m t.fn) true _ _ hb2 hyk (fun e W' h => h.elim (fun h => .inl h.1) (fun h => .inr h.1))).mono ?_
        have hall := HALL.out
        rintro e W3 (⟨rfl, hJ3, hk3⟩ | ⟨rfl, hJx3⟩)
        · gi_wp2
          refine bodyPost_ret (results_none rfl _ _ _) rfl ?_
          refine ⟨⟨_, rfl⟩, .inl ⟨_, rfl, ?_⟩⟩
          rw [hall]
          exact hJ3
        · gi_wp2
          refine bodyPost_ret (results_none rfl _ _ _) rfl ?_
          exact ⟨⟨_, rfl⟩, .inr ⟨pre ++ [(k, (cdiv m t.fn))], by rw [hall]; simp, hJx3⟩⟩
      · obtain ⟨fu, rfl⟩ : ∃ fu, fuel = fu + 1 := ⟨fuel - 1, by omega⟩
        have HS := hid (rowsFrom_more (fuel := fu) hns h1)
        have hall : pairsFrom 0 (rowsL t.fn t.pn (lvs total t.ln)) = pre ++ pairsFrom k (cdiv m t.fn :: rowsFrom t.fn t.pn fu (k + 1) (cdiv m t.fn)) := by rw [HRO.out, HS.out]
        have hlen : pre ++ [(k, (cdiv m t.fn))] <+: pairsFrom 0 (rowsL t.fn t.pn (lvs total t.ln)) := by rw [hall]; simp [pairsFrom]
        have hyk := hY pre (k, (cdiv m t.fn)) wr hJs hlen
        have HALL := hid hall
        clear hall
        have e3 : ((cdiv m t.fn : Int) == 1) = false := by rw [beq_eq_false_iff_ne]; omega
        clear hf0 hrp hns h1
        gi_wp2_with (refine ⟨trivial, (fun h => by cases h), ?_⟩; gi_at_call 33; refine (ceil_in _ m t.fn hm hf1 (by omega) _).mono ?_; rintro e w2 ⟨rfl, rfl⟩)
        refine ⟨trivial, (fun h => by cases h), ?_⟩
        refine (pass_in _ m0 l Y k (cdiv m t.fn) false _ _ hb2 hyk (fun e W' h => h.elim (fun h => .inl h.1) (fun h => .inr h.1))).mono ?_
        have hall := HALL.out
        rintro e W3 (⟨rfl, hJ3, hk3⟩ | ⟨rfl, hJx3⟩)
        · gi_wp2
          go_roundw
          case rel =>
            refine ⟨k + 1, cdiv m t.fn, fu, pre ++ [(k, cdiv m t.fn)], rfl, by simp, by omega, by omega, by omega, by omega, ?_, hJ3, hk3 _ _ _ _ (.inr rfl) hb1, hk3 _ _ _ _ (.inl rfl) hb2⟩
            rw [HRO.out, HS.out]
            simp [pairsFrom]
          case measure => simp [intOf]; omega
        · gi_wp2
          refine bodyPost_ret (results_none rfl _ _ _) rfl ?_
          exact ⟨⟨_, rfl⟩, .inr ⟨pre ++ [(k, (cdiv m t.fn))], by rw [hall]; simp [pairsFrom], hJx3⟩⟩
  · gi_wp2
    refine bodyPost_ret (results_none rfl _ _ _) rfl ?_
    exact ⟨⟨_, rfl⟩, .inr ⟨[(0, lvs total t.ln)], by simp [rowsL, pairsFrom], hJx1⟩⟩
/-- A tree's cells, under a name. -/
def TreeV.arr (t : TreeV) : Array Value := t.val.cells
def encP (x : Nat × Nat) : Array Value := #[.int .i64 (x.1 : Nat), .int .u64 (x.2 : Nat)]
/-- each: the tree and the length are boxed; the function value captures the boxes. -/
theorem each_any (t : TreeV) (total : Nat) (w : World) : Calls Try.prog 23 #[t.val, .int .u64 total] w fun e w' =>
    e = .returned (.func (.func 34) #[] #[.pointer (some ⟨w.heap.size, 0, none⟩), .pointer (some ⟨w.heap.size + 1, 0, none⟩)]) ∧
    w' = (w.alloc (.cells t.arr 26)).alloc (.cells #[.int .u64 total] 28) := by
  unfold TreeV.val
  go_enter Try.func23, Try.ntmps23
  go_wp2
  go_ret
  exact ⟨rfl, rfl⟩
theorem shRows_any (t : TreeV) (total : Nat) (w : World) : Calls Try.prog 35 #[t.val, .int .u64 total] w fun e w' =>
    e = .returned (.func (.func 50) #[] #[.pointer (some ⟨w.heap.size + 1, 0, none⟩), .pointer (some ⟨w.heap.size, 0, none⟩)]) ∧
    w' = (w.alloc (.cells t.val.cells 26)).alloc (.cells #[.int .u64 total] 28) := by
  unfold TreeV.val
  go_enter Try.func35, Try.ntmps35
  go_wp2
  go_ret
  exact ⟨rfl, rfl⟩
theorem rows_in (n0 : Nat) (t : TreeV) (total : Nat) (w : World) : CallsIn Fence.wide n0 Try.prog 35 #[t.val, .int .u64 total] w fun e w' =>
    e = .returned (.func (.func 50) #[] #[.pointer (some ⟨w.heap.size + 1, 0, none⟩), .pointer (some ⟨w.heap.size, 0, none⟩)]) ∧
    w' = (w.alloc (.cells t.val.cells 26)).alloc (.cells #[.int .u64 total] 28) := callsIn_wide.2 (shRows_any t total w)
theorem each1_in (n0 m0 : Nat) (t : TreeV) (hl : 0 ≤ t.l ∧ t.l ≤ 4294967295) (total : Nat) (ht : (total : Int) ≤ 18446744073709551615) (hv : t.validE = 0) (l Bt Bn : Nat)
    (J Jx : List (Nat × Nat) → World → Prop) (W : World) (hJ : AbidesFrom W.heap.size J)
    (hY : ∀ pre x W, J pre W → pre ++ [x] <+: pairsFrom 0 (rowsL t.fn t.pn (lvs total t.ln)) → YieldAt Fence.wide m0 Try.prog l (encP x) W fun e W' =>
      (e = .returned (.bool true) ∧ J (pre ++ [x]) W' ∧ KpT W W') ∨ (e = .returned (.bool false) ∧ Jx (pre ++ [x]) W'))
    (h1 : W.heap[Bt]? = some (Obj.cells t.val.cells 26 (0, 0))) (h2 : W.heap[Bn]? = some (Obj.cells #[.int .u64 total] 28 (0, 0))) (h0 : J [] W) :
    CallsIn Fence.wide n0 Try.prog 34 #[.func (.yield l) #[] #[], .pointer (some ⟨Bt, 0, none⟩), .pointer (some ⟨Bn, 0, none⟩)] W fun e W' => (∃ v, e = .returned v) ∧
      ((∃ ys, ys = pairsFrom 0 (rowsL t.fn t.pn (lvs total t.ln)) ∧ J ys W') ∨ (∃ pre, pre <+: pairsFrom 0 (rowsL t.fn t.pn (lvs total t.ln)) ∧ Jx pre W')) := by
  have c0 := cell_of_heap h1 0
  have c1 := cell_of_heap h1 1
  have c2 := cell_of_heap h1 2
  have c3 := cell_of_heap h1 3
  have c4 := cell_of_heap h1 4
  have c5 := cell_of_heap h1 5
  have c6 := cell_of_heap h1 6
  have c7 := cell_of_heap h1 7
  have c8 := cell_of_heap h1 8
  have cn := cell_of_heap h2 0
  simp only [TreeV.val, Value.cells, List.getElem?_toArray, List.getElem?_cons_zero, List.getElem?_cons_succ] at c0 c1 c2 c3 c4 c5 c6 c7 c8 cn
  have b1 : Bt < W.heap.size := (Array.getElem?_eq_some_iff.1 h1).1
  have b2 : Bn < W.heap.size := (Array.getElem?_eq_some_iff.1 h2).1
  have H1 := hid h1
  have H2 := hid h2
  clear h1 h2
  refine callsIn_of_wp Try.func34 rfl trivial ?_ rfl
  simp only [Try.ntmps34, List.size_toArray, List.length_cons, List.length_nil, Nat.reduceAdd, Nat.reduceSub, Array.replicate_succ, Array.replicate_zero, List.push_toArray, List.append_toArray, List.nil_append, List.cons_append]
  gi_wp2_with fail
  refine ⟨trivial, (fun h => by cases h), ?_⟩
  refine (rows_in _ t total _).mono ?_; rintro e w2 ⟨rfl, rfl⟩
  simp only [World.size_alloc, TreeV.val, Value.cells]
  have hh1 : ((((W.alloc (Obj.cells #[.func (.yield l) #[] #[]] 92)).alloc (.cells t.val.cells 26)).alloc (.cells #[.int .u64 total] 28))).heap[W.heap.size + 1]? = some (Obj.cells t.val.cells 26 (0, 0)) := by
    rw [Below.heap_alloc _ _ _ (by simp)]
    have := World.alloc_heap_new (W.alloc (Obj.cells #[.func (.yield l) #[] #[]] 92)) (.cells t.val.cells 26)
    rwa [World.size_alloc] at this
  have hh2 : ((((W.alloc (Obj.cells #[.func (.yield l) #[] #[]] 92)).alloc (.cells t.val.cells 26)).alloc (.cells #[.int .u64 total] 28))).heap[W.heap.size + 1 + 1]? = some (Obj.cells #[.int .u64 total] 28 (0, 0)) := by
    have := World.alloc_heap_new ((W.alloc (Obj.cells #[.func (.yield l) #[] #[]] 92)).alloc (.cells t.val.cells 26)) (.cells #[.int .u64 total] 28)
    rwa [World.size_alloc, World.size_alloc] at this
  have hh3 : ((((W.alloc (Obj.cells #[.func (.yield l) #[] #[]] 92)).alloc (.cells t.val.cells 26)).alloc (.cells #[.int .u64 total] 28))).heap[W.heap.size]? = some (Obj.cells #[.func (.yield l) #[] #[]] 92 (0, 0)) := by
    rw [Below.heap_alloc _ _ _ (by simp; omega), Below.heap_alloc _ _ _ (by simp)]
    exact World.alloc_heap_new _ _
  have hj1 := hJ _ _ _ none h0 (World.grownBy_alloc W (Obj.cells #[.func (.yield l) #[] #[]] 92) none) (fun r e => by cases e)
  have hj2 := hJ _ _ _ none hj1 (World.grownBy_alloc _ (.cells t.val.cells 26) none) (fun r e => by cases e)
  have hj3 := hJ _ _ _ none hj2 (World.grownBy_alloc _ (.cells #[.int .u64 total] 28) none) (fun r e => by cases e)
  have hcall := rows1_in (n0 - 1) m0 t hl total ht hv l _ _ _ J Jx _ (fun pre x W1 hj hlen => hY pre x W1 hj hlen) hh1 hh2 hh3 hj3
  simp only [TreeV.val, Value.cells] at hcall
  clear hj1 hj2 hj3 hh1 hh2 hh3 h0 hY
  gi_wp2_with fail
  refine ⟨trivial, (fun h => by cases h), ?_⟩
  refine hcall.mono ?_
  rintro e W4 ⟨⟨v, rfl⟩, hp⟩
  clear hcall
  gi_wp2
  go_end0
  exact ⟨⟨_, rfl⟩, hp⟩
/-- A row of a tree, by its number. -/
abbrev RowAt (L : List Nat) := { k : Nat // k < L.length }
def encR (L : List Nat) (x : RowAt L) : Array Value := #[.int .i64 (x.1 : Nat), .int .u64 (nth L x.1 : Nat)]
theorem pairs_get (r : Nat) (L : List Nat) (k : Nat) (hk : k < L.length) : (pairsFrom r L)[k]? = some (r + k, nth L k) := by
  induction L generalizing r k with
  | nil => simp at hk
  | cons n l ih =>
    cases k with
    | zero => simp [pairsFrom, nth]
    | succ k =>
      have := ih (r + 1) k (by simpa using hk)
      simp only [pairsFrom, List.getElem?_cons_succ, this, nth_cons_succ]
      congr 2; omega
theorem pairs_range (L : List Nat) : pairsFrom 0 L = (List.range L.length).map (fun k => (k, nth L k)) := by
  apply List.ext_getElem?
  intro k
  by_cases hk : k < L.length
  · rw [pairs_get 0 L k hk]; simp [hk]
  · rw [List.getElem?_eq_none (by rw [pairsFrom_length]; omega), List.getElem?_eq_none (by simp; omega)]
theorem pairs_next {L : List Nat} {pre : List (Nat × Nat)} {x : Nat × Nat} (h : pre ++ [x] <+: pairsFrom 0 L) : x.1 < L.length ∧ x.2 = nth L x.1 := by
  obtain ⟨t, ht⟩ := h
  have h1 : (pairsFrom 0 L)[pre.length]? = some x := by rw [← ht]; simp
  have hl : pre.length < L.length := by
    have := congrArg List.length ht
    rw [pairsFrom_length] at this
    simp at this; omega
  rw [pairs_get 0 L _ hl] at h1
  simp only [Option.some.injEq] at h1
  subst h1
  exact ⟨by simpa using hl, by simp⟩
def rowPairs (L : List Nat) (ks : List (RowAt L)) : List (Nat × Nat) := ks.map fun k => (k.1, nth L k.1)
theorem rowPairs_all {L : List Nat} {ks : List (RowAt L)} (h : rowPairs L ks = pairsFrom 0 L) : ks.map (·.1) = List.range L.length := by
  have := congrArg (List.map (·.1)) h
  rw [pairs_range] at this
  simpa [rowPairs, Function.comp_def] using this
theorem rowPairs_some {L : List Nat} {ks : List (RowAt L)} (h : rowPairs L ks <+: pairsFrom 0 L) : ks.map (·.1) = List.range ks.length ∧ ks.length ≤ L.length := by
  have hl := h.length_le
  rw [pairsFrom_length] at hl
  have hl2 : ks.length ≤ L.length := by simpa [rowPairs] using hl
  refine ⟨?_, hl2⟩
  have h1 := List.prefix_iff_eq_take.1 h
  have := congrArg (List.map (·.1)) h1
  rw [pairs_range] at this
  simp [rowPairs, Function.comp_def, List.map_take] at this
  have this2 : ks.map (·.1) = List.range (min ks.length L.length) := this
  rw [this2, Nat.min_eq_left hl2]
/-- **each HANDS BACK A VALUE THAT 'SeqStopsK'**: all rows with their numbers, in order; or a beginning of them. -/
theorem each_stops (n0 : Nat) (t : TreeV) (hl : 0 ≤ t.l ∧ t.l ≤ 4294967295) (total : Nat) (ht : (total : Int) ≤ 18446744073709551615) (hv : t.validE = 0) (Bt Bn : Nat) (w : World)
    (h1 : w.heap[Bt]? = some (Obj.cells t.val.cells 26 (0, 0))) (h2 : w.heap[Bn]? = some (Obj.cells #[.int .u64 total] 28 (0, 0))) (L : List Nat) (hL : rowsL t.fn t.pn (lvs total t.ln) = L) :
    SeqStopsK Fence.wide n0 Try.prog 34 #[.pointer (some ⟨Bt, 0, none⟩), .pointer (some ⟨Bn, 0, none⟩)] (encR L) KpT
      (fun ys => ys.map (·.1) = List.range L.length) (fun pre => pre.map (·.1) = List.range pre.length ∧ pre.length ≤ L.length) (L.length + 1) w := by
  intro l J Jx W hW hJ hJx hY h0
  subst hL
  have hJ' : AbidesFrom W.heap.size (fun (ps : List (Nat × Nat)) W => ∃ ks : List (RowAt (rowsL t.fn t.pn (lvs total t.ln))), rowPairs _ ks = ps ∧ J ks W) :=
    fun ps A B row ⟨ks, e, hj⟩ hg hr => ⟨ks, e, hJ ks A B row hj hg hr⟩
  refine (each1_in n0 (n0 - 1) t hl total ht hv l Bt Bn (fun ps W => ∃ ks : List (RowAt (rowsL t.fn t.pn (lvs total t.ln))), rowPairs _ ks = ps ∧ J ks W)
    (fun ps W => ∃ ks : List (RowAt (rowsL t.fn t.pn (lvs total t.ln))), rowPairs _ ks = ps ∧ Jx ks W) W hJ' ?_
    ((hW.block Bt (Array.getElem?_eq_some_iff.1 h1).1).trans h1) ((hW.block Bn (Array.getElem?_eq_some_iff.1 h2).1).trans h2) ⟨[], rfl, h0⟩).mono ?_
  · rintro pre x W1 ⟨ks, rfl, hj⟩ hpre
    obtain ⟨hx1, hx2⟩ := pairs_next hpre
    have hlen : ks.length < (rowsL t.fn t.pn (lvs total t.ln)).length + 1 := by
      have := hpre.length_le
      rw [pairsFrom_length] at this
      simp [rowPairs] at this; omega
    obtain ⟨fn, tmps, assign, body, hy, hR⟩ := hY ks ⟨x.1, hx1⟩ W1 hj hlen
    refine ⟨fn, tmps, assign, body, ?_, hR.mono ?_⟩
    · rw [← hy]; simp only [encR, encP, hx2]
    · have ex : rowPairs _ (ks ++ [⟨x.1, hx1⟩]) = rowPairs _ ks ++ [x] := by simp [rowPairs, ← hx2]
      rintro e W' (⟨he, hj', hk⟩ | ⟨he, hj'⟩)
      · exact .inl ⟨he, ⟨_, ex, hj'⟩, hk⟩
      · exact .inr ⟨he, ⟨_, ex, hj'⟩⟩
  · rintro e W' ⟨hv', h⟩
    refine ⟨hv', ?_⟩
    rcases h with ⟨ys, rfl, ks, e, hj⟩ | ⟨pre, hp, ks, rfl, hj⟩
    · exact .inl ⟨ks, rowPairs_all e, hj⟩
    · exact .inr ⟨ks, rowPairs_some hp, hj⟩
end Go.Proofs.Ytahenngmaoellaa
namespace Go.Proofs.Ytahenngmaoellaa
open Go.ChangeShapes Go.WideShapes Go.ChangeAt Go.RowKit Go.Joins Go.Shelf Go.Maps
open Go.Lib (hid)
attribute [local go_sem] Oper.semAt_some
theorem KpT.setCell {W : World} {p : Addr} {c : Array Value} {T : TypeId} {fr : Nat × Nat} (h : W.heap[p.block]? = some (Obj.cells c T fr)) (h1 : T ≠ 92) (h2 : T ≠ 26) (u : Value) : KpT W (W.setCell p u) := by
  intro b c' fr' T' hT hb
  by_cases e : b = p.block
  · subst e
    rw [h] at hb
    cases hb
    rcases hT with rfl | rfl
    · exact absurd rfl h1
    · exact absurd rfl h2
  · exact (Below.heap_setCell W p u b e).trans hb
theorem KpT.putObj (W : World) (l : Nat) (o o' : Obj) (hl : W.heap[l]? = some o) (ho : o.isCells = false) : KpT W (W.putObj l o') := by
  intro b c fr T _ hb
  refine ((grownBy_putObj' W l o').block b (Array.getElem?_eq_some_iff.1 hb).1 (fun e => ?_)).trans hb
  cases e
  rw [hl] at hb
  cases hb
  cases ho
end Go.Proofs.Ytahenngmaoellaa
namespace Go.Proofs.Ytahenngmaoellaa
open Go.ChangeShapes Go.WideShapes Go.ChangeAt Go.RowKit Go.Joins Go.Shelf Go.Maps
open Go.Lib (hid)
theorem wrap_u64 (x : Int) : IntKind.u64.wrap x = x % 18446744073709551616 := by simp [IntKind.wrap, IntKind.bits, IntKind.signed]
end Go.Proofs.Ytahenngmaoellaa
