/- The program's rows as an iterator: each of a tree and a length. No condition. -/
import Derived.Test.YtchepcilkcdemaaS04
import Derived.RangeFuncNested
import Derived.RangeFuncBound
import Derived.RangeFuncCalls
import Derived.RangeFuncLeaves
import Derived.RangeFuncBox
import Derived.Shelf.Abstract
import Derived.Shelf.RegionOpen
import Derived.OwnWalkIn
import Derived.TacticsInMore
import Derived.LoopNIn
import Derived.LoopIn
import Derived.Lib.MinMax
set_option linter.all false
set_option maxRecDepth 100000
set_option maxHeartbeats 8000000
namespace Go.Proofs.Ytchepcilkcdemaa
open Go.ChangeShapes Go.WideShapes Go.ChangeAt Go.RowKit Go.Joins Go.Shelf
open Go.Lib (hid)
attribute [local go_sem] Oper.semAt_some
theorem room_of_none {F : Fence} (hd : F.depth = none) (k : Nat) : F.room k := fun d h => by rw [hd] at h; cases h
theorem RoundIn.anyDepth {F : Fence} (hd : F.depth = none) {m m' : Nat} {P : Program} {l : Nat} {f : FuncId} {tmps : Array Value} {assign body : Code} {w : World} {R : Ending → World → Prop}
    (h : RoundIn F m P l f tmps assign body w R) : RoundIn F m' P l f tmps assign body w R := ⟨h.1, fun c cs _ => h.2 c cs (room_of_none hd _)⟩
theorem YieldAt.anyDepth {F : Fence} (hd : F.depth = none) {m : Nat} (m' : Nat) {P : Program} {l : Nat} {args : Array Value} {W : World} {R : Ending → World → Prop} (h : YieldAt F m P l args W R) : YieldAt F m' P l args W R := by
  obtain ⟨fn, tmps, assign, body, hy, hR⟩ := h
  exact ⟨fn, tmps, assign, body, hy, RoundIn.anyDepth hd hR⟩
/-- What the iterator over rows asks of a loop's body: the boxes of trees and of yields stay. -/
def KpT (W W' : World) : Prop := ∀ (b : Nat) (c : Array Value) (fr : Nat × Nat) (T : TypeId), (T = 101 ∨ T = 26) → W.heap[b]? = some (Obj.cells c T fr) → W'.heap[b]? = some (Obj.cells c T fr)
theorem KpT.trans {A B C : World} (h : KpT A B) (k : KpT B C) : KpT A C := fun b c fr T hT hb => k b c fr T hT (h b c fr T hT hb)
theorem KpT.refl (A : World) : KpT A A := fun _ _ _ _ _ h => h
theorem cell_of_heap {W : World} {b : Nat} {c : Array Value} {T : TypeId} {fr : Nat × Nat} (h : W.heap[b]? = some (.cells c T fr)) (i : Nat) : W.cell? ⟨b, i, none⟩ = c[i]? := by simp [World.cell?, h]
/-- each's inner function: it hands the row and its number on to yield. -/
theorem pass_in (n m : Nat) (l Y r k : Nat) (bo : Bool) (W : World) (R : Ending → World → Prop)
    (hY : W.heap[Y]? = some (.cells #[.func (.yield l) #[] #[]] 101 (0, 0)))
    (hR : YieldAt Fence.wide m Try.prog l #[.int .i64 r, .int .u64 k] W R) (hRb : ∀ e W', R e W' → e = .returned (.bool true) ∨ e = .returned (.bool false)) :
    CallsIn Fence.wide n Try.prog 53 #[.int .i64 r, .int .u64 k, .bool bo, .pointer (some ⟨Y, 0, none⟩)] W R := by
  have hc := cell_of_heap hY 0
  obtain ⟨fn, tmps, assign, body, hy, hR⟩ := YieldAt.anyDepth (m' := n - 1) rfl hR
  refine callsIn_of_wp Try.func53 rfl trivial ?_ rfl
  simp only [Try.ntmps53, List.size_toArray, List.length_cons, List.length_nil, Nat.reduceAdd, Nat.reduceSub, Array.replicate_succ, Array.replicate_zero, List.push_toArray, List.append_toArray, List.nil_append, List.cons_append]
  gi_wp2
  refine ⟨(fun h => by cases h), ?_⟩
  refine hR.mono ?_
  intro e W' h
  rcases hRb e W' h with rfl | rfl
  · gi_wp2
    exact h
  · gi_wp2
    exact h
/-- ceil, in a fence. -/
theorem ceil_in (n0 n d : Nat) (hn : (n : Int) ≤ 18446744073709551615) (hd : 1 ≤ d) (hd2 : (d : Int) ≤ 18446744073709551615) (w : World) :
    CallsIn Fence.wide n0 Try.prog 50 #[.int .u64 n, .int .u64 d] w fun e w' => e = .returned (.int .u64 (cdiv n d)) ∧ w = w' := callsIn_wide.2 (ceil_any n d hn hd hd2 w)
/-- What the iterator's loop knows at its head. -/
def IterRel (f p N : Nat) (Bt Y l : Nat) (tc : Array Value) (J : List (Nat × Nat) → World → Prop) (n r : Value) (wr : World) : Prop :=
  ∃ (k m fuel : Nat) (pre : List (Nat × Nat)), n = .int .u64 m ∧ r = .int .i64 k ∧ 1 ≤ k ∧ k + 1 ≤ p ∧ p ≤ fuel + k ∧ (m : Int) ≤ 18446744073709551615 ∧
    pairsFrom 0 (rowsL f p N) = pre ++ pairsFrom k (rowsFrom f p fuel k m) ∧ J pre wr ∧ wr.heap[Bt]? = some (Obj.cells tc 26 (0, 0)) ∧
    wr.heap[Y]? = some (Obj.cells #[.func (.yield l) #[] #[]] 101 (0, 0))
/-- rows' inner function, over each's. -/
theorem rows1_in (n0 m0 : Nat) (t : TreeV) (hl : 0 ≤ t.l ∧ t.l ≤ 4294967295) (total : Nat) (ht : (total : Int) ≤ 18446744073709551615) (hv : t.validE = 0) (l Bt Bn Y : Nat)
    (J Jx : List (Nat × Nat) → World → Prop) (W : World)
    (hY : ∀ pre x W, J pre W → pre ++ [x] <+: pairsFrom 0 (rowsL t.fn t.pn (lvs total t.ln)) → YieldAt Fence.wide m0 Try.prog l #[.int .i64 (x.1 : Nat), .int .u64 (x.2 : Nat)] W fun e W' =>
      (e = .returned (.bool true) ∧ J (pre ++ [x]) W' ∧ KpT W W') ∨ (e = .returned (.bool false) ∧ Jx (pre ++ [x]) W'))
    (h1 : W.heap[Bt]? = some (Obj.cells t.val.cells 26 (0, 0))) (h2 : W.heap[Bn]? = some (Obj.cells #[.int .u64 total] 36 (0, 0)))
    (h3 : W.heap[Y]? = some (Obj.cells #[.func (.yield l) #[] #[]] 101 (0, 0))) (h0 : J [] W) :
    CallsIn Fence.wide n0 Try.prog 68 #[.func (.func 53) #[] #[.pointer (some ⟨Y, 0, none⟩)], .pointer (some ⟨Bn, 0, none⟩), .pointer (some ⟨Bt, 0, none⟩)] W fun e W' => (∃ v, e = .returned v) ∧
      ((∃ ys, ys = pairsFrom 0 (rowsL t.fn t.pn (lvs total t.ln)) ∧ J ys W') ∨ (∃ pre, pre <+: pairsFrom 0 (rowsL t.fn t.pn (lvs total t.ln)) ∧ Jx pre W')) := by
  have hvf := TreeV.valid_facts hv
  obtain ⟨-, -, -, -, -, hf, hp2, hp3, hl0, -, -, -⟩ := hvf
  have hl1 : 1 ≤ t.ln := by unfold TreeV.ln; omega
  have hl2 : (t.ln : Int) ≤ 18446744073709551615 := by unfold TreeV.ln; omega
  have hlv := lvs_le total t.ln hl1 ht
  have hpn : t.p = (t.pn : Int) := by unfold TreeV.pn; omega
  have hfn : t.f = (t.fn : Int) := by unfold TreeV.fn; omega
  have hln : t.l = (t.ln : Int) := by unfold TreeV.ln; omega
  have hp4 : 2 ≤ t.pn := by omega
  have hp5 : t.pn ≤ 255 := by omega
  have hf3 : t.fn ≤ 255 := by omega
  have hmx : Hid ((lvs total t.ln : Int) = max 1 (cdiv total t.ln : Int)) := by show _ = _; unfold lvs; omega
  have c2 : W.cell? ⟨Bt, 2, none⟩ = some (.int .i64 t.fn) := by rw [cell_of_heap h1, ← hfn]; rfl
  have c3 : W.cell? ⟨Bt, 3, none⟩ = some (.int .i64 t.pn) := by rw [cell_of_heap h1, ← hpn]; rfl
  have c4 : W.cell? ⟨Bt, 4, none⟩ = some (.int .u32 t.ln) := by rw [cell_of_heap h1, ← hln]; rfl
  have c0 := cell_of_heap h2 0
  have HF := hid hfn
  have HP := hid hpn
  have HV := hid hv
  clear hpn hfn hln hv hf hl0
  refine callsIn_of_wp Try.func68 rfl trivial ?_ rfl
  simp only [Try.ntmps68, List.size_toArray, List.length_cons, List.length_nil, Nat.reduceAdd, Nat.reduceSub, Array.replicate_succ, Array.replicate_zero, List.push_toArray, List.append_toArray, List.nil_append, List.cons_append]
  have hy0 := hY [] (0, lvs total t.ln) W h0 (by simp [rowsL, pairsFrom])
  have H1 := hid h1
  have H2 := hid h2
  have H3 := hid h3
  clear h1 h2 h3
  gi_wp2_with fail
  refine ⟨trivial, (fun h => by cases h), ?_⟩
  refine (ceil_in _ total t.ln ht hl1 hl2 _).mono ?_; rintro e w2 ⟨rfl, rfl⟩
  gi_wp2_with fail
  rw [← hmx.out]
  refine ⟨trivial, (fun h => by cases h), ?_⟩
  refine (pass_in _ m0 l Y 0 (lvs total t.ln) false _ _ H3.out hy0 (fun e W' h => h.elim (fun h => .inl h.1) (fun h => .inr h.1))).mono ?_
  rintro e W1 (⟨rfl, hJ1, hk1⟩ | ⟨rfl, hJx1⟩)
  · gi_wp2
    gi_loopw [4, 5] (fun n r wr => IterRel t.fn t.pn (lvs total t.ln) Bt Y l t.val.cells J n r wr) (fun _ r _ => t.pn - (intOf r).toNat)
    case atStart =>
      exact ⟨1, lvs total t.ln, t.pn, [(0, lvs total t.ln)], rfl, rfl, Nat.le_refl _, by omega, by omega, hlv, rfl, hJ1, hk1 _ _ _ _ (.inr rfl) H1.out, hk1 _ _ _ _ (.inl rfl) H3.out⟩
    case round =>
      obtain ⟨k, m, fuel, pre, rfl, rfl, hk1, hk2, hfu, hm, hro, hJs, hb1, hb2⟩ := hrel
      have c2 : wr.cell? ⟨Bt, 2, none⟩ = some (.int .i64 t.fn) := by rw [cell_of_heap hb1, ← HF.out]; rfl
      have c3 : wr.cell? ⟨Bt, 3, none⟩ = some (.int .i64 t.pn) := by rw [cell_of_heap hb1, ← HP.out]; rfl
      have HRO := hid hro
      have hfu1 : 1 ≤ fuel := by omega
      clear hro
      by_cases hf0 : t.fn = 0
      · have HS := hid (rowsFrom_stop (m := m) hfu1 (.inl hf0 : t.fn = 0 ∨ k = t.pn - 1))
        have hall : pairsFrom 0 (rowsL t.fn t.pn (lvs total t.ln)) = pre ++ [(k, 1)] := by rw [HRO.out, HS.out]; rfl
        have hlen : pre ++ [(k, 1)] <+: pairsFrom 0 (rowsL t.fn t.pn (lvs total t.ln)) := by rw [hall]; simp
        have hyk := hY pre (k, 1) wr hJs hlen
        have HALL := hid hall
        clear hall
        have e1 : ((t.fn : Int) == 0) = true := by rw [beq_iff_eq]; omega
        clear hf0
        gi_wp2_with fail
        refine ⟨trivial, (fun h => by cases h), ?_⟩
        refine (pass_in _ m0 l Y k 1 true _ _ hb2 hyk (fun e W' h => h.elim (fun h => .inl h.1) (fun h => .inr h.1))).mono ?_
        have hall := HALL.out
        rintro e W3 (⟨rfl, hJ3, hk3⟩ | ⟨rfl, hJx3⟩)
        · gi_wp2
          refine bodyPost_ret (results_none rfl _ _ _) rfl ?_
          refine ⟨⟨_, rfl⟩, .inl ⟨_, rfl, ?_⟩⟩
          rw [hall]
          exact hJ3
        · gi_wp2
          refine bodyPost_ret (results_none rfl _ _ _) rfl ?_
          exact ⟨⟨_, rfl⟩, .inr ⟨pre ++ [(k, 1)], by rw [hall]; simp, hJx3⟩⟩
      have e1 : ((t.fn : Int) == 0) = false := by rw [beq_eq_false_iff_ne]; omega
      by_cases hrp : k = t.pn - 1
      · have HS := hid (rowsFrom_stop (m := m) hfu1 (.inr hrp : t.fn = 0 ∨ k = t.pn - 1))
        have hall : pairsFrom 0 (rowsL t.fn t.pn (lvs total t.ln)) = pre ++ [(k, 1)] := by rw [HRO.out, HS.out]; rfl
        have hlen : pre ++ [(k, 1)] <+: pairsFrom 0 (rowsL t.fn t.pn (lvs total t.ln)) := by rw [hall]; simp
        have hyk := hY pre (k, 1) wr hJs hlen
        have HALL := hid hall
        clear hall
        have e2 : ((k : Int) == (t.pn : Int) - 1) = true := by rw [beq_iff_eq]; omega
        clear hf0 hrp
        gi_wp2_with fail
        refine ⟨trivial, (fun h => by cases h), ?_⟩
        refine (pass_in _ m0 l Y k 1 true _ _ hb2 hyk (fun e W' h => h.elim (fun h => .inl h.1) (fun h => .inr h.1))).mono ?_
        have hall := HALL.out
        rintro e W3 (⟨rfl, hJ3, hk3⟩ | ⟨rfl, hJx3⟩)
        · gi_wp2
          refine bodyPost_ret (results_none rfl _ _ _) rfl ?_
          refine ⟨⟨_, rfl⟩, .inl ⟨_, rfl, ?_⟩⟩
          rw [hall]
          exact hJ3
        · gi_wp2
          refine bodyPost_ret (results_none rfl _ _ _) rfl ?_
          exact ⟨⟨_, rfl⟩, .inr ⟨pre ++ [(k, 1)], by rw [hall]; simp, hJx3⟩⟩
      have e2 : ((k : Int) == (t.pn : Int) - 1) = false := by rw [beq_eq_false_iff_ne]; omega
      have hns : ¬ (t.fn = 0 ∨ k = t.pn - 1) := fun h => h.elim hf0 hrp
      have hcd := cdiv_le (n := m) (show 1 ≤ t.fn by omega)
      have hf1 : 1 ≤ t.fn := by omega
      have hk3' : k + 2 ≤ t.pn := by omega
      by_cases h1 : cdiv m t.fn = 1
      · have HS := hid (rowsFrom_one hfu1 hns h1)
        have H1' := hid h1
        have hall : pairsFrom 0 (rowsL t.fn t.pn (lvs total t.ln)) = pre ++ [(k, (cdiv m t.fn))] := by rw [HRO.out, HS.out, H1'.out]; rfl
        have hlen : pre ++ [(k, (cdiv m t.fn))] <+: pairsFrom 0 (rowsL t.fn t.pn (lvs total t.ln)) := by rw [hall]; simp
        have hyk := hY pre (k, (cdiv m t.fn)) wr hJs hlen
        have HALL := hid hall
        clear hall
        have e3 : ((cdiv m t.fn : Int) == 1) = true := by rw [beq_iff_eq]; omega
        clear hf0 hrp hns h1
        gi_wp2_with (refine ⟨trivial, (fun h => by cases h), ?_⟩; gi_at_call 50; refine (ceil_in _ m t.fn hm hf1 (by omega) _).mono ?_; rintro e w2 ⟨rfl, rfl⟩)
        refine ⟨trivial, (fun h => by cases h), ?_⟩
        refine (pass_in _ m0 l Y k (cdiv m t.fn) true _ _ hb2 hyk (fun e W' h => h.elim (fun h => .inl h.1) (fun h => .inr h.1))).mono ?_
        have hall := HALL.out
        rintro e W3 (⟨rfl, hJ3, hk3⟩ | ⟨rfl, hJx3⟩)
        · gi_wp2
          refine bodyPost_ret (results_none rfl _ _ _) rfl ?_
          refine ⟨⟨_, rfl⟩, .inl ⟨_, rfl, ?_⟩⟩
          rw [hall]
          exact hJ3
        · gi_wp2
          refine bodyPost_ret (results_none rfl _ _ _) rfl ?_
          exact ⟨⟨_, rfl⟩, .inr ⟨pre ++ [(k, (cdiv m t.fn))], by rw [hall]; simp, hJx3⟩⟩
      · obtain ⟨fu, rfl⟩ : ∃ fu, fuel = fu + 1 := ⟨fuel - 1, by omega⟩
        have HS := hid (rowsFrom_more (fuel := fu) hns h1)
        have hall : pairsFrom 0 (rowsL t.fn t.pn (lvs total t.ln)) = pre ++ pairsFrom k (cdiv m t.fn :: rowsFrom t.fn t.pn fu (k + 1) (cdiv m t.fn)) := by rw [HRO.out, HS.out]
        have hlen : pre ++ [(k, (cdiv m t.fn))] <+: pairsFrom 0 (rowsL t.fn t.pn (lvs total t.ln)) := by rw [hall]; simp [pairsFrom]
        have hyk := hY pre (k, (cdiv m t.fn)) wr hJs hlen
        have HALL := hid hall
        clear hall
        have e3 : ((cdiv m t.fn : Int) == 1) = false := by rw [beq_eq_false_iff_ne]; omega
        clear hf0 hrp hns h1
        gi_wp2_with (refine ⟨trivial, (fun h => by cases h), ?_⟩; gi_at_call 50; refine (ceil_in _ m t.fn hm hf1 (by omega) _).mono ?_; rintro e w2 ⟨rfl, rfl⟩)
        refine ⟨trivial, (fun h => by cases h), ?_⟩
        refine (pass_in _ m0 l Y k (cdiv m t.fn) false _ _ hb2 hyk (fun e W' h => h.elim (fun h => .inl h.1) (fun h => .inr h.1))).mono ?_
        have hall := HALL.out
        rintro e W3 (⟨rfl, hJ3, hk3⟩ | ⟨rfl, hJx3⟩)
        · gi_wp2
          go_roundw
          case rel =>
            refine ⟨k + 1, cdiv m t.fn, fu, pre ++ [(k, cdiv m t.fn)], rfl, by simp, by omega, by omega, by omega, by omega, ?_, hJ3, hk3 _ _ _ _ (.inr rfl) hb1, hk3 _ _ _ _ (.inl rfl) hb2⟩
            rw [HRO.out, HS.out]
            simp [pairsFrom]
          case measure => simp [intOf]; omega
        · gi_wp2
          refine bodyPost_ret (results_none rfl _ _ _) rfl ?_
          exact ⟨⟨_, rfl⟩, .inr ⟨pre ++ [(k, (cdiv m t.fn))], by rw [hall]; simp [pairsFrom], hJx3⟩⟩
  · gi_wp2
    refine bodyPost_ret (results_none rfl _ _ _) rfl ?_
    exact ⟨⟨_, rfl⟩, .inr ⟨[(0, lvs total t.ln)], by simp [rowsL, pairsFrom], hJx1⟩⟩
/-- A tree's cells, under a name. -/
def TreeV.arr (t : TreeV) : Array Value := t.val.cells
def encP (x : Nat × Nat) : Array Value := #[.int .i64 (x.1 : Nat), .int .u64 (x.2 : Nat)]
/-- each: the tree and the length are boxed; the function value captures the boxes. -/
theorem each_any (t : TreeV) (total : Nat) (w : World) : Calls Try.prog 35 #[t.val, .int .u64 total] w fun e w' =>
    e = .returned (.func (.func 51) #[] #[.pointer (some ⟨w.heap.size, 0, none⟩), .pointer (some ⟨w.heap.size + 1, 0, none⟩)]) ∧
    w' = (w.alloc (.cells t.arr 26)).alloc (.cells #[.int .u64 total] 36) := by
  unfold TreeV.val
  go_enter Try.func35, Try.ntmps35
  go_wp2
  go_ret
  exact ⟨rfl, rfl⟩
theorem shRows_any (t : TreeV) (total : Nat) (w : World) : Calls Try.prog 52 #[t.val, .int .u64 total] w fun e w' =>
    e = .returned (.func (.func 68) #[] #[.pointer (some ⟨w.heap.size + 1, 0, none⟩), .pointer (some ⟨w.heap.size, 0, none⟩)]) ∧
    w' = (w.alloc (.cells t.val.cells 26)).alloc (.cells #[.int .u64 total] 36) := by
  unfold TreeV.val
  go_enter Try.func52, Try.ntmps52
  go_wp2
  go_ret
  exact ⟨rfl, rfl⟩
theorem rows_in (n0 : Nat) (t : TreeV) (total : Nat) (w : World) : CallsIn Fence.wide n0 Try.prog 52 #[t.val, .int .u64 total] w fun e w' =>
    e = .returned (.func (.func 68) #[] #[.pointer (some ⟨w.heap.size + 1, 0, none⟩), .pointer (some ⟨w.heap.size, 0, none⟩)]) ∧
    w' = (w.alloc (.cells t.val.cells 26)).alloc (.cells #[.int .u64 total] 36) := callsIn_wide.2 (shRows_any t total w)
theorem each1_in (n0 m0 : Nat) (t : TreeV) (hl : 0 ≤ t.l ∧ t.l ≤ 4294967295) (total : Nat) (ht : (total : Int) ≤ 18446744073709551615) (hv : t.validE = 0) (l Bt Bn : Nat)
    (J Jx : List (Nat × Nat) → World → Prop) (W : World) (hJ : AbidesFrom W.heap.size J)
    (hY : ∀ pre x W, J pre W → pre ++ [x] <+: pairsFrom 0 (rowsL t.fn t.pn (lvs total t.ln)) → YieldAt Fence.wide m0 Try.prog l (encP x) W fun e W' =>
      (e = .returned (.bool true) ∧ J (pre ++ [x]) W' ∧ KpT W W') ∨ (e = .returned (.bool false) ∧ Jx (pre ++ [x]) W'))
    (h1 : W.heap[Bt]? = some (Obj.cells t.val.cells 26 (0, 0))) (h2 : W.heap[Bn]? = some (Obj.cells #[.int .u64 total] 36 (0, 0))) (h0 : J [] W) :
    CallsIn Fence.wide n0 Try.prog 51 #[.func (.yield l) #[] #[], .pointer (some ⟨Bt, 0, none⟩), .pointer (some ⟨Bn, 0, none⟩)] W fun e W' => (∃ v, e = .returned v) ∧
      ((∃ ys, ys = pairsFrom 0 (rowsL t.fn t.pn (lvs total t.ln)) ∧ J ys W') ∨ (∃ pre, pre <+: pairsFrom 0 (rowsL t.fn t.pn (lvs total t.ln)) ∧ Jx pre W')) := by
  have c0 := cell_of_heap h1 0
  have c1 := cell_of_heap h1 1
  have c2 := cell_of_heap h1 2
  have c3 := cell_of_heap h1 3
  have c4 := cell_of_heap h1 4
  have c5 := cell_of_heap h1 5
  have c6 := cell_of_heap h1 6
  have c7 := cell_of_heap h1 7
  have c8 := cell_of_heap h1 8
  have cn := cell_of_heap h2 0
  simp only [TreeV.val, Value.cells, List.getElem?_toArray, List.getElem?_cons_zero, List.getElem?_cons_succ] at c0 c1 c2 c3 c4 c5 c6 c7 c8 cn
  have b1 : Bt < W.heap.size := (Array.getElem?_eq_some_iff.1 h1).1
  have b2 : Bn < W.heap.size := (Array.getElem?_eq_some_iff.1 h2).1
  have H1 := hid h1
  have H2 := hid h2
  clear h1 h2
  refine callsIn_of_wp Try.func51 rfl trivial ?_ rfl
  simp only [Try.ntmps51, List.size_toArray, List.length_cons, List.length_nil, Nat.reduceAdd, Nat.reduceSub, Array.replicate_succ, Array.replicate_zero, List.push_toArray, List.append_toArray, List.nil_append, List.cons_append]
  gi_wp2_with fail
  refine ⟨trivial, (fun h => by cases h), ?_⟩
  refine (rows_in _ t total _).mono ?_; rintro e w2 ⟨rfl, rfl⟩
  simp only [World.size_alloc, TreeV.val, Value.cells]
  have hh1 : ((((W.alloc (Obj.cells #[.func (.yield l) #[] #[]] 101)).alloc (.cells t.val.cells 26)).alloc (.cells #[.int .u64 total] 36))).heap[W.heap.size + 1]? = some (Obj.cells t.val.cells 26 (0, 0)) := by
    rw [Below.heap_alloc _ _ _ (by simp)]
    have := World.alloc_heap_new (W.alloc (Obj.cells #[.func (.yield l) #[] #[]] 101)) (.cells t.val.cells 26)
    rwa [World.size_alloc] at this
  have hh2 : ((((W.alloc (Obj.cells #[.func (.yield l) #[] #[]] 101)).alloc (.cells t.val.cells 26)).alloc (.cells #[.int .u64 total] 36))).heap[W.heap.size + 1 + 1]? = some (Obj.cells #[.int .u64 total] 36 (0, 0)) := by
    have := World.alloc_heap_new ((W.alloc (Obj.cells #[.func (.yield l) #[] #[]] 101)).alloc (.cells t.val.cells 26)) (.cells #[.int .u64 total] 36)
    rwa [World.size_alloc, World.size_alloc] at this
  have hh3 : ((((W.alloc (Obj.cells #[.func (.yield l) #[] #[]] 101)).alloc (.cells t.val.cells 26)).alloc (.cells #[.int .u64 total] 36))).heap[W.heap.size]? = some (Obj.cells #[.func (.yield l) #[] #[]] 101 (0, 0)) := by
    rw [Below.heap_alloc _ _ _ (by simp; omega), Below.heap_alloc _ _ _ (by simp)]
    exact World.alloc_heap_new _ _
  have hj1 := hJ _ _ _ none h0 (World.grownBy_alloc W (Obj.cells #[.func (.yield l) #[] #[]] 101) none) (fun r e => by cases e)
  have hj2 := hJ _ _ _ none hj1 (World.grownBy_alloc _ (.cells t.val.cells 26) none) (fun r e => by cases e)
  have hj3 := hJ _ _ _ none hj2 (World.grownBy_alloc _ (.cells #[.int .u64 total] 36) none) (fun r e => by cases e)
  have hcall := rows1_in (n0 - 1) m0 t hl total ht hv l _ _ _ J Jx _ (fun pre x W1 hj hlen => hY pre x W1 hj hlen) hh1 hh2 hh3 hj3
  simp only [TreeV.val, Value.cells] at hcall
  clear hj1 hj2 hj3 hh1 hh2 hh3 h0 hY
  gi_wp2_with fail
  refine ⟨trivial, (fun h => by cases h), ?_⟩
  refine hcall.mono ?_
  rintro e W4 ⟨⟨v, rfl⟩, hp⟩
  clear hcall
  gi_wp2
  go_end0
  exact ⟨⟨_, rfl⟩, hp⟩
/-- A row of a tree, by its number. -/
abbrev RowAt (L : List Nat) := { k : Nat // k < L.length }
def encR (L : List Nat) (x : RowAt L) : Array Value := #[.int .i64 (x.1 : Nat), .int .u64 (nth L x.1 : Nat)]
theorem pairs_get (r : Nat) (L : List Nat) (k : Nat) (hk : k < L.length) : (pairsFrom r L)[k]? = some (r + k, nth L k) := by
  induction L generalizing r k with
  | nil => simp at hk
  | cons n l ih =>
    cases k with
    | zero => simp [pairsFrom, nth]
    | succ k =>
      have := ih (r + 1) k (by simpa using hk)
      simp only [pairsFrom, List.getElem?_cons_succ, this, nth_cons_succ]
      congr 2; omega
theorem pairs_range (L : List Nat) : pairsFrom 0 L = (List.range L.length).map (fun k => (k, nth L k)) := by
  apply List.ext_getElem?
  intro k
  by_cases hk : k < L.length
  · rw [pairs_get 0 L k hk]; simp [hk]
  · rw [List.getElem?_eq_none (by rw [pairsFrom_length]; omega), List.getElem?_eq_none (by simp; omega)]
theorem pairs_next {L : List Nat} {pre : List (Nat × Nat)} {x : Nat × Nat} (h : pre ++ [x] <+: pairsFrom 0 L) : x.1 < L.length ∧ x.2 = nth L x.1 := by
  obtain ⟨t, ht⟩ := h
  have h1 : (pairsFrom 0 L)[pre.length]? = some x := by rw [← ht]; simp
  have hl : pre.length < L.length := by
    have := congrArg List.length ht
    rw [pairsFrom_length] at this
    simp at this; omega
  rw [pairs_get 0 L _ hl] at h1
  simp only [Option.some.injEq] at h1
  subst h1
  exact ⟨by simpa using hl, by simp⟩
def rowPairs (L : List Nat) (ks : List (RowAt L)) : List (Nat × Nat) := ks.map fun k => (k.1, nth L k.1)
theorem rowPairs_all {L : List Nat} {ks : List (RowAt L)} (h : rowPairs L ks = pairsFrom 0 L) : ks.map (·.1) = List.range L.length := by
  have := congrArg (List.map (·.1)) h
  rw [pairs_range] at this
  simpa [rowPairs, Function.comp_def] using this
theorem rowPairs_some {L : List Nat} {ks : List (RowAt L)} (h : rowPairs L ks <+: pairsFrom 0 L) : ks.map (·.1) = List.range ks.length ∧ ks.length ≤ L.length := by
  have hl := h.length_le
  rw [pairsFrom_length] at hl
  have hl2 : ks.length ≤ L.length := by simpa [rowPairs] using hl
  refine ⟨?_, hl2⟩
  have h1 := List.prefix_iff_eq_take.1 h
  have := congrArg (List.map (·.1)) h1
  rw [pairs_range] at this
  simp [rowPairs, Function.comp_def, List.map_take] at this
  have this2 : ks.map (·.1) = List.range (min ks.length L.length) := this
  rw [this2, Nat.min_eq_left hl2]
/-- **each HANDS BACK A VALUE THAT 'SeqStopsK'**: all rows with their numbers, in order; or a beginning of them. -/
theorem each_stops (n0 : Nat) (t : TreeV) (hl : 0 ≤ t.l ∧ t.l ≤ 4294967295) (total : Nat) (ht : (total : Int) ≤ 18446744073709551615) (hv : t.validE = 0) (Bt Bn : Nat) (w : World)
    (h1 : w.heap[Bt]? = some (Obj.cells t.val.cells 26 (0, 0))) (h2 : w.heap[Bn]? = some (Obj.cells #[.int .u64 total] 36 (0, 0))) (L : List Nat) (hL : rowsL t.fn t.pn (lvs total t.ln) = L) :
    SeqStopsK Fence.wide n0 Try.prog 51 #[.pointer (some ⟨Bt, 0, none⟩), .pointer (some ⟨Bn, 0, none⟩)] (encR L) KpT
      (fun ys => ys.map (·.1) = List.range L.length) (fun pre => pre.map (·.1) = List.range pre.length ∧ pre.length ≤ L.length) (L.length + 1) w := by
  intro l J Jx W hW hJ hJx hY h0
  subst hL
  have hJ' : AbidesFrom W.heap.size (fun (ps : List (Nat × Nat)) W => ∃ ks : List (RowAt (rowsL t.fn t.pn (lvs total t.ln))), rowPairs _ ks = ps ∧ J ks W) :=
    fun ps A B row ⟨ks, e, hj⟩ hg hr => ⟨ks, e, hJ ks A B row hj hg hr⟩
  refine (each1_in n0 (n0 - 1) t hl total ht hv l Bt Bn (fun ps W => ∃ ks : List (RowAt (rowsL t.fn t.pn (lvs total t.ln))), rowPairs _ ks = ps ∧ J ks W)
    (fun ps W => ∃ ks : List (RowAt (rowsL t.fn t.pn (lvs total t.ln))), rowPairs _ ks = ps ∧ Jx ks W) W hJ' ?_
    ((hW.block Bt (Array.getElem?_eq_some_iff.1 h1).1).trans h1) ((hW.block Bn (Array.getElem?_eq_some_iff.1 h2).1).trans h2) ⟨[], rfl, h0⟩).mono ?_
  · rintro pre x W1 ⟨ks, rfl, hj⟩ hpre
    obtain ⟨hx1, hx2⟩ := pairs_next hpre
    have hlen : ks.length < (rowsL t.fn t.pn (lvs total t.ln)).length + 1 := by
      have := hpre.length_le
      rw [pairsFrom_length] at this
      simp [rowPairs] at this; omega
    obtain ⟨fn, tmps, assign, body, hy, hR⟩ := hY ks ⟨x.1, hx1⟩ W1 hj hlen
    refine ⟨fn, tmps, assign, body, ?_, hR.mono ?_⟩
    · rw [← hy]; simp only [encR, encP, hx2]
    · have ex : rowPairs _ (ks ++ [⟨x.1, hx1⟩]) = rowPairs _ ks ++ [x] := by simp [rowPairs, ← hx2]
      rintro e W' (⟨he, hj', hk⟩ | ⟨he, hj'⟩)
      · exact .inl ⟨he, ⟨_, ex, hj'⟩, hk⟩
      · exact .inr ⟨he, ⟨_, ex, hj'⟩⟩
  · rintro e W' ⟨hv', h⟩
    refine ⟨hv', ?_⟩
    rcases h with ⟨ys, rfl, ks, e, hj⟩ | ⟨pre, hp, ks, rfl, hj⟩
    · exact .inl ⟨ks, rowPairs_all e, hj⟩
    · exact .inr ⟨ks, rowPairs_some hp, hj⟩
end Go.Proofs.Ytchepcilkcdemaa
namespace Go.Proofs.Ytchepcilkcdemaa
open Go.ChangeShapes Go.WideShapes Go.ChangeAt Go.RowKit Go.Joins Go.Shelf Go.Maps
open Go.Lib (hid)
attribute [local go_sem] Oper.semAt_some
theorem KpT.alloc (W : World) (o : Obj) : KpT W (W.alloc o) := fun b _ _ _ _ hb => (Below.heap_alloc W o b (Array.getElem?_eq_some_iff.1 hb).1).trans hb
theorem KpT.setCell {W : World} {p : Addr} {c : Array Value} {T : TypeId} {fr : Nat × Nat} (h : W.heap[p.block]? = some (Obj.cells c T fr)) (h1 : T ≠ 101) (h2 : T ≠ 26) (u : Value) : KpT W (W.setCell p u) := by
  intro b c' fr' T' hT hb
  by_cases e : b = p.block
  · subst e
    rw [h] at hb
    cases hb
    rcases hT with rfl | rfl
    · exact absurd rfl h1
    · exact absurd rfl h2
  · exact (Below.heap_setCell W p u b e).trans hb
theorem KpT.grown {W W' : World} {row : Option Nat} (hg : W.grownBy W' row) (hr : ∀ k, row = some k → ∃ (c : Array Value) (T : TypeId) (fr : Nat × Nat), W.heap[k]? = some (Obj.cells c T fr) ∧ T ≠ 101 ∧ T ≠ 26) : KpT W W' := by
  intro b c fr T hT hb
  refine (hg.block b (Array.getElem?_eq_some_iff.1 hb).1 (fun e => ?_)).trans hb
  obtain ⟨c', T', fr', h, h1, h2⟩ := hr b e.symm
  rw [h] at hb
  cases hb
  rcases hT with rfl | rfl
  · exact absurd rfl h1
  · exact absurd rfl h2
theorem KpT.putObj (W : World) (l : Nat) (o o' : Obj) (hl : W.heap[l]? = some o) (ho : o.isCells = false) : KpT W (W.putObj l o') := by
  intro b c fr T _ hb
  refine ((grownBy_putObj' W l o').block b (Array.getElem?_eq_some_iff.1 hb).1 (fun e => ?_)).trans hb
  cases e
  rw [hl] at hb
  cases hb
  cases ho
theorem ownsRow_typed {W : World} {base : Nat} {e : TypeId} {size : Nat} {v : Value} {k : Nat} {xs : List Value} (h : W.ownsRow base e size v k xs) : ∀ g, v.ownBlock = some g → ∃ (c : Array Value) (T : TypeId) (fr : Nat × Nat), W.heap[g]? = some (Obj.cells c T fr) ∧ T = e := by
  intro g hg
  rcases h.2 with ⟨rfl, _⟩ | ⟨g', cap, cur, rfl, _, hgb, _⟩
  · simp [Value.ownBlock] at hg
  · obtain rfl : g' = g := by simpa [Value.ownBlock] using hg
    exact ⟨_, _, _, hgb, rfl⟩
theorem shRows_err (t : TreeV) (hl : 0 ≤ t.l ∧ t.l ≤ 4294967295) (total : Nat) (ht : (total : Int) ≤ 18446744073709551615) (h : t.err total ≠ 0) (w : World) :
    Calls Try.prog 16 #[t.val, .int .u64 total] w fun e w' => e = .returned (.tuple #[.slice none 0 0, .int .i64 (t.err total)]) ∧ Below w.heap.size w w' := by
  have e1 : (t.err total != 0) = true := by rw [bne_iff_ne]; exact h
  clear h
  unfold TreeV.val
  go_enter Try.func16, Try.ntmps16
  go_wp2_with fail
  refine (svalid_any t hl total ht _).mono ?_; rintro e w1 ⟨rfl, hb1⟩
  go_wp2
  go_ret2
  exact ⟨rfl, below_alloc_then _ hb1⟩
theorem range_nth (L : List Nat) : (List.range L.length).map (fun k => nth L k) = L := by
  apply List.ext_getElem?
  intro k
  by_cases hk : k < L.length
  · simp [hk, nth]
  · rw [List.getElem?_eq_none (by simp; omega), List.getElem?_eq_none (by omega)]
theorem rowAt_all {L : List Nat} {ys : List (RowAt L)} (h : ys.map (·.1) = List.range L.length) : ys.length = L.length ∧ ys.map (fun x => encU (nth L x.1)) = L.map encU := by
  constructor
  · have := congrArg List.length h
    simpa using this
  · have e : ys.map (fun x => encU (nth L x.1)) = (ys.map (·.1)).map (fun k => encU (nth L k)) := by simp
    rw [e, h]
    conv => rhs; rw [← range_nth L]
    simp
/-- What the loop of Rows has laid down so far. -/
def RowsAcc (w1 : World) (L : List Nat) (pre : List (RowAt L)) (W : World) : Prop :=
  (∃ v, Boxed W w1.heap.size 43 v ∧ W.ownsRow w1.heap.size 36 1 v pre.length (pre.map (fun x => encU (nth L x.1))) ∧ True) ∧ Below w1.heap.size w1 W
theorem RowsAcc.own {w1 : World} {L : List Nat} {B : Nat} (hB : w1.heap.size ≤ B) : OwnFrom B (RowsAcc w1 L) :=
  OwnFrom.and (Own.from (holdsRow_own w1.heap.size w1.heap.size 43 36 1 (fun pre : List (RowAt L) => pre.length) (fun pre => pre.map (fun x => encU (nth L x.1))) (fun _ _ => True)) _) (ownFrom_below (Nat.le_refl _) hB)
theorem shRows_ok (t : TreeV) (hl : 0 ≤ t.l ∧ t.l ≤ 4294967295) (total : Nat) (ht : (total : Int) ≤ 18446744073709551615) (h : t.err total = 0) (w : World) :
    Calls Try.prog 16 #[t.val, .int .u64 total] w fun e w' => ∃ v, e = .returned (.tuple #[v, .int .i64 0]) ∧
      w'.ownsRow w.heap.size 36 1 v (rowsL t.fn t.pn (lvs total t.ln)).length ((rowsL t.fn t.pn (lvs total t.ln)).map encU) ∧ Below w.heap.size w w' := by
  obtain ⟨i0, hi, hz0, hz1, hz2⟩ := info_parts info_u64
  have hv := TreeV.err_valid h
  have hN : (rowsL t.fn t.pn (lvs total t.ln)).length ≤ 256 := by
    have hvf := TreeV.valid_facts hv
    have := rowsFrom_length t.fn t.pn t.pn 1 (lvs total t.ln)
    have hp : t.pn ≤ 255 := by unfold TreeV.pn; omega
    simp only [rowsL, List.length_cons]; omega
  obtain ⟨L, hL⟩ : ∃ L, rowsL t.fn t.pn (lvs total t.ln) = L := ⟨_, rfl⟩
  rw [hL] at hN
  have H := hid h
  clear h
  rw [hL]
  refine (callsIn_wide (n := 9)).1 ?_
  refine callsIn_of_wp_marks Try.func16 rfl trivial ?_ rfl
  unfold TreeV.val
  simp only [Try.ntmps16, List.size_toArray, List.length_cons, List.length_nil, Nat.reduceAdd, Nat.reduceSub, Array.replicate_succ, Array.replicate_zero, List.push_toArray, List.append_toArray, List.nil_append, List.cons_append]
  gi_wp2_with fail
  refine ⟨trivial, ?_⟩
  refine (callsIn_wide.2 (svalid_any t hl total ht _)).mono ?_; rintro e w1 ⟨rfl, hb1⟩
  rw [H.out]
  obtain ⟨hc, -⟩ := bcell hb1
  have hs1 : w.heap.size < w1.heap.size := by have := hb1.size; simp at this; omega
  gi_wp2_with fail
  refine ⟨trivial, ?_⟩
  refine (callsIn_wide.2 (each_any t total _)).mono ?_; rintro e w2 ⟨rfl, rfl⟩
  gi_wp2_with fail
  have bO := Boxed.new w1 43 (.slice none 0 0)
  have hT : ((w1.alloc (.cells #[.slice none 0 0] 43)).alloc (.cells t.arr 26)).heap[w1.heap.size + 1]? = some (Obj.cells t.arr 26 (0, 0)) := by
    have := World.alloc_heap_new (w1.alloc (.cells #[.slice none 0 0] 43)) (.cells t.arr 26)
    rwa [World.size_alloc] at this
  have hT2 : (((w1.alloc (.cells #[.slice none 0 0] 43)).alloc (.cells t.arr 26)).alloc (.cells #[.int .u64 total] 36)).heap[w1.heap.size + 1]? = some (Obj.cells t.arr 26 (0, 0)) :=
    (Below.heap_alloc _ _ _ (by simp)).trans hT
  have hN2 : (((w1.alloc (.cells #[.slice none 0 0] 43)).alloc (.cells t.arr 26)).alloc (.cells #[.int .u64 total] 36)).heap[w1.heap.size + 1 + 1]? = some (Obj.cells #[.int .u64 total] 36 (0, 0)) := by
    have := World.alloc_heap_new ((w1.alloc (.cells #[.slice none 0 0] 43)).alloc (.cells t.arr 26)) (.cells #[.int .u64 total] 36)
    rwa [World.size_alloc, World.size_alloc] at this
  have hB0 : Below w1.heap.size w1 (((w1.alloc (.cells #[.slice none 0 0] 43)).alloc (.cells t.arr 26)).alloc (.cells #[.int .u64 total] 36)) := (((Below.refl _ w1).alloc (Nat.le_refl _) _).alloc (by simp) _).alloc (by simp; omega) _
  have bO2 := (bO.alloc (.cells t.arr 26)).alloc (.cells #[.int .u64 total] 36)
  have hst := each_stops (9 - 1) t hl total ht hv _ _ _ hT2 hN2 L hL
  refine wpIn_rangeFunc_ownG rfl (by omega) (gf := 51) (lb := #[.pointer (some ⟨w1.heap.size + 1, 0, none⟩), .pointer (some ⟨w1.heap.size + 1 + 1, 0, none⟩)]) rfl trivial (enters_of Try.func51 (by kernel_rfl) rfl)
    hst (fun h k => h.trans k) (fun W l o o' _ hl ho _ => KpT.putObj W l o o' hl ho) (Below.refl _ _) (fun _ => rfl)
    (RowsAcc w1 L)
    (fun _ _ _ => False)
    (RowsAcc.own (by simp; omega))
    (fun _ _ _ _ _ hs _ _ => hs)
    ⟨⟨_, bO2, World.ownsRow_nil _ _ _ _, trivial⟩, hB0⟩
    (fun x => { tmps := #[t.val, .int .u64 total, .pointer (some ⟨w.heap.size, 0, none⟩), undef, .slice none 0 0, .int .i64 0, .int .i64 0, .pointer (some ⟨w1.heap.size, 0, none⟩), undef, .int .u64 (nth L x.1 : Nat), t.val, .int .u64 total, .int .i64 0, .int .i64 0, .bool false, undef, t.val, .int .u64 total,
      .func (.func 51) #[] #[.pointer (some ⟨w1.heap.size + 1, 0, none⟩), .pointer (some ⟨w1.heap.size + 1 + 1, 0, none⟩)], .int .i64 (x.1 : Nat), .int .u64 (nth L x.1 : Nat), undef, undef, undef, undef, undef], defers := [] }) ?assign ?body ?done ?stop
  case assign =>
    intro l x W K hK
    simp only [encR]
    gi_wp2
    exact hK
  case body =>
    rintro l pre x W ⟨⟨v, hb, hrow, -⟩, hB⟩ hlt
    have hc := hb.cell
    have hs2 := hB.size
    gi_wp2_with (gi_at_builtin; refine wpListIn_append_own _ rfl _ _ 43 rfl w1.heap.size 36 i0 (.int .u64 0) 1 8 Try.underlying43 hi hz0 hz1 hz2 rfl (by decide) _ _ _ rfl (hrow.alloc _) ⟨W.heap.size, 0, none⟩ 1 1 [.int .u64 (nth L x.1 : Nat)] rfl rfl (cell_one_new _ _ _) (by simp [Value.oneCell']) (by unfold maxLen; omega) (by omega) (by simp; omega) ?_; intro v' w3 hown' hgrow _; obtain ⟨g', cap', rfl⟩ := ownsRow_succ hown'; obtain ⟨hv1, hv2, hr2, hk2, hb2⟩ := hb.appended (by decide) hrow hB.size (Nat.le_refl _) hown' hgrow; have hc1 := hv1.cell; have hf1 := hv1.frozen)
    have hkp : KpT W (w3.setCell ⟨w1.heap.size, 0, none⟩ (.slice (some ⟨g', 0, none⟩) (pre.length + 1) cap')) := by
      refine ((KpT.alloc W _).trans (KpT.grown hgrow (fun k e => ?_))).trans (KpT.setCell (p := ⟨w1.heap.size, 0, none⟩) hv1 (by decide) (by decide) _)
      obtain ⟨c, T, fr, hh, rfl⟩ := ownsRow_typed (hrow.alloc _) k e
      exact ⟨c, _, fr, hh, by decide, by decide⟩
    have e1 : (pre ++ [x]).length = pre.length + 1 := by rw [List.length_append]; rfl
    have e2 : (pre ++ [x]).map (fun x => encU (nth L x.1)) = pre.map (fun x => encU (nth L x.1)) ++ [.int .u64 (nth L x.1 : Nat)] := by rw [List.map_append]; rfl
    have hr3 : (w3.setCell ⟨w1.heap.size, 0, none⟩ (.slice (some ⟨g', 0, none⟩) (pre.length + 1) cap')).ownsRow w1.heap.size 36 1 (.slice (some ⟨g', 0, none⟩) (pre.length + 1) cap') (pre ++ [x]).length ((pre ++ [x]).map (fun x => encU (nth L x.1))) := by
      rw [e1, e2]; exact hr2
    exact ⟨hk2.from _, hkp, ⟨_, hv2, hr3, trivial⟩, hB.trans hb2⟩
  case done =>
    rintro D ys W hD hys ⟨⟨v, hb, hrow, -⟩, hB⟩ hK
    obtain ⟨hy1, hy2⟩ := rowAt_all hys
    have hc := hb.cell
    gi_wp2
    have hlD : w1.heap.size ≤ D := by simp at hD; omega
    refine ⟨by simp, .inl ⟨_, _, rfl, run_takeDeferred hK, ?_⟩⟩
    refine ⟨_, results_tmp2 (fn := Try.f16) (t := 4) (u := 5) rfl _ _ _, v, rfl, ?_, ?_⟩
    · have hr2 := ownsRow_putObj hrow (.deferred none) hK rfl
      rw [hy1, hy2] at hr2
      exact ownsRow_le hr2 (by omega)
    · exact (below_alloc_then _ hb1).trans ((hB.trans (belowK_b (w := w1) (Nat.le_refl _) W D _ _ hlD hK rfl rfl)).mono (by omega))
  case stop =>
    rintro D c pre W _ _ h _
    exact h.elim
end Go.Proofs.Ytchepcilkcdemaa
namespace Go.Proofs.Ytchepcilkcdemaa
open Go.ChangeShapes Go.WideShapes Go.ChangeAt Go.RowKit Go.Joins Go.Shelf Go.Maps
open Go.Lib (hid)
def sumU (l : List Nat) : Nat := l.foldl (fun s n => (s + n) % 18446744073709551616) 0
theorem sumU_snoc (l : List Nat) (n : Nat) : sumU (l ++ [n]) = (sumU l + n) % 18446744073709551616 := by simp [sumU]
theorem wrap_u64 (x : Int) : IntKind.u64.wrap x = x % 18446744073709551616 := by simp [IntKind.wrap, IntKind.bits, IntKind.signed]
theorem sumU_step (l : List Nat) (k : Nat) (hk : k < l.length) : IntKind.u64.wrap ((sumU (l.take k) : Nat) + (nth l k : Nat)) = ((sumU (l.take (k + 1)) : Nat) : Int) := by
  have e : l.take (k + 1) = l.take k ++ [nth l k] := by
    rw [List.take_succ_eq_append_getElem hk]; simp [nth, List.getElem?_eq_getElem hk]
  rw [e, sumU_snoc, wrap_u64]
  omega
theorem ownsRow_cells {w : World} {base : Nat} {e : TypeId} {L : List Nat} {n : Nat} {v : Value} (h : w.ownsRow base e 1 v n (L.map encU)) (hn : 0 < n) :
    ∃ g cap, v = .slice (some ⟨g, 0, none⟩) n cap ∧ L.length = n ∧ base ≤ g ∧ g < w.heap.size ∧ ∀ j, j < n → w.cell? ⟨g, j, none⟩ = some (.int .u64 (nth L j : Nat)) := by
  obtain ⟨g, cap, rfl⟩ := ownsRow_form h hn
  have hl := h.1
  simp at hl
  have hlt := h.lt g (by simp [Value.ownBlock])
  refine ⟨g, cap, rfl, hl, hlt.1, hlt.2, fun j hj => ?_⟩
  rw [h.cellAt j (by omega)]
  simp [encU, nth, List.getElem?_eq_getElem (show j < L.length by omega)]
theorem rowsL_len (f p n : Nat) : 0 < (rowsL f p n).length := by simp [rowsL]
theorem rowsL_len2 {t : TreeV} {total : Nat} (h : t.err total = 0) : (rowsL t.fn t.pn (lvs total t.ln)).length ≤ 256 := by
  have hvf := TreeV.valid_facts (TreeV.err_valid h)
  have := rowsFrom_length t.fn t.pn t.pn 1 (lvs total t.ln)
  have hp : t.pn ≤ 255 := by unfold TreeV.pn; omega
  simp only [rowsL, List.length_cons]; omega
theorem shNodes_ok (t : TreeV) (hl : 0 ≤ t.l ∧ t.l ≤ 4294967295) (total : Nat) (ht : (total : Int) ≤ 18446744073709551615) (h : t.err total = 0) (w : World) :
    Calls Try.prog 24 #[t.val, .int .u64 total] w fun e w' => e = .returned (.tuple #[.int .u64 (sumU (rowsL t.fn t.pn (lvs total t.ln)) : Nat), .int .i64 0]) ∧ Below w.heap.size w w' := by
  have hN := rowsL_len2 h
  have hN0 := rowsL_len t.fn t.pn (lvs total t.ln)
  have HR := hid (fun w => shRows_ok t hl total ht h w)
  clear h
  generalize rowsL t.fn t.pn (lvs total t.ln) = L at *
  unfold TreeV.val
  go_enter Try.func24, Try.ntmps24
  go_wp2_with fail
  refine (HR.out _).mono ?_; rintro e w1 ⟨v, rfl, hown, hb1⟩
  obtain ⟨g, cap, rfl, -, hg1, hg2, hcell⟩ := ownsRow_cells hown hN0
  clear hown
  go_wp2
  go_loop [8, 19] (fun s i => ∃ k : Nat, k ≤ L.length ∧ i = .int .i64 k ∧ s = .int .u64 (sumU (L.take k) : Nat)) (fun _ i => L.length - (intOf i).toNat)
  case atStart => exact ⟨0, Nat.zero_le _, rfl, rfl⟩
  case round =>
    obtain ⟨k, hk, rfl, rfl⟩ := hrel
    by_cases hlt : k < L.length
    · have hc := hcell k hlt
      have hs := hid (sumU_step L k hlt)
      clear hcell
      go_wp2
      go_round
      case rel => exact ⟨k + 1, by omega, by go_num, by rw [← hs.out]⟩
      case measure => simp [intOf]; omega
    · clear hcell
      go_wp2
      go_ret2
      exact ⟨ret_t2 (by rw [List.take_of_length_le (by omega)]), below_alloc_then _ hb1⟩
theorem shNodes_err (t : TreeV) (hl : 0 ≤ t.l ∧ t.l ≤ 4294967295) (total : Nat) (ht : (total : Int) ≤ 18446744073709551615) (h : t.err total ≠ 0) (w : World) :
    Calls Try.prog 24 #[t.val, .int .u64 total] w fun e w' => e = .returned (.tuple #[.int .u64 0, .int .i64 (t.err total)]) ∧ Below w.heap.size w w' := by
  have H := hid h
  clear h
  unfold TreeV.val
  go_enter Try.func24, Try.ntmps24
  go_wp2_with fail
  refine (shRows_err t hl total ht H.out _).mono ?_; rintro e w1 ⟨rfl, hb1⟩
  go_wp2
  go_loop [8, 19] (fun s i => i = .int .i64 0 ∧ s = .int .u64 0) (fun _ _ => 0)
  case atStart => exact ⟨rfl, rfl⟩
  case round =>
    obtain ⟨rfl, rfl⟩ := hrel
    go_wp2
    go_ret2
    exact ⟨rfl, below_alloc_then _ hb1⟩
theorem rows_awake : rowsL 2 255 (lvs 9 4) = [3, 2, 1] := by decide +kernel
end Go.Proofs.Ytchepcilkcdemaa
