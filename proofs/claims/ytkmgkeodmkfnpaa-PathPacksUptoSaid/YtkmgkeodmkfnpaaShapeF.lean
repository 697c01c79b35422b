/- The program's rows as an iterator: each of a tree and a length. No condition. -/
import Derived.Test.YtkmgkeodmkfnpaaShapeE
import Derived.RangeFuncNested
import Derived.RangeFuncBound
import Derived.RangeFuncCalls
import Derived.RangeFuncLeaves
import Derived.RangeFuncBox
import Derived.Shelf.Abstract
import Derived.Shelf.RegionOpen
import Derived.OwnWalkIn
import Derived.TacticsInMore
import Derived.LoopNIn
import Derived.LoopIn
import Derived.Lib.MinMax
namespace Go.Proofs.Ytkmgkeodmkfnpaa
open Go.ChangeShapes Go.WideShapes Go.ChangeAt Go.RowKit Go.Joins Go.Shelf
attribute [local go_sem] Oper.semAt_some

theorem room_of_none {F : Fence} (hd : F.depth = none) (k : Nat) : F.room k := fun d h => by rw [hd] at h; cases h
theorem RoundIn.anyDepth {F : Fence} (hd : F.depth = none) {m m' : Nat} {P : Program} {l : Nat} {f : FuncId} {tmps : Array Value} {assign body : Code} {w : World} {R : Ending → World → Prop}
    (h : RoundIn F m P l f tmps assign body w R) : RoundIn F m' P l f tmps assign body w R := ⟨h.1, fun c cs _ => h.2 c cs (room_of_none hd _)⟩
theorem YieldAt.anyDepth {F : Fence} (hd : F.depth = none) {m : Nat} (m' : Nat) {P : Program} {l : Nat} {args : Array Value} {W : World} {R : Ending → World → Prop} (h : YieldAt F m P l args W R) : YieldAt F m' P l args W R := by
  obtain ⟨fn, tmps, assign, body, hy, hR⟩ := h
  exact ⟨fn, tmps, assign, body, hy, RoundIn.anyDepth hd hR⟩

/-- What the iterator over rows asks of a loop's body: the boxes of trees and of yields stay. -/
def KpT (W W' : World) : Prop := ∀ (b : Nat) (c : Array Value) (fr : Nat × Nat) (T : TypeId), (T = 186 ∨ T = 26) → W.heap[b]? = some (Obj.cells c T fr) → W'.heap[b]? = some (Obj.cells c T fr)
theorem KpT.trans {A B C : World} (h : KpT A B) (k : KpT B C) : KpT A C := fun b c fr T hT hb => k b c fr T hT (h b c fr T hT hb)
theorem KpT.refl (A : World) : KpT A A := fun _ _ _ _ _ h => h

theorem cell_of_heap {W : World} {b : Nat} {c : Array Value} {T : TypeId} {fr : Nat × Nat} (h : W.heap[b]? = some (.cells c T fr)) (i : Nat) : W.cell? ⟨b, i, none⟩ = c[i]? := by simp [World.cell?, h]

/-- each's inner function: it hands the row and its number on to yield. -/
theorem pass_in (n m : Nat) (l Y r k : Nat) (bo : Bool) (W : World) (R : Ending → World → Prop)
    (hY : W.heap[Y]? = some (.cells #[.func (.yield l) #[] #[]] 186 (0, 0)))
    (hR : YieldAt Fence.wide m Try.prog l #[.int .i64 r, .int .u64 k] W R) (hRb : ∀ e W', R e W' → e = .returned (.bool true) ∨ e = .returned (.bool false)) :
    CallsIn Fence.wide n Try.prog 120 #[.int .i64 r, .int .u64 k, .bool bo, .pointer (some ⟨Y, 0, none⟩)] W R := by
  have hc := cell_of_heap hY 0
  obtain ⟨fn, tmps, assign, body, hy, hR⟩ := YieldAt.anyDepth (m' := n - 1) rfl hR
  refine callsIn_of_wp Try.func120 rfl trivial ?_ rfl
  simp only [Try.ntmps120, List.size_toArray, List.length_cons, List.length_nil, Nat.reduceAdd, Nat.reduceSub, Array.replicate_succ, Array.replicate_zero, List.push_toArray, List.append_toArray, List.nil_append, List.cons_append]
  gi_wp2
  refine ⟨(fun h => by cases h), ?_⟩
  refine hR.mono ?_
  intro e W' h
  rcases hRb e W' h with rfl | rfl
  · gi_wp2
    exact h
  · gi_wp2
    exact h

/-- ceil, in a fence. -/
theorem ceil_in (n0 n d : Nat) (hn : (n : Int) ≤ 18446744073709551615) (hd : 1 ≤ d) (hd2 : (d : Int) ≤ 18446744073709551615) (w : World) :
    CallsIn Fence.wide n0 Try.prog 117 #[.int .u64 n, .int .u64 d] w fun e w' => e = .returned (.int .u64 (cdiv n d)) ∧ w = w' := callsIn_wide.2 (ceil_any n d hn hd hd2 w)

/-- What the iterator's loop knows at its head. -/
def IterRel (f p N : Nat) (Bt Y l : Nat) (tc : Array Value) (J : List (Nat × Nat) → World → Prop) (n r : Value) (wr : World) : Prop :=
  ∃ (k m fuel : Nat) (pre : List (Nat × Nat)), n = .int .u64 m ∧ r = .int .i64 k ∧ 1 ≤ k ∧ k + 1 ≤ p ∧ p ≤ fuel + k ∧ (m : Int) ≤ 18446744073709551615 ∧
    pairsFrom 0 (rowsL f p N) = pre ++ pairsFrom k (rowsFrom f p fuel k m) ∧ J pre wr ∧ wr.heap[Bt]? = some (Obj.cells tc 26 (0, 0)) ∧
    wr.heap[Y]? = some (Obj.cells #[.func (.yield l) #[] #[]] 186 (0, 0))

set_option maxRecDepth 100000 in
set_option maxHeartbeats 2000000 in
/-- rows' inner function, over each's. -/
theorem rows1_in (n0 m0 : Nat) (t : TreeV) (hl : 0 ≤ t.l ∧ t.l ≤ 4294967295) (total : Nat) (ht : (total : Int) ≤ 18446744073709551615) (hv : t.validE = 0) (l Bt Bn Y : Nat)
    (J Jx : List (Nat × Nat) → World → Prop) (W : World)
    (hY : ∀ pre x W, J pre W → pre ++ [x] <+: pairsFrom 0 (rowsL t.fn t.pn (lvs total t.ln)) → YieldAt Fence.wide m0 Try.prog l #[.int .i64 (x.1 : Nat), .int .u64 (x.2 : Nat)] W fun e W' =>
      (e = .returned (.bool true) ∧ J (pre ++ [x]) W' ∧ KpT W W') ∨ (e = .returned (.bool false) ∧ Jx (pre ++ [x]) W'))
    (h1 : W.heap[Bt]? = some (Obj.cells t.val.cells 26 (0, 0))) (h2 : W.heap[Bn]? = some (Obj.cells #[.int .u64 total] 27 (0, 0)))
    (h3 : W.heap[Y]? = some (Obj.cells #[.func (.yield l) #[] #[]] 186 (0, 0))) (h0 : J [] W) :
    CallsIn Fence.wide n0 Try.prog 131 #[.func (.func 120) #[] #[.pointer (some ⟨Y, 0, none⟩)], .pointer (some ⟨Bn, 0, none⟩), .pointer (some ⟨Bt, 0, none⟩)] W fun e W' => (∃ v, e = .returned v) ∧
      ((∃ ys, ys = pairsFrom 0 (rowsL t.fn t.pn (lvs total t.ln)) ∧ J ys W') ∨ (∃ pre, pre <+: pairsFrom 0 (rowsL t.fn t.pn (lvs total t.ln)) ∧ Jx pre W')) := by
  have hvf := TreeV.valid_facts hv
  obtain ⟨-, -, -, -, -, hf, hp2, hp3, hl0, -, -, -⟩ := hvf
  have hl1 : 1 ≤ t.ln := by unfold TreeV.ln; omega
  have hl2 : (t.ln : Int) ≤ 18446744073709551615 := by unfold TreeV.ln; omega
  have hlv := lvs_le total t.ln hl1 ht
  have hpn : t.p = (t.pn : Int) := by unfold TreeV.pn; omega
  have hfn : t.f = (t.fn : Int) := by unfold TreeV.fn; omega
  have hln : t.l = (t.ln : Int) := by unfold TreeV.ln; omega
  have hp4 : 2 ≤ t.pn := by omega
  have hp5 : t.pn ≤ 255 := by omega
  have hf3 : t.fn ≤ 255 := by omega
  have hmx : Hid ((lvs total t.ln : Int) = max 1 (cdiv total t.ln : Int)) := by show _ = _; unfold lvs; omega
  have c2 : W.cell? ⟨Bt, 2, none⟩ = some (.int .i64 t.fn) := by rw [cell_of_heap h1, ← hfn]; rfl
  have c3 : W.cell? ⟨Bt, 3, none⟩ = some (.int .i64 t.pn) := by rw [cell_of_heap h1, ← hpn]; rfl
  have c4 : W.cell? ⟨Bt, 4, none⟩ = some (.int .u32 t.ln) := by rw [cell_of_heap h1, ← hln]; rfl
  have c0 := cell_of_heap h2 0
  have HF := Lib.hid hfn
  have HP := Lib.hid hpn
  have HV := Lib.hid hv
  clear hpn hfn hln hv hf hl0
  refine callsIn_of_wp Try.func131 rfl trivial ?_ rfl
  simp only [Try.ntmps131, List.size_toArray, List.length_cons, List.length_nil, Nat.reduceAdd, Nat.reduceSub, Array.replicate_succ, Array.replicate_zero, List.push_toArray, List.append_toArray, List.nil_append, List.cons_append]
  have hy0 := hY [] (0, lvs total t.ln) W h0 (by simp [rowsL, pairsFrom])
  have H1 := Lib.hid h1
  have H2 := Lib.hid h2
  have H3 := Lib.hid h3
  clear h1 h2 h3
  gi_wp2_with fail
  refine ⟨trivial, (fun h => by cases h), ?_⟩
  refine (ceil_in _ total t.ln ht hl1 hl2 _).mono ?_; rintro e w2 ⟨rfl, rfl⟩
  gi_wp2_with fail
  rw [← hmx.out]
  refine ⟨trivial, (fun h => by cases h), ?_⟩
  refine (pass_in _ m0 l Y 0 (lvs total t.ln) false _ _ H3.out hy0 (fun e W' h => h.elim (fun h => .inl h.1) (fun h => .inr h.1))).mono ?_
  rintro e W1 (⟨rfl, hJ1, hk1⟩ | ⟨rfl, hJx1⟩)
  · gi_wp2
    gi_loopw [4, 5] (fun n r wr => IterRel t.fn t.pn (lvs total t.ln) Bt Y l t.val.cells J n r wr) (fun _ r _ => t.pn - (intOf r).toNat)
    case atStart =>
      exact ⟨1, lvs total t.ln, t.pn, [(0, lvs total t.ln)], rfl, rfl, Nat.le_refl _, by omega, by omega, hlv, rfl, hJ1, hk1 _ _ _ _ (.inr rfl) H1.out, hk1 _ _ _ _ (.inl rfl) H3.out⟩
    case round =>
      obtain ⟨k, m, fuel, pre, rfl, rfl, hk1, hk2, hfu, hm, hro, hJs, hb1, hb2⟩ := hrel
      have c2 : wr.cell? ⟨Bt, 2, none⟩ = some (.int .i64 t.fn) := by rw [cell_of_heap hb1, ← HF.out]; rfl
      have c3 : wr.cell? ⟨Bt, 3, none⟩ = some (.int .i64 t.pn) := by rw [cell_of_heap hb1, ← HP.out]; rfl
      have HRO := Lib.hid hro
      have hfu1 : 1 ≤ fuel := by omega
      clear hro
      by_cases hf0 : t.fn = 0
      · have HS := Lib.hid (rowsFrom_stop (m := m) hfu1 (.inl hf0 : t.fn = 0 ∨ k = t.pn - 1))
        have hall : pairsFrom 0 (rowsL t.fn t.pn (lvs total t.ln)) = pre ++ [(k, 1)] := by rw [HRO.out, HS.out]; rfl
        have hlen : pre ++ [(k, 1)] <+: pairsFrom 0 (rowsL t.fn t.pn (lvs total t.ln)) := by rw [hall]; simp
        have hyk := hY pre (k, 1) wr hJs hlen
        have HALL := Lib.hid hall
        clear hall
        have e1 : ((t.fn : Int) == 0) = true := by rw [beq_iff_eq]; omega
        clear hf0
        gi_wp2_with fail
        refine ⟨trivial, (fun h => by cases h), ?_⟩
        refine (pass_in _ m0 l Y k 1 true _ _ hb2 hyk (fun e W' h => h.elim (fun h => .inl h.1) (fun h => .inr h.1))).mono ?_
        have hall := HALL.out
        rintro e W3 (⟨rfl, hJ3, hk3⟩ | ⟨rfl, hJx3⟩)
        · gi_wp2
          refine bodyPost_ret (results_none rfl _ _ _) rfl ?_
          refine ⟨⟨_, rfl⟩, .inl ⟨_, rfl, ?_⟩⟩
          rw [hall]
          exact hJ3
        · gi_wp2
          refine bodyPost_ret (results_none rfl _ _ _) rfl ?_
          exact ⟨⟨_, rfl⟩, .inr ⟨pre ++ [(k, 1)], by rw [hall]; simp, hJx3⟩⟩
      have e1 : ((t.fn : Int) == 0) = false := by rw [beq_eq_false_iff_ne]; omega
      by_cases hrp : k = t.pn - 1
      · have HS := Lib.hid (rowsFrom_stop (m := m) hfu1 (.inr hrp : t.fn = 0 ∨ k = t.pn - 1))
        have hall : pairsFrom 0 (rowsL t.fn t.pn (lvs total t.ln)) = pre ++ [(k, 1)] := by rw [HRO.out, HS.out]; rfl
        have hlen : pre ++ [(k, 1)] <+: pairsFrom 0 (rowsL t.fn t.pn (lvs total t.ln)) := by rw [hall]; simp
        have hyk := hY pre (k, 1) wr hJs hlen
        have HALL := Lib.hid hall
        clear hall
        have e2 : ((k : Int) == (t.pn : Int) - 1) = true := by rw [beq_iff_eq]; omega
        clear hf0 hrp
        gi_wp2_with fail
        refine ⟨trivial, (fun h => by cases h), ?_⟩
        refine (pass_in _ m0 l Y k 1 true _ _ hb2 hyk (fun e W' h => h.elim (fun h => .inl h.1) (fun h => .inr h.1))).mono ?_
        have hall := HALL.out
        rintro e W3 (⟨rfl, hJ3, hk3⟩ | ⟨rfl, hJx3⟩)
        · gi_wp2
          refine bodyPost_ret (results_none rfl _ _ _) rfl ?_
          refine ⟨⟨_, rfl⟩, .inl ⟨_, rfl, ?_⟩⟩
          rw [hall]
          exact hJ3
        · gi_wp2
          refine bodyPost_ret (results_none rfl _ _ _) rfl ?_
          exact ⟨⟨_, rfl⟩, .inr ⟨pre ++ [(k, 1)], by rw [hall]; simp, hJx3⟩⟩
      have e2 : ((k : Int) == (t.pn : Int) - 1) = false := by rw [beq_eq_false_iff_ne]; omega
      have hns : ¬ (t.fn = 0 ∨ k = t.pn - 1) := fun h => h.elim hf0 hrp
      have hcd := cdiv_le (n := m) (show 1 ≤ t.fn by omega)
      have hf1 : 1 ≤ t.fn := by omega
      have hk3' : k + 2 ≤ t.pn := by omega
      by_cases h1 : cdiv m t.fn = 1
      · have HS := Lib.hid (rowsFrom_one hfu1 hns h1)
        have H1' := Lib.hid h1
        have hall : pairsFrom 0 (rowsL t.fn t.pn (lvs total t.ln)) = pre ++ [(k, (cdiv m t.fn))] := by rw [HRO.out, HS.out, H1'.out]; rfl
        have hlen : pre ++ [(k, (cdiv m t.fn))] <+: pairsFrom 0 (rowsL t.fn t.pn (lvs total t.ln)) := by rw [hall]; simp
        have hyk := hY pre (k, (cdiv m t.fn)) wr hJs hlen
        have HALL := Lib.hid hall
        clear hall
        have e3 : ((cdiv m t.fn : Int) == 1) = true := by rw [beq_iff_eq]; omega
        clear hf0 hrp hns h1
        gi_wp2_with (refine ⟨trivial, (fun h => by cases h), ?_⟩; gi_at_call 117; refine (ceil_in _ m t.fn hm hf1 (by omega) _).mono ?_; rintro e w2 ⟨rfl, rfl⟩)
        refine ⟨trivial, (fun h => by cases h), ?_⟩
        refine (pass_in _ m0 l Y k (cdiv m t.fn) true _ _ hb2 hyk (fun e W' h => h.elim (fun h => .inl h.1) (fun h => .inr h.1))).mono ?_
        have hall := HALL.out
        rintro e W3 (⟨rfl, hJ3, hk3⟩ | ⟨rfl, hJx3⟩)
        · gi_wp2
          refine bodyPost_ret (results_none rfl _ _ _) rfl ?_
          refine ⟨⟨_, rfl⟩, .inl ⟨_, rfl, ?_⟩⟩
          rw [hall]
          exact hJ3
        · gi_wp2
          refine bodyPost_ret (results_none rfl _ _ _) rfl ?_
          exact ⟨⟨_, rfl⟩, .inr ⟨pre ++ [(k, (cdiv m t.fn))], by rw [hall]; simp, hJx3⟩⟩
      · obtain ⟨fu, rfl⟩ : ∃ fu, fuel = fu + 1 := ⟨fuel - 1, by omega⟩
        have HS := Lib.hid (rowsFrom_more (fuel := fu) hns h1)
        have hall : pairsFrom 0 (rowsL t.fn t.pn (lvs total t.ln)) = pre ++ pairsFrom k (cdiv m t.fn :: rowsFrom t.fn t.pn fu (k + 1) (cdiv m t.fn)) := by rw [HRO.out, HS.out]
        have hlen : pre ++ [(k, (cdiv m t.fn))] <+: pairsFrom 0 (rowsL t.fn t.pn (lvs total t.ln)) := by rw [hall]; simp [pairsFrom]
        have hyk := hY pre (k, (cdiv m t.fn)) wr hJs hlen
        have HALL := Lib.hid hall
        clear hall
        have e3 : ((cdiv m t.fn : Int) == 1) = false := by rw [beq_eq_false_iff_ne]; omega
        clear hf0 hrp hns h1
        gi_wp2_with (refine ⟨trivial, (fun h => by cases h), ?_⟩; gi_at_call 117; refine (ceil_in _ m t.fn hm hf1 (by omega) _).mono ?_; rintro e w2 ⟨rfl, rfl⟩)
        refine ⟨trivial, (fun h => by cases h), ?_⟩
        refine (pass_in _ m0 l Y k (cdiv m t.fn) false _ _ hb2 hyk (fun e W' h => h.elim (fun h => .inl h.1) (fun h => .inr h.1))).mono ?_
        have hall := HALL.out
        rintro e W3 (⟨rfl, hJ3, hk3⟩ | ⟨rfl, hJx3⟩)
        · gi_wp2
          go_roundw
          case rel =>
            refine ⟨k + 1, cdiv m t.fn, fu, pre ++ [(k, cdiv m t.fn)], rfl, by simp, by omega, by omega, by omega, by omega, ?_, hJ3, hk3 _ _ _ _ (.inr rfl) hb1, hk3 _ _ _ _ (.inl rfl) hb2⟩
            rw [HRO.out, HS.out]
            simp [pairsFrom]
          case measure => simp [intOf]; omega
        · gi_wp2
          refine bodyPost_ret (results_none rfl _ _ _) rfl ?_
          exact ⟨⟨_, rfl⟩, .inr ⟨pre ++ [(k, (cdiv m t.fn))], by rw [hall]; simp [pairsFrom], hJx3⟩⟩
  · gi_wp2
    refine bodyPost_ret (results_none rfl _ _ _) rfl ?_
    exact ⟨⟨_, rfl⟩, .inr ⟨[(0, lvs total t.ln)], by simp [rowsL, pairsFrom], hJx1⟩⟩
end Go.Proofs.Ytkmgkeodmkfnpaa
