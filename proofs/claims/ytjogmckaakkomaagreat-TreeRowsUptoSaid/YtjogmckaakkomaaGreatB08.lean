/- A region that draws its order, whose last operation waits for all others: the others in whatever order, then the last. No condition. -/
import Derived.OrdersHeld
import Derived.Deep.RegionHeld3
set_option linter.all false
set_option maxRecDepth 100000
set_option maxHeartbeats 8000000
namespace Go.Proofs.YtjogmckaakkomaaGreat
open Go
/-- Q; but where the others end, the last operation comes. -/
def ThenLast (P : Program) (ops : Array Oper) (o : Oper) (Q : Exit → Act → World → Prop) : Exit → Act → World → Prop
 | .normal, a, w => wpList P ops Q [o] a w
 | e, a, w => Q e a w
theorem wp_then {P : Program} {ops : Array Oper} {o oj : Oper} {Q : Exit → Act → World → Prop} {K : Act → World → Prop} {a : Act} {w : World} (h : oj.wp P a w K (ThenLast P ops o Q)) : oj.wp P a w K Q := by
 unfold Oper.wp at *
 generalize (execOp a.eval oj).run P w = r at *
 cases r with
 | ok n w' =>
  cases n <;> simp only [Oper.upon] at h ⊢ <;>
   first
    | exact h
    | exact Calls.mono h (fun e w'' he => by cases e <;> exact he)
    | exact Rows.mono h (fun _ _ he => he)
 | halt x w' => cases x <;> simp only [Oper.upon] at h ⊢ <;> exact h
/-- Each operation waits for earlier ones alone, and has no guard. -/
def backB (md : Region.Mode) (l : List Oper) : Bool :=
 (List.range l.length).all fun j => match l[j]? with
  | some oj => oj.guard.isNone && oj.after.all fun e => !Region.binds md e || decide (e.on < j)
  | none => true
section
variable {P : Program} {md : Region.Mode} {init : Array Oper} {o : Oper} {Q : Exit → Act → World → Prop}
theorem backB_spec (h : backB md init.toList = true) {j : Nat} {oj : Oper} (hj : init[j]? = some oj) : oj.guard = none ∧ ∀ e ∈ oj.after, Region.binds md e = true → e.on < j := by
 have hlt : j < init.size := (Array.getElem?_eq_some_iff.1 hj).1
 have h1 := List.all_eq_true.1 h j (List.mem_range.2 (by simpa using hlt))
 have hj' : init.toList[j]? = some oj := by simpa using hj
 rw [hj'] at h1
 simp only [Bool.and_eq_true, Option.isNone_iff_eq_none, Array.all_eq_true_iff_forall_mem, Bool.or_eq_true, Bool.not_eq_true', decide_eq_true_eq] at h1
 refine ⟨h1.1, fun e he hb => ?_⟩
 rcases h1.2 e he with h2 | h2
 ·rw [hb] at h2; cases h2
 ·exact h2
/-- Where none may come up, all have. -/
theorem all_listed (h : backB md init.toList = true) {listed : Array Bool} (hs : listed.size = init.size) (hr : Region.ready md init listed = []) : ∀ j, j < init.size → listed.getD j true = true := by
 intro j
 induction j using Nat.strongRecOn with
 | _ j ih =>
  intro hj
  cases hl : listed.getD j true with
  | true => rfl
  | false =>
   obtain ⟨oj, ho⟩ : ∃ oj, init[j]? = some oj := ⟨init[j], by simp [hj]⟩
   have hm : j ∈ Region.ready md init listed := mem_ready.2 ⟨hl, oj, ho, fun e he hb => by
    have hlt := (backB_spec h ho).2 e he hb
    have := ih e.on hlt (by omega)
    have hlt' : e.on < listed.size := by omega
    simp only [Array.getD_eq_getD_getElem?, Array.getElem?_eq_getElem hlt', Option.getD_some] at this ⊢
    exact this⟩
   rw [hr] at hm; cases hm
theorem getD_push_lt {l : Array Bool} {b d : Bool} {j : Nat} (h : j < l.size) : (l.push b).getD j d = l.getD j d := by
 simp only [Array.getD_eq_getD_getElem?, Array.getElem?_push, if_neg (show ¬ j = l.size by omega)]
theorem getD_true_false {l : Array Bool} {j : Nat} (h : j < l.size) : l.getD j false = l.getD j true := by
 simp only [Array.getD_eq_getD_getElem?, Array.getElem?_eq_getElem h, Option.getD_some]
end
end Go.Proofs.YtjogmckaakkomaaGreat
