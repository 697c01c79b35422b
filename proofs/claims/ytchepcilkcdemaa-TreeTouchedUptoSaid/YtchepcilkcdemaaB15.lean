/- The reference's tables of the rounds. No condition. -/
import Derived.Test.YtchepcilkcdemaaB14
import Derived.Laws.Strings
import Derived.Laws.ResultCell
set_option linter.all false
set_option maxRecDepth 100000
set_option maxHeartbeats 8000000
namespace Go.Proofs.Ytchepcilkcdemaa
open Go.ChangeShapes Go.WideShapes Go.ChangeAt Go.RowKit Go.Joins
attribute [local go_sem] Oper.semAt_some
/-- A digit's letter. -/
def chrD (n : Nat) : Nat := if n < 10 then 48 + n else 87 + n
def okTab (s : ByteArray) : Bool := (List.range 160).all fun k => match s.data[k]? with | some b => b.toNat == chrD (sigT.flatten.getD k 0) | none => false
theorem plaTab_at (i j : Nat) (hi : i < 8) (hj : j < 4) : plaTab[i * 4 + j]? = some (.int .i64 ((plaR i).getD j 0 : Nat)) := by
 have h : ∀ i < 8, ∀ j < 4, ((List.range 8).flatMap plaR)[i * 4 + j]? = some ((plaR i).getD j 0) := by decide +kernel
 unfold plaTab natV
 rw [List.getElem?_toArray, List.getElem?_map, h i hi j hj]
 rfl
theorem results_row_tmp {P : Program} {fn : Func} {p u : Tmp} {ty : TypeId} (h : fn.results = #[.cell p ty, .tmp u]) (tmps : Array Value) (w : World) (g : Nat) (t : TypeId) (cs : Array Value) (fr : Nat × Nat) (d : TypeDesc)
  (hp : tmps.getD p undef = .pointer (some ⟨g, 0, none⟩)) (hg : w.heap[g]? = some (.cells cs t fr))
  (hu : P.underlying ty = some d) (hd : (match d with | .struct _ | .array _ _ => true | _ => false) = true) (hi : (P.info? ty).map (·.size) = some cs.size) :
  (results fn tmps).run P w = .ok (.tuple #[.agg cs, tmps.getD u undef]) w := by
 rw [results_cell_tmp h, hp]
 simp [asAddr, run_loadVar_row w g t ty cs fr d hg hu hd hi]
def n4 (a b c d : Nat) (i : Nat) : Nat := match i with | 0 => a | 1 => b | 2 => c | _ => d
theorem results_tmp4 {fn : Func} {t u v x : Tmp} (h : fn.results = #[.tmp t, .tmp u, .tmp v, .tmp x]) (tmps : Array Value) (P : Program) (w : World) :
  (results fn tmps).run P w = .ok (.tuple #[tmps.getD t undef, tmps.getD u undef, tmps.getD v undef, tmps.getD x undef]) w := by
 simp [results, h]
end Go.Proofs.Ytchepcilkcdemaa
