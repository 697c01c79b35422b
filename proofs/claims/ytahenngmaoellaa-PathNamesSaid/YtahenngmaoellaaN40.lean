/- A path and its digests, opened out of an argument; how long its lists are at most. No condition. -/
import Derived.Test.YtahenngmaoellaaN07
import Derived.Test.YtahenngmaoellaaN03
import Derived.OpenShut
import Derived.Deep.Fields
import Derived.Deep.Slices
set_option linter.all false
set_option maxRecDepth 100000
set_option maxHeartbeats 8000000
namespace Go.Proofs.Ytahenngmaoellaa
open Go.ChangeShapes Go.WideShapes Go.ChangeAt Go.RowKit Go.Joins Go.Shelf Go.Maps Go.Deep
def nthd (ds : List (List Int)) (k : Nat) : List Int := ds.getD k []
def AllBytes (zs : List Int) : Prop := ∀ z ∈ zs, 0 ≤ z ∧ z ≤ 255
/-- Digests in memory. -/
def pRowsAt (w : World) (v : Value) (ds : List (List Int)) : Prop :=
  ∃ (a : Option Addr) (cap : Nat) (V : Nat → Value), v = .slice a ds.length cap ∧ (a = none → cap = 0) ∧ (ds = [] ∨ ∃ b off, a = some ⟨b, off, none⟩ ∧ b < w.heap.size ∧ ∀ i, i < ds.length → w.cell? ⟨b, off + i, none⟩ = some (V i) ∧ Holds8 w (V i) (nthd ds i))
def RowOk (m : Nat) (ds : List (List Int)) : Prop := ds.length ≤ m ∧ ∀ d ∈ ds, d.length ≤ m ∧ AllBytes d
abbrev StepV : Type := List (List Int) × List (List Int)
def nths (ss : List StepV) (k : Nat) : StepV := ss.getD k ([], [])
/-- A path's steps in memory. -/
def StepsAt (w : World) (v : Value) (ss : List StepV) : Prop :=
  ∃ (a : Option Addr) (cap : Nat) (U V : Nat → Value), v = .slice a ss.length cap ∧ (a = none → cap = 0) ∧ (ss = [] ∨ ∃ b off, a = some ⟨b, off, none⟩ ∧ b < w.heap.size ∧ ∀ i, i < ss.length → w.cell? ⟨b, off + i * 2, none⟩ = some (U i) ∧ w.cell? ⟨b, off + i * 2 + 1, none⟩ = some (V i) ∧ pRowsAt w (U i) (nths ss i).1 ∧ pRowsAt w (V i) (nths ss i).2)
def StepsOk (m : Nat) (ss : List StepV) : Prop := ss.length ≤ m ∧ ∀ s ∈ ss, RowOk m s.1 ∧ RowOk m s.2
theorem pRowsAt.below {w w' : World} {v : Value} {ds : List (List Int)} (h : pRowsAt w v ds) (hb : Below w.heap.size w w') : pRowsAt w' v ds := by
  obtain ⟨a, cap, V, rfl, hc, h⟩ := h
  refine ⟨a, cap, V, rfl, hc, ?_⟩
  rcases h with h | ⟨b, off, rfl, h1, h2⟩
  · exact .inl h
  · exact .inr ⟨b, off, rfl, Nat.lt_of_lt_of_le h1 hb.size, fun i hi => ⟨(hb.cell (p := ⟨b, off + i, none⟩) h1).trans (h2 i hi).1, holds8_below (h2 i hi).2 hb⟩⟩
theorem StepsAt.below {w w' : World} {v : Value} {ss : List StepV} (h : StepsAt w v ss) (hb : Below w.heap.size w w') : StepsAt w' v ss := by
  obtain ⟨a, cap, U, V, rfl, hc, h⟩ := h
  refine ⟨a, cap, U, V, rfl, hc, ?_⟩
  rcases h with h | ⟨b, off, rfl, h1, h2⟩
  · exact .inl h
  · exact .inr ⟨b, off, rfl, Nat.lt_of_lt_of_le h1 hb.size, fun i hi => ⟨(hb.cell (p := ⟨b, off + i * 2, none⟩) h1).trans (h2 i hi).1, (hb.cell (p := ⟨b, off + i * 2 + 1, none⟩) h1).trans (h2 i hi).2.1, (h2 i hi).2.2.1.below hb, (h2 i hi).2.2.2.below hb⟩⟩
section
variable {H : Type} {enc : TypeId × Value → H} {P : Program} {w : World} {base : Nat} {held : Bool}
end
section
variable {H : Type} {enc : TypeId × Value → H} {w : World} {base fuel : Nat} {held : Bool}
instance : Inhabited StepV := ⟨([], [])⟩
end
end Go.Proofs.Ytahenngmaoellaa
