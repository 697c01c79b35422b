/-
  No cell of these rows narrows 'for every input' (looked for: loops, veiled, ifaces, maps, wideKeys, modest, calm, conditions, laid).
  DERIVED. THE GIVEN ROWS OF THIS SEAT. 12 by the template 'for every input the law returns true; each argument reads behind the call as it read before'; 0 by the template 'total and deterministic' (their statements: YtcjmjmmajckjhaaTotals.lean).
  GIVEN WITH THE SEED: the statements are not yours to turn. If you find one false, say at which input.
  Laid BY PROGRAM, IN A SANDBOX (cutbox-rows.mjs): the forced cells as the released guide's own fill.sh prints them over the translation 76c56d3e14d93717… (all of the seat's roots in one cut). By AI agents, Wed Nov 11 2026. No macro, syntax, notation, axiom, sorry.
-/
import Derived.Test.YtcjmjmmajckjhaaChecked
import GoSem.Claim
import GoSem.ClaimJoined
import GoSem.ClaimMapViews
import Derived.JoinedTies
import Derived.KernelRfl
namespace Go.Proofs.Ytcjmjmmajckjhaa
/- THE CELL 'sum', in the pinned program and in every row, IS THE sha256 OF THE DUMP (.gsa) THAT YtcjmjmmajckjhaaProg.lean LOADS. Nothing in Lean hashes anything: it is a label: what it is worth is what the hold of that sum in a sandbox is worth. -/
noncomputable def Try.pinned : Pinned := { name := "ytcjmjmmajckjhaa", sum := "76c56d3e14d93717c410646771196f0dcf433129d93ab0ce9523431ccfe9e797", checked := Try.checked }
namespace Rows
def none {H : Type} : Left H := { results := [], args := [] }

/-- 'quernlaw15.PoolNames': WHATEVER THE INPUT: true; the input reads as it did. -/
def poolNamesSpec : ChangeSpec := { name := "poolNames", fn := fun _ => fun
  | [] => { results := [.lit (.bool true)], args := [] }
  | _ => none }
def poolNamesRow : OpenClaim := { program := "ytcjmjmmajckjhaa", sum := "76c56d3e14d93717c410646771196f0dcf433129d93ab0ce9523431ccfe9e797", func := "quern/quernlaw15.PoolNames", spec := "poolNames", apart := false }
def PoolNamesSaid : Prop := poolNamesRow.holds Try.pinned (OpenSpec.ofChange poolNamesSpec)

/-- ITS FALSE NEIGHBOUR: 'it returns false'. Refute it at one input. -/
def poolNamesWrong : ChangeSpec := { name := "poolNames", fn := fun _ => fun
  | [] => { results := [.lit (.bool false)], args := [] }
  | _ => none }
def PoolNamesWrongFalsely : Prop := poolNamesRow.holds Try.pinned (OpenSpec.ofChange poolNamesWrong)

/-- 'quernlaw18.SliceZero': WHATEVER THE INPUT: true; the input reads as it did. -/
def sliceZeroSpec : ChangeSpec := { name := "sliceZero", fn := fun _ => fun
  | [d] => { results := [.lit (.bool true)], args := [d] }
  | _ => none }
def sliceZeroRow : OpenClaim := { program := "ytcjmjmmajckjhaa", sum := "76c56d3e14d93717c410646771196f0dcf433129d93ab0ce9523431ccfe9e797", func := "quern/quernlaw18.SliceZero", spec := "sliceZero", unfollowed := true, recurses := true, apart := false }
def SliceZeroSaid : Prop := sliceZeroRow.holds Try.pinned (OpenSpec.ofChange sliceZeroSpec)

/-- ITS FALSE NEIGHBOUR: 'it returns false'. Refute it at one input. -/
def sliceZeroWrong : ChangeSpec := { name := "sliceZero", fn := fun _ => fun
  | [d] => { results := [.lit (.bool false)], args := [d] }
  | _ => none }
def SliceZeroWrongFalsely : Prop := sliceZeroRow.holds Try.pinned (OpenSpec.ofChange sliceZeroWrong)

/-- 'quernlaw09.ShapeNames': WHATEVER THE INPUT: true; the input reads as it did. -/
def shapeNamesSpec : ChangeSpec := { name := "shapeNames", fn := fun _ => fun
  | [] => { results := [.lit (.bool true)], args := [] }
  | _ => none }
def shapeNamesRow : OpenClaim := { program := "ytcjmjmmajckjhaa", sum := "76c56d3e14d93717c410646771196f0dcf433129d93ab0ce9523431ccfe9e797", func := "quern/quernlaw09.ShapeNames", spec := "shapeNames", unfollowed := true, recurses := true, apart := false }
def ShapeNamesSaid : Prop := shapeNamesRow.holds Try.pinned (OpenSpec.ofChange shapeNamesSpec)

/-- ITS FALSE NEIGHBOUR: 'it returns false'. Refute it at one input. -/
def shapeNamesWrong : ChangeSpec := { name := "shapeNames", fn := fun _ => fun
  | [] => { results := [.lit (.bool false)], args := [] }
  | _ => none }
def ShapeNamesWrongFalsely : Prop := shapeNamesRow.holds Try.pinned (OpenSpec.ofChange shapeNamesWrong)

/-- 'quernlaw15.PoolSystems': WHATEVER THE INPUT: true; the input reads as it did. -/
def poolSystemsSpec : ChangeSpec := { name := "poolSystems", fn := fun _ => fun
  | [d1, d2] => { results := [.lit (.bool true)], args := [d1, d2] }
  | _ => none }
def poolSystemsRow : OpenClaim := { program := "ytcjmjmmajckjhaa", sum := "76c56d3e14d93717c410646771196f0dcf433129d93ab0ce9523431ccfe9e797", func := "quern/quernlaw15.PoolSystems", spec := "poolSystems", apart := false }
def PoolSystemsSaid : Prop := poolSystemsRow.holds Try.pinned (OpenSpec.ofChange poolSystemsSpec)

/-- ITS FALSE NEIGHBOUR: 'it returns false'. Refute it at one input. -/
def poolSystemsWrong : ChangeSpec := { name := "poolSystems", fn := fun _ => fun
  | [d1, d2] => { results := [.lit (.bool false)], args := [d1, d2] }
  | _ => none }
def PoolSystemsWrongFalsely : Prop := poolSystemsRow.holds Try.pinned (OpenSpec.ofChange poolSystemsWrong)

/-- 'quernlaw15.PoolQuiet': WHATEVER THE INPUT: true; the input reads as it did. -/
def poolQuietSpec : ChangeSpec := { name := "poolQuiet", fn := fun _ => fun
  | [d1, d2, d3] => { results := [.lit (.bool true)], args := [d1, d2, d3] }
  | _ => none }
def poolQuietRow : OpenClaim := { program := "ytcjmjmmajckjhaa", sum := "76c56d3e14d93717c410646771196f0dcf433129d93ab0ce9523431ccfe9e797", func := "quern/quernlaw15.PoolQuiet", spec := "poolQuiet", apart := false }
def PoolQuietSaid : Prop := poolQuietRow.holds Try.pinned (OpenSpec.ofChange poolQuietSpec)

/-- ITS FALSE NEIGHBOUR: 'it returns false'. Refute it at one input. -/
def poolQuietWrong : ChangeSpec := { name := "poolQuiet", fn := fun _ => fun
  | [d1, d2, d3] => { results := [.lit (.bool false)], args := [d1, d2, d3] }
  | _ => none }
def PoolQuietWrongFalsely : Prop := poolQuietRow.holds Try.pinned (OpenSpec.ofChange poolQuietWrong)

/-- 'quernlaw09.ShapeValid': WHATEVER THE INPUT: true; the input reads as it did. -/
def shapeValidSpec : ChangeSpec := { name := "shapeValid", fn := fun _ => fun
  | [d] => { results := [.lit (.bool true)], args := [d] }
  | _ => none }
def shapeValidRow : OpenClaim := { program := "ytcjmjmmajckjhaa", sum := "76c56d3e14d93717c410646771196f0dcf433129d93ab0ce9523431ccfe9e797", func := "quern/quernlaw09.ShapeValid", spec := "shapeValid", unfollowed := true, recurses := true, apart := false }
def ShapeValidSaid : Prop := shapeValidRow.holds Try.pinned (OpenSpec.ofChange shapeValidSpec)

/-- ITS FALSE NEIGHBOUR: 'it returns false'. Refute it at one input. -/
def shapeValidWrong : ChangeSpec := { name := "shapeValid", fn := fun _ => fun
  | [d] => { results := [.lit (.bool false)], args := [d] }
  | _ => none }
def ShapeValidWrongFalsely : Prop := shapeValidRow.holds Try.pinned (OpenSpec.ofChange shapeValidWrong)

/-- 'quernlaw09.ShapeRows': WHATEVER THE INPUT: true; the input reads as it did. -/
def shapeRowsSpec : ChangeSpec := { name := "shapeRows", fn := fun _ => fun
  | [d1, d2] => { results := [.lit (.bool true)], args := [d1, d2] }
  | _ => none }
def shapeRowsRow : OpenClaim := { program := "ytcjmjmmajckjhaa", sum := "76c56d3e14d93717c410646771196f0dcf433129d93ab0ce9523431ccfe9e797", func := "quern/quernlaw09.ShapeRows", spec := "shapeRows", unfollowed := true, recurses := true, apart := false }
def ShapeRowsSaid : Prop := shapeRowsRow.holds Try.pinned (OpenSpec.ofChange shapeRowsSpec)

/-- ITS FALSE NEIGHBOUR: 'it returns false'. Refute it at one input. -/
def shapeRowsWrong : ChangeSpec := { name := "shapeRows", fn := fun _ => fun
  | [d1, d2] => { results := [.lit (.bool false)], args := [d1, d2] }
  | _ => none }
def ShapeRowsWrongFalsely : Prop := shapeRowsRow.holds Try.pinned (OpenSpec.ofChange shapeRowsWrong)

/-- 'quernlaw09.ShapeMost': WHATEVER THE INPUT: true; the input reads as it did. -/
def shapeMostSpec : ChangeSpec := { name := "shapeMost", fn := fun _ => fun
  | [d1, d2] => { results := [.lit (.bool true)], args := [d1, d2] }
  | _ => none }
def shapeMostRow : OpenClaim := { program := "ytcjmjmmajckjhaa", sum := "76c56d3e14d93717c410646771196f0dcf433129d93ab0ce9523431ccfe9e797", func := "quern/quernlaw09.ShapeMost", spec := "shapeMost", unfollowed := true, recurses := true, apart := false }
def ShapeMostSaid : Prop := shapeMostRow.holds Try.pinned (OpenSpec.ofChange shapeMostSpec)

/-- ITS FALSE NEIGHBOUR: 'it returns false'. Refute it at one input. -/
def shapeMostWrong : ChangeSpec := { name := "shapeMost", fn := fun _ => fun
  | [d1, d2] => { results := [.lit (.bool false)], args := [d1, d2] }
  | _ => none }
def ShapeMostWrongFalsely : Prop := shapeMostRow.holds Try.pinned (OpenSpec.ofChange shapeMostWrong)

/-- 'quernlaw09.ShapeEdges': WHATEVER THE INPUT: true; the input reads as it did. -/
def shapeEdgesSpec : ChangeSpec := { name := "shapeEdges", fn := fun _ => fun
  | [d1, d2] => { results := [.lit (.bool true)], args := [d1, d2] }
  | _ => none }
def shapeEdgesRow : OpenClaim := { program := "ytcjmjmmajckjhaa", sum := "76c56d3e14d93717c410646771196f0dcf433129d93ab0ce9523431ccfe9e797", func := "quern/quernlaw09.ShapeEdges", spec := "shapeEdges", unfollowed := true, recurses := true, apart := false }
def ShapeEdgesSaid : Prop := shapeEdgesRow.holds Try.pinned (OpenSpec.ofChange shapeEdgesSpec)

/-- ITS FALSE NEIGHBOUR: 'it returns false'. Refute it at one input. -/
def shapeEdgesWrong : ChangeSpec := { name := "shapeEdges", fn := fun _ => fun
  | [d1, d2] => { results := [.lit (.bool false)], args := [d1, d2] }
  | _ => none }
def ShapeEdgesWrongFalsely : Prop := shapeEdgesRow.holds Try.pinned (OpenSpec.ofChange shapeEdgesWrong)

/-- 'quernlaw09.ShapeSpots': WHATEVER THE INPUT: true; the input reads as it did. -/
def shapeSpotsSpec : ChangeSpec := { name := "shapeSpots", fn := fun _ => fun
  | [d1, d2, d3, d4] => { results := [.lit (.bool true)], args := [d1, d2, d3, d4] }
  | _ => none }
def shapeSpotsRow : OpenClaim := { program := "ytcjmjmmajckjhaa", sum := "76c56d3e14d93717c410646771196f0dcf433129d93ab0ce9523431ccfe9e797", func := "quern/quernlaw09.ShapeSpots", spec := "shapeSpots", unfollowed := true, recurses := true, apart := false }
def ShapeSpotsSaid : Prop := shapeSpotsRow.holds Try.pinned (OpenSpec.ofChange shapeSpotsSpec)

/-- ITS FALSE NEIGHBOUR: 'it returns false'. Refute it at one input. -/
def shapeSpotsWrong : ChangeSpec := { name := "shapeSpots", fn := fun _ => fun
  | [d1, d2, d3, d4] => { results := [.lit (.bool false)], args := [d1, d2, d3, d4] }
  | _ => none }
def ShapeSpotsWrongFalsely : Prop := shapeSpotsRow.holds Try.pinned (OpenSpec.ofChange shapeSpotsWrong)

/-- 'quernlaw09.ShapeTiles': WHATEVER THE INPUT: true; the input reads as it did. -/
def shapeTilesSpec : ChangeSpec := { name := "shapeTiles", fn := fun _ => fun
  | [d1, d2, d3, d4] => { results := [.lit (.bool true)], args := [d1, d2, d3, d4] }
  | _ => none }
def shapeTilesRow : OpenClaim := { program := "ytcjmjmmajckjhaa", sum := "76c56d3e14d93717c410646771196f0dcf433129d93ab0ce9523431ccfe9e797", func := "quern/quernlaw09.ShapeTiles", spec := "shapeTiles", unfollowed := true, recurses := true, apart := false }
def ShapeTilesSaid : Prop := shapeTilesRow.holds Try.pinned (OpenSpec.ofChange shapeTilesSpec)

/-- ITS FALSE NEIGHBOUR: 'it returns false'. Refute it at one input. -/
def shapeTilesWrong : ChangeSpec := { name := "shapeTiles", fn := fun _ => fun
  | [d1, d2, d3, d4] => { results := [.lit (.bool false)], args := [d1, d2, d3, d4] }
  | _ => none }
def ShapeTilesWrongFalsely : Prop := shapeTilesRow.holds Try.pinned (OpenSpec.ofChange shapeTilesWrong)

/-- 'quernlaw09.ShapeParams': WHATEVER THE INPUT: true; the input reads as it did. -/
def shapeParamsSpec : ChangeSpec := { name := "shapeParams", fn := fun _ => fun
  | [d1, d2, d3, d4] => { results := [.lit (.bool true)], args := [d1, d2, d3, d4] }
  | _ => none }
def shapeParamsRow : OpenClaim := { program := "ytcjmjmmajckjhaa", sum := "76c56d3e14d93717c410646771196f0dcf433129d93ab0ce9523431ccfe9e797", func := "quern/quernlaw09.ShapeParams", spec := "shapeParams", unfollowed := true, recurses := true, apart := false }
def ShapeParamsSaid : Prop := shapeParamsRow.holds Try.pinned (OpenSpec.ofChange shapeParamsSpec)

/-- ITS FALSE NEIGHBOUR: 'it returns false'. Refute it at one input. -/
def shapeParamsWrong : ChangeSpec := { name := "shapeParams", fn := fun _ => fun
  | [d1, d2, d3, d4] => { results := [.lit (.bool false)], args := [d1, d2, d3, d4] }
  | _ => none }
def ShapeParamsWrongFalsely : Prop := shapeParamsRow.holds Try.pinned (OpenSpec.ofChange shapeParamsWrong)

/- THE SECOND FORM. 'bulk': how many values and letters a reading holds, each counted each time it is reached (what is shared counts as often as it is met; a slice's spare places count too). A statement '..UptoSaid' is the law's where the arguments, and the package variables that the reading takes, are together of bulk at most 1048576: NARROWER than '..Said'. Prove '..Said' where nothing that the law and all that it calls make is longer than what came in: it says more and counts as full. Else prove '..UptoSaid'. A law counts once. -/
mutual
def uptoBulk {H : Type} : DataW H → Nat
  | .lit (.string bytes) => bytes.length + 1
  | .lit _ => 1
  | .nil => 1
  | .ptr d => uptoBulk d + 1
  | .slice elems spare => uptoBulkAll elems + uptoBulkAll spare + 1
  | .agg parts => uptoBulkAll parts + 1
  | .iface _ d => uptoBulk d + 1
  | .map entries => uptoBulkEntries entries + 1
  | .held _ => 1
def uptoBulkAll {H : Type} : List (DataW H) → Nat
  | [] => 0
  | d :: r => uptoBulk d + uptoBulkAll r
def uptoBulkEntries {H : Type} : List (Lit × DataW H) → Nat
  | [] => 0
  | x :: r => uptoBulkEntry x + uptoBulkEntries r
def uptoBulkEntry {H : Type} : Lit × DataW H → Nat
  | (.string bytes, d) => bytes.length + uptoBulk d + 1
  | (_, d) => uptoBulk d + 1
 end
def uptoSmall : (H : Type) → List (DataW H) → Bool := fun _ ds => decide (uptoBulkAll ds ≤ 1048576)
def OpenSpec.upto (s : _root_.Go.ChangeSpec) : _root_.Go.OpenSpec := { _root_.Go.OpenSpec.ofChange s with cond := some uptoSmall }

/-- 'quernlaw15.PoolNames', WHERE WHAT IT READS IS OF BULK AT MOST 1048576: true; the input reads as it did. -/
def poolNamesUptoRow : OpenClaim := { program := "ytcjmjmmajckjhaa", sum := "76c56d3e14d93717c410646771196f0dcf433129d93ab0ce9523431ccfe9e797", func := "quern/quernlaw15.PoolNames", spec := "poolNames", apart := false, narrowed := true }
def PoolNamesUptoSaid : Prop := poolNamesUptoRow.holds Try.pinned (OpenSpec.upto poolNamesSpec)

/-- 'quernlaw18.SliceZero', WHERE WHAT IT READS IS OF BULK AT MOST 1048576: true; the input reads as it did. -/
def sliceZeroUptoRow : OpenClaim := { program := "ytcjmjmmajckjhaa", sum := "76c56d3e14d93717c410646771196f0dcf433129d93ab0ce9523431ccfe9e797", func := "quern/quernlaw18.SliceZero", spec := "sliceZero", unfollowed := true, recurses := true, apart := false, narrowed := true }
def SliceZeroUptoSaid : Prop := sliceZeroUptoRow.holds Try.pinned (OpenSpec.upto sliceZeroSpec)

/-- 'quernlaw09.ShapeNames', WHERE WHAT IT READS IS OF BULK AT MOST 1048576: true; the input reads as it did. -/
def shapeNamesUptoRow : OpenClaim := { program := "ytcjmjmmajckjhaa", sum := "76c56d3e14d93717c410646771196f0dcf433129d93ab0ce9523431ccfe9e797", func := "quern/quernlaw09.ShapeNames", spec := "shapeNames", unfollowed := true, recurses := true, apart := false, narrowed := true }
def ShapeNamesUptoSaid : Prop := shapeNamesUptoRow.holds Try.pinned (OpenSpec.upto shapeNamesSpec)

/-- 'quernlaw15.PoolSystems', WHERE WHAT IT READS IS OF BULK AT MOST 1048576: true; the input reads as it did. -/
def poolSystemsUptoRow : OpenClaim := { program := "ytcjmjmmajckjhaa", sum := "76c56d3e14d93717c410646771196f0dcf433129d93ab0ce9523431ccfe9e797", func := "quern/quernlaw15.PoolSystems", spec := "poolSystems", apart := false, narrowed := true }
def PoolSystemsUptoSaid : Prop := poolSystemsUptoRow.holds Try.pinned (OpenSpec.upto poolSystemsSpec)

/-- 'quernlaw15.PoolQuiet', WHERE WHAT IT READS IS OF BULK AT MOST 1048576: true; the input reads as it did. -/
def poolQuietUptoRow : OpenClaim := { program := "ytcjmjmmajckjhaa", sum := "76c56d3e14d93717c410646771196f0dcf433129d93ab0ce9523431ccfe9e797", func := "quern/quernlaw15.PoolQuiet", spec := "poolQuiet", apart := false, narrowed := true }
def PoolQuietUptoSaid : Prop := poolQuietUptoRow.holds Try.pinned (OpenSpec.upto poolQuietSpec)

/-- 'quernlaw09.ShapeValid', WHERE WHAT IT READS IS OF BULK AT MOST 1048576: true; the input reads as it did. -/
def shapeValidUptoRow : OpenClaim := { program := "ytcjmjmmajckjhaa", sum := "76c56d3e14d93717c410646771196f0dcf433129d93ab0ce9523431ccfe9e797", func := "quern/quernlaw09.ShapeValid", spec := "shapeValid", unfollowed := true, recurses := true, apart := false, narrowed := true }
def ShapeValidUptoSaid : Prop := shapeValidUptoRow.holds Try.pinned (OpenSpec.upto shapeValidSpec)

/-- 'quernlaw09.ShapeRows', WHERE WHAT IT READS IS OF BULK AT MOST 1048576: true; the input reads as it did. -/
def shapeRowsUptoRow : OpenClaim := { program := "ytcjmjmmajckjhaa", sum := "76c56d3e14d93717c410646771196f0dcf433129d93ab0ce9523431ccfe9e797", func := "quern/quernlaw09.ShapeRows", spec := "shapeRows", unfollowed := true, recurses := true, apart := false, narrowed := true }
def ShapeRowsUptoSaid : Prop := shapeRowsUptoRow.holds Try.pinned (OpenSpec.upto shapeRowsSpec)

/-- 'quernlaw09.ShapeMost', WHERE WHAT IT READS IS OF BULK AT MOST 1048576: true; the input reads as it did. -/
def shapeMostUptoRow : OpenClaim := { program := "ytcjmjmmajckjhaa", sum := "76c56d3e14d93717c410646771196f0dcf433129d93ab0ce9523431ccfe9e797", func := "quern/quernlaw09.ShapeMost", spec := "shapeMost", unfollowed := true, recurses := true, apart := false, narrowed := true }
def ShapeMostUptoSaid : Prop := shapeMostUptoRow.holds Try.pinned (OpenSpec.upto shapeMostSpec)

/-- 'quernlaw09.ShapeEdges', WHERE WHAT IT READS IS OF BULK AT MOST 1048576: true; the input reads as it did. -/
def shapeEdgesUptoRow : OpenClaim := { program := "ytcjmjmmajckjhaa", sum := "76c56d3e14d93717c410646771196f0dcf433129d93ab0ce9523431ccfe9e797", func := "quern/quernlaw09.ShapeEdges", spec := "shapeEdges", unfollowed := true, recurses := true, apart := false, narrowed := true }
def ShapeEdgesUptoSaid : Prop := shapeEdgesUptoRow.holds Try.pinned (OpenSpec.upto shapeEdgesSpec)

/-- 'quernlaw09.ShapeSpots', WHERE WHAT IT READS IS OF BULK AT MOST 1048576: true; the input reads as it did. -/
def shapeSpotsUptoRow : OpenClaim := { program := "ytcjmjmmajckjhaa", sum := "76c56d3e14d93717c410646771196f0dcf433129d93ab0ce9523431ccfe9e797", func := "quern/quernlaw09.ShapeSpots", spec := "shapeSpots", unfollowed := true, recurses := true, apart := false, narrowed := true }
def ShapeSpotsUptoSaid : Prop := shapeSpotsUptoRow.holds Try.pinned (OpenSpec.upto shapeSpotsSpec)

/-- 'quernlaw09.ShapeTiles', WHERE WHAT IT READS IS OF BULK AT MOST 1048576: true; the input reads as it did. -/
def shapeTilesUptoRow : OpenClaim := { program := "ytcjmjmmajckjhaa", sum := "76c56d3e14d93717c410646771196f0dcf433129d93ab0ce9523431ccfe9e797", func := "quern/quernlaw09.ShapeTiles", spec := "shapeTiles", unfollowed := true, recurses := true, apart := false, narrowed := true }
def ShapeTilesUptoSaid : Prop := shapeTilesUptoRow.holds Try.pinned (OpenSpec.upto shapeTilesSpec)

/-- 'quernlaw09.ShapeParams', WHERE WHAT IT READS IS OF BULK AT MOST 1048576: true; the input reads as it did. -/
def shapeParamsUptoRow : OpenClaim := { program := "ytcjmjmmajckjhaa", sum := "76c56d3e14d93717c410646771196f0dcf433129d93ab0ce9523431ccfe9e797", func := "quern/quernlaw09.ShapeParams", spec := "shapeParams", unfollowed := true, recurses := true, apart := false, narrowed := true }
def ShapeParamsUptoSaid : Prop := shapeParamsUptoRow.holds Try.pinned (OpenSpec.upto shapeParamsSpec)

end Rows
end Go.Proofs.Ytcjmjmmajckjhaa
