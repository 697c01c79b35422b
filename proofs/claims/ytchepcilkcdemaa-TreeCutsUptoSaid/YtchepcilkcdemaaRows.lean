/-
  No cell of these rows narrows 'for every input' (looked for: loops, veiled, ifaces, maps, wideKeys, modest, calm, conditions, laid).
  DERIVED. THE GIVEN ROWS OF THIS SEAT. 5 by the template 'for every input the law returns true; each argument reads behind the call as it read before'; 0 by the template 'total and deterministic' (their statements: YtchepcilkcdemaaTotals.lean).
  GIVEN WITH THE SEED: the statements are not yours to turn. If you find one false, say at which input.
  Laid BY PROGRAM, IN A SANDBOX (cutbox-rows.mjs): the forced cells as the released guide's own fill.sh prints them over the translation 51441ab38bef2d77… (all of the seat's roots in one cut). By AI agents, Wed Nov 11 2026. No macro, syntax, notation, axiom, sorry.
-/
import Derived.Test.YtchepcilkcdemaaChecked
import GoSem.Claim
import GoSem.ClaimJoined
import GoSem.ClaimMapViews
import Derived.JoinedTies
import Derived.KernelRfl
namespace Go.Proofs.Ytchepcilkcdemaa
/- THE CELL 'sum', in the pinned program and in every row, IS THE sha256 OF THE DUMP (.gsa) THAT YtchepcilkcdemaaProg.lean LOADS. Nothing in Lean hashes anything: it is a label: what it is worth is what the hold of that sum in a sandbox is worth. -/
noncomputable def Try.pinned : Pinned := { name := "ytchepcilkcdemaa", sum := "51441ab38bef2d77d46206cc83f4a9fb172e1bdec4042cec64b88ff707614e5e", checked := Try.checked }
namespace Rows
def none {H : Type} : Left H := { results := [], args := [] }

/-- 'quernlaw10.TreeFold': WHATEVER THE INPUT: true; the input reads as it did. -/
def treeFoldSpec : ChangeSpec := { name := "treeFold", fn := fun _ => fun
  | [d1, d2] => { results := [.lit (.bool true)], args := [d1, d2] }
  | _ => none }
def treeFoldRow : OpenClaim := { program := "ytchepcilkcdemaa", sum := "51441ab38bef2d77d46206cc83f4a9fb172e1bdec4042cec64b88ff707614e5e", func := "quern/quernlaw10.TreeFold", spec := "treeFold", unfollowed := true, recurses := true, apart := false }
def TreeFoldSaid : Prop := treeFoldRow.holds Try.pinned (OpenSpec.ofChange treeFoldSpec)

/-- ITS FALSE NEIGHBOUR: 'it returns false'. Refute it at one input. -/
def treeFoldWrong : ChangeSpec := { name := "treeFold", fn := fun _ => fun
  | [d1, d2] => { results := [.lit (.bool false)], args := [d1, d2] }
  | _ => none }
def TreeFoldWrongFalsely : Prop := treeFoldRow.holds Try.pinned (OpenSpec.ofChange treeFoldWrong)

/-- 'quernlaw10.TreeTouched': WHATEVER THE INPUT: true; the input reads as it did. -/
def treeTouchedSpec : ChangeSpec := { name := "treeTouched", fn := fun _ => fun
  | [d1, d2, d3] => { results := [.lit (.bool true)], args := [d1, d2, d3] }
  | _ => none }
def treeTouchedRow : OpenClaim := { program := "ytchepcilkcdemaa", sum := "51441ab38bef2d77d46206cc83f4a9fb172e1bdec4042cec64b88ff707614e5e", func := "quern/quernlaw10.TreeTouched", spec := "treeTouched", unfollowed := true, recurses := true, apart := false }
def TreeTouchedSaid : Prop := treeTouchedRow.holds Try.pinned (OpenSpec.ofChange treeTouchedSpec)

/-- ITS FALSE NEIGHBOUR: 'it returns false'. Refute it at one input. -/
def treeTouchedWrong : ChangeSpec := { name := "treeTouched", fn := fun _ => fun
  | [d1, d2, d3] => { results := [.lit (.bool false)], args := [d1, d2, d3] }
  | _ => none }
def TreeTouchedWrongFalsely : Prop := treeTouchedRow.holds Try.pinned (OpenSpec.ofChange treeTouchedWrong)

/-- 'quernlaw10.TreeCuts': WHATEVER THE INPUT: true; the input reads as it did. -/
def treeCutsSpec : ChangeSpec := { name := "treeCuts", fn := fun _ => fun
  | [d1, d2, d3] => { results := [.lit (.bool true)], args := [d1, d2, d3] }
  | _ => none }
def treeCutsRow : OpenClaim := { program := "ytchepcilkcdemaa", sum := "51441ab38bef2d77d46206cc83f4a9fb172e1bdec4042cec64b88ff707614e5e", func := "quern/quernlaw10.TreeCuts", spec := "treeCuts", unfollowed := true, recurses := true, apart := false }
def TreeCutsSaid : Prop := treeCutsRow.holds Try.pinned (OpenSpec.ofChange treeCutsSpec)

/-- ITS FALSE NEIGHBOUR: 'it returns false'. Refute it at one input. -/
def treeCutsWrong : ChangeSpec := { name := "treeCuts", fn := fun _ => fun
  | [d1, d2, d3] => { results := [.lit (.bool false)], args := [d1, d2, d3] }
  | _ => none }
def TreeCutsWrongFalsely : Prop := treeCutsRow.holds Try.pinned (OpenSpec.ofChange treeCutsWrong)

/-- 'quernlaw10.TreeSmall': WHATEVER THE INPUT: true; the input reads as it did. -/
def treeSmallSpec : ChangeSpec := { name := "treeSmall", fn := fun _ => fun
  | [d1, d2] => { results := [.lit (.bool true)], args := [d1, d2] }
  | _ => none }
def treeSmallRow : OpenClaim := { program := "ytchepcilkcdemaa", sum := "51441ab38bef2d77d46206cc83f4a9fb172e1bdec4042cec64b88ff707614e5e", func := "quern/quernlaw10.TreeSmall", spec := "treeSmall", unfollowed := true, recurses := true, apart := false }
def TreeSmallSaid : Prop := treeSmallRow.holds Try.pinned (OpenSpec.ofChange treeSmallSpec)

/-- ITS FALSE NEIGHBOUR: 'it returns false'. Refute it at one input. -/
def treeSmallWrong : ChangeSpec := { name := "treeSmall", fn := fun _ => fun
  | [d1, d2] => { results := [.lit (.bool false)], args := [d1, d2] }
  | _ => none }
def TreeSmallWrongFalsely : Prop := treeSmallRow.holds Try.pinned (OpenSpec.ofChange treeSmallWrong)

/-- 'quernlaw10.TreeNodes': WHATEVER THE INPUT: true; the input reads as it did. -/
def treeNodesSpec : ChangeSpec := { name := "treeNodes", fn := fun _ => fun
  | [d1, d2] => { results := [.lit (.bool true)], args := [d1, d2] }
  | _ => none }
def treeNodesRow : OpenClaim := { program := "ytchepcilkcdemaa", sum := "51441ab38bef2d77d46206cc83f4a9fb172e1bdec4042cec64b88ff707614e5e", func := "quern/quernlaw10.TreeNodes", spec := "treeNodes", unfollowed := true, recurses := true, apart := false }
def TreeNodesSaid : Prop := treeNodesRow.holds Try.pinned (OpenSpec.ofChange treeNodesSpec)

/-- ITS FALSE NEIGHBOUR: 'it returns false'. Refute it at one input. -/
def treeNodesWrong : ChangeSpec := { name := "treeNodes", fn := fun _ => fun
  | [d1, d2] => { results := [.lit (.bool false)], args := [d1, d2] }
  | _ => none }
def TreeNodesWrongFalsely : Prop := treeNodesRow.holds Try.pinned (OpenSpec.ofChange treeNodesWrong)

/- THE SECOND FORM. 'bulk': how many values and letters a reading holds, each counted each time it is reached (what is shared counts as often as it is met; a slice's spare places count too). A statement '..UptoSaid' is the law's where the arguments, and the package variables that the reading takes, are together of bulk at most 1048576: NARROWER than '..Said'. Prove '..Said' where nothing that the law and all that it calls make is longer than what came in: it says more and counts as full. Else prove '..UptoSaid'. A law counts once. -/
mutual
def uptoBulk {H : Type} : DataW H → Nat
  | .lit (.string bytes) => bytes.length + 1
  | .lit _ => 1
  | .nil => 1
  | .ptr d => uptoBulk d + 1
  | .slice elems spare => uptoBulkAll elems + uptoBulkAll spare + 1
  | .agg parts => uptoBulkAll parts + 1
  | .iface _ d => uptoBulk d + 1
  | .map entries => uptoBulkEntries entries + 1
  | .held _ => 1
def uptoBulkAll {H : Type} : List (DataW H) → Nat
  | [] => 0
  | d :: r => uptoBulk d + uptoBulkAll r
def uptoBulkEntries {H : Type} : List (Lit × DataW H) → Nat
  | [] => 0
  | x :: r => uptoBulkEntry x + uptoBulkEntries r
def uptoBulkEntry {H : Type} : Lit × DataW H → Nat
  | (.string bytes, d) => bytes.length + uptoBulk d + 1
  | (_, d) => uptoBulk d + 1
 end
def uptoSmall : (H : Type) → List (DataW H) → Bool := fun _ ds => decide (uptoBulkAll ds ≤ 1048576)
def OpenSpec.upto (s : _root_.Go.ChangeSpec) : _root_.Go.OpenSpec := { _root_.Go.OpenSpec.ofChange s with cond := some uptoSmall }

/-- 'quernlaw10.TreeFold', WHERE WHAT IT READS IS OF BULK AT MOST 1048576: true; the input reads as it did. -/
def treeFoldUptoRow : OpenClaim := { program := "ytchepcilkcdemaa", sum := "51441ab38bef2d77d46206cc83f4a9fb172e1bdec4042cec64b88ff707614e5e", func := "quern/quernlaw10.TreeFold", spec := "treeFold", unfollowed := true, recurses := true, apart := false, narrowed := true }
def TreeFoldUptoSaid : Prop := treeFoldUptoRow.holds Try.pinned (OpenSpec.upto treeFoldSpec)

/-- 'quernlaw10.TreeTouched', WHERE WHAT IT READS IS OF BULK AT MOST 1048576: true; the input reads as it did. -/
def treeTouchedUptoRow : OpenClaim := { program := "ytchepcilkcdemaa", sum := "51441ab38bef2d77d46206cc83f4a9fb172e1bdec4042cec64b88ff707614e5e", func := "quern/quernlaw10.TreeTouched", spec := "treeTouched", unfollowed := true, recurses := true, apart := false, narrowed := true }
def TreeTouchedUptoSaid : Prop := treeTouchedUptoRow.holds Try.pinned (OpenSpec.upto treeTouchedSpec)

/-- 'quernlaw10.TreeCuts', WHERE WHAT IT READS IS OF BULK AT MOST 1048576: true; the input reads as it did. -/
def treeCutsUptoRow : OpenClaim := { program := "ytchepcilkcdemaa", sum := "51441ab38bef2d77d46206cc83f4a9fb172e1bdec4042cec64b88ff707614e5e", func := "quern/quernlaw10.TreeCuts", spec := "treeCuts", unfollowed := true, recurses := true, apart := false, narrowed := true }
def TreeCutsUptoSaid : Prop := treeCutsUptoRow.holds Try.pinned (OpenSpec.upto treeCutsSpec)

/-- 'quernlaw10.TreeSmall', WHERE WHAT IT READS IS OF BULK AT MOST 1048576: true; the input reads as it did. -/
def treeSmallUptoRow : OpenClaim := { program := "ytchepcilkcdemaa", sum := "51441ab38bef2d77d46206cc83f4a9fb172e1bdec4042cec64b88ff707614e5e", func := "quern/quernlaw10.TreeSmall", spec := "treeSmall", unfollowed := true, recurses := true, apart := false, narrowed := true }
def TreeSmallUptoSaid : Prop := treeSmallUptoRow.holds Try.pinned (OpenSpec.upto treeSmallSpec)

/-- 'quernlaw10.TreeNodes', WHERE WHAT IT READS IS OF BULK AT MOST 1048576: true; the input reads as it did. -/
def treeNodesUptoRow : OpenClaim := { program := "ytchepcilkcdemaa", sum := "51441ab38bef2d77d46206cc83f4a9fb172e1bdec4042cec64b88ff707614e5e", func := "quern/quernlaw10.TreeNodes", spec := "treeNodes", unfollowed := true, recurses := true, apart := false, narrowed := true }
def TreeNodesUptoSaid : Prop := treeNodesUptoRow.holds Try.pinned (OpenSpec.upto treeNodesSpec)

end Rows
end Go.Proofs.Ytchepcilkcdemaa
