/-
  No cell of these rows narrows 'for every input' (looked for: loops, veiled, ifaces, maps, wideKeys, modest, calm, conditions, laid).
  DERIVED. THE GIVEN ROWS OF THIS SEAT. 6 by the template 'for every input the law returns true; each argument reads behind the call as it read before'; 0 by the template 'total and deterministic' (their statements: YthjoojnlnlmljaaGreatTotals.lean).
  GIVEN WITH THE SEED: the statements are not yours to turn. If you find one false, say at which input.
  Laid BY PROGRAM, IN A SANDBOX (cutbox-rows.mjs): the forced cells as the released guide's own fill.sh prints them over the translation af062606986e95f0… (all of the seat's roots in one cut). By AI agents, Wed Nov 11 2026. No macro, syntax, notation, axiom, sorry.
-/
import Derived.Test.YthjoojnlnlmljaaGreatChecked
import GoSem.Claim
import GoSem.ClaimJoined
import GoSem.ClaimMapViews
import Derived.JoinedTies
import Derived.KernelRfl
namespace Go.Proofs.YthjoojnlnlmljaaGreat
/- THE CELL 'sum', in the pinned program and in every row, IS THE sha256 OF THE DUMP (.gsa) THAT YthjoojnlnlmljaaGreatProg.lean LOADS. Nothing in Lean hashes anything: it is a label: what it is worth is what the hold of that sum in a sandbox is worth. -/
noncomputable def Tryz.pinned : Pinned := { name := "ythjoojnlnlmljaagreat", sum := "af062606986e95f097750ef39acf814ef504170bbf767ce5a29c0850a594b9b2", checked := Tryz.checked }
namespace Rows
def none {H : Type} : Left H := { results := [], args := [] }

/-- 'quernlaw10.TreeStreams': WHATEVER THE INPUT: true; the input reads as it did. -/
def treeStreamsSpec : ChangeSpec := { name := "treeStreams", fn := fun _ => fun
  | [d1, d2] => { results := [.lit (.bool true)], args := [d1, d2] }
  | _ => none }
def treeStreamsRow : OpenClaim := { program := "ythjoojnlnlmljaagreat", sum := "af062606986e95f097750ef39acf814ef504170bbf767ce5a29c0850a594b9b2", func := "quern/quernlaw10.TreeStreams", spec := "treeStreams", unfollowed := true, recurses := true, apart := false }
def TreeStreamsSaid : Prop := treeStreamsRow.holds Tryz.pinned (OpenSpec.ofChange treeStreamsSpec)

/-- ITS FALSE NEIGHBOUR: 'it returns false'. Refute it at one input. -/
def treeStreamsWrong : ChangeSpec := { name := "treeStreams", fn := fun _ => fun
  | [d1, d2] => { results := [.lit (.bool false)], args := [d1, d2] }
  | _ => none }
def TreeStreamsWrongFalsely : Prop := treeStreamsRow.holds Tryz.pinned (OpenSpec.ofChange treeStreamsWrong)

/-- 'quernlaw11.PathProves': WHATEVER THE INPUT: true; the input reads as it did. -/
def pathProvesSpec : ChangeSpec := { name := "pathProves", fn := fun _ => fun
  | [d1, d2, d3] => { results := [.lit (.bool true)], args := [d1, d2, d3] }
  | _ => none }
def pathProvesRow : OpenClaim := { program := "ythjoojnlnlmljaagreat", sum := "af062606986e95f097750ef39acf814ef504170bbf767ce5a29c0850a594b9b2", func := "quern/quernlaw11.PathProves", spec := "pathProves", unfollowed := true, recurses := true, apart := false }
def PathProvesSaid : Prop := pathProvesRow.holds Tryz.pinned (OpenSpec.ofChange pathProvesSpec)

/-- ITS FALSE NEIGHBOUR: 'it returns false'. Refute it at one input. -/
def pathProvesWrong : ChangeSpec := { name := "pathProves", fn := fun _ => fun
  | [d1, d2, d3] => { results := [.lit (.bool false)], args := [d1, d2, d3] }
  | _ => none }
def PathProvesWrongFalsely : Prop := pathProvesRow.holds Tryz.pinned (OpenSpec.ofChange pathProvesWrong)

/-- 'quernlaw12.ClashTrees': WHATEVER THE INPUT: true; the input reads as it did. -/
def clashTreesSpec : ChangeSpec := { name := "clashTrees", fn := fun _ => fun
  | [d1, d2, d3] => { results := [.lit (.bool true)], args := [d1, d2, d3] }
  | _ => none }
def clashTreesRow : OpenClaim := { program := "ythjoojnlnlmljaagreat", sum := "af062606986e95f097750ef39acf814ef504170bbf767ce5a29c0850a594b9b2", func := "quern/quernlaw12.ClashTrees", spec := "clashTrees", unfollowed := true, recurses := true, apart := false }
def ClashTreesSaid : Prop := clashTreesRow.holds Tryz.pinned (OpenSpec.ofChange clashTreesSpec)

/-- ITS FALSE NEIGHBOUR: 'it returns false'. Refute it at one input. -/
def clashTreesWrong : ChangeSpec := { name := "clashTrees", fn := fun _ => fun
  | [d1, d2, d3] => { results := [.lit (.bool false)], args := [d1, d2, d3] }
  | _ => none }
def ClashTreesWrongFalsely : Prop := clashTreesRow.holds Tryz.pinned (OpenSpec.ofChange clashTreesWrong)

/-- 'quernlaw15.PoolFolds': WHATEVER THE INPUT: true; the input reads as it did. -/
def poolFoldsSpec : ChangeSpec := { name := "poolFolds", fn := fun _ => fun
  | [d1, d2, d3, d4] => { results := [.lit (.bool true)], args := [d1, d2, d3, d4] }
  | _ => none }
def poolFoldsRow : OpenClaim := { program := "ythjoojnlnlmljaagreat", sum := "af062606986e95f097750ef39acf814ef504170bbf767ce5a29c0850a594b9b2", func := "quern/quernlaw15.PoolFolds", spec := "poolFolds", unfollowed := true, recurses := true, apart := false }
def PoolFoldsSaid : Prop := poolFoldsRow.holds Tryz.pinned (OpenSpec.ofChange poolFoldsSpec)

/-- ITS FALSE NEIGHBOUR: 'it returns false'. Refute it at one input. -/
def poolFoldsWrong : ChangeSpec := { name := "poolFolds", fn := fun _ => fun
  | [d1, d2, d3, d4] => { results := [.lit (.bool false)], args := [d1, d2, d3, d4] }
  | _ => none }
def PoolFoldsWrongFalsely : Prop := poolFoldsRow.holds Tryz.pinned (OpenSpec.ofChange poolFoldsWrong)

/-- 'quernlaw15.PoolOrders': WHATEVER THE INPUT: true; the input reads as it did. -/
def poolOrdersSpec : ChangeSpec := { name := "poolOrders", fn := fun _ => fun
  | [d1, d2, d3] => { results := [.lit (.bool true)], args := [d1, d2, d3] }
  | _ => none }
def poolOrdersRow : OpenClaim := { program := "ythjoojnlnlmljaagreat", sum := "af062606986e95f097750ef39acf814ef504170bbf767ce5a29c0850a594b9b2", func := "quern/quernlaw15.PoolOrders", spec := "poolOrders", unfollowed := true, recurses := true, apart := false }
def PoolOrdersSaid : Prop := poolOrdersRow.holds Tryz.pinned (OpenSpec.ofChange poolOrdersSpec)

/-- ITS FALSE NEIGHBOUR: 'it returns false'. Refute it at one input. -/
def poolOrdersWrong : ChangeSpec := { name := "poolOrders", fn := fun _ => fun
  | [d1, d2, d3] => { results := [.lit (.bool false)], args := [d1, d2, d3] }
  | _ => none }
def PoolOrdersWrongFalsely : Prop := poolOrdersRow.holds Tryz.pinned (OpenSpec.ofChange poolOrdersWrong)

/-- 'quernlaw11.PathBelongs': WHATEVER THE INPUT: true; the input reads as it did. -/
def pathBelongsSpec : ChangeSpec := { name := "pathBelongs", fn := fun _ => fun
  | [d1, d2, d3] => { results := [.lit (.bool true)], args := [d1, d2, d3] }
  | _ => none }
def pathBelongsRow : OpenClaim := { program := "ythjoojnlnlmljaagreat", sum := "af062606986e95f097750ef39acf814ef504170bbf767ce5a29c0850a594b9b2", func := "quern/quernlaw11.PathBelongs", spec := "pathBelongs", unfollowed := true, recurses := true, apart := false }
def PathBelongsSaid : Prop := pathBelongsRow.holds Tryz.pinned (OpenSpec.ofChange pathBelongsSpec)

/-- ITS FALSE NEIGHBOUR: 'it returns false'. Refute it at one input. -/
def pathBelongsWrong : ChangeSpec := { name := "pathBelongs", fn := fun _ => fun
  | [d1, d2, d3] => { results := [.lit (.bool false)], args := [d1, d2, d3] }
  | _ => none }
def PathBelongsWrongFalsely : Prop := pathBelongsRow.holds Tryz.pinned (OpenSpec.ofChange pathBelongsWrong)

/- THE SECOND FORM. 'bulk': how many values and letters a reading holds, each counted each time it is reached (what is shared counts as often as it is met; a slice's spare places count too). A statement '..UptoSaid' is the law's where the arguments, and the package variables that the reading takes, are together of bulk at most 1048576: NARROWER than '..Said'. Prove '..Said' where nothing that the law and all that it calls make is longer than what came in: it says more and counts as full. Else prove '..UptoSaid'. A law counts once. -/
mutual
def uptoBulk {H : Type} : DataW H → Nat
  | .lit (.string bytes) => bytes.length + 1
  | .lit _ => 1
  | .nil => 1
  | .ptr d => uptoBulk d + 1
  | .slice elems spare => uptoBulkAll elems + uptoBulkAll spare + 1
  | .agg parts => uptoBulkAll parts + 1
  | .iface _ d => uptoBulk d + 1
  | .map entries => uptoBulkEntries entries + 1
  | .held _ => 1
def uptoBulkAll {H : Type} : List (DataW H) → Nat
  | [] => 0
  | d :: r => uptoBulk d + uptoBulkAll r
def uptoBulkEntries {H : Type} : List (Lit × DataW H) → Nat
  | [] => 0
  | x :: r => uptoBulkEntry x + uptoBulkEntries r
def uptoBulkEntry {H : Type} : Lit × DataW H → Nat
  | (.string bytes, d) => bytes.length + uptoBulk d + 1
  | (_, d) => uptoBulk d + 1
 end
def uptoSmall : (H : Type) → List (DataW H) → Bool := fun _ ds => decide (uptoBulkAll ds ≤ 1048576)
def OpenSpec.upto (s : _root_.Go.ChangeSpec) : _root_.Go.OpenSpec := { _root_.Go.OpenSpec.ofChange s with cond := some uptoSmall }

/-- 'quernlaw10.TreeStreams', WHERE WHAT IT READS IS OF BULK AT MOST 1048576: true; the input reads as it did. -/
def treeStreamsUptoRow : OpenClaim := { program := "ythjoojnlnlmljaagreat", sum := "af062606986e95f097750ef39acf814ef504170bbf767ce5a29c0850a594b9b2", func := "quern/quernlaw10.TreeStreams", spec := "treeStreams", unfollowed := true, recurses := true, apart := false, narrowed := true }
def TreeStreamsUptoSaid : Prop := treeStreamsUptoRow.holds Tryz.pinned (OpenSpec.upto treeStreamsSpec)

/-- 'quernlaw11.PathProves', WHERE WHAT IT READS IS OF BULK AT MOST 1048576: true; the input reads as it did. -/
def pathProvesUptoRow : OpenClaim := { program := "ythjoojnlnlmljaagreat", sum := "af062606986e95f097750ef39acf814ef504170bbf767ce5a29c0850a594b9b2", func := "quern/quernlaw11.PathProves", spec := "pathProves", unfollowed := true, recurses := true, apart := false, narrowed := true }
def PathProvesUptoSaid : Prop := pathProvesUptoRow.holds Tryz.pinned (OpenSpec.upto pathProvesSpec)

/-- 'quernlaw12.ClashTrees', WHERE WHAT IT READS IS OF BULK AT MOST 1048576: true; the input reads as it did. -/
def clashTreesUptoRow : OpenClaim := { program := "ythjoojnlnlmljaagreat", sum := "af062606986e95f097750ef39acf814ef504170bbf767ce5a29c0850a594b9b2", func := "quern/quernlaw12.ClashTrees", spec := "clashTrees", unfollowed := true, recurses := true, apart := false, narrowed := true }
def ClashTreesUptoSaid : Prop := clashTreesUptoRow.holds Tryz.pinned (OpenSpec.upto clashTreesSpec)

/-- 'quernlaw15.PoolFolds', WHERE WHAT IT READS IS OF BULK AT MOST 1048576: true; the input reads as it did. -/
def poolFoldsUptoRow : OpenClaim := { program := "ythjoojnlnlmljaagreat", sum := "af062606986e95f097750ef39acf814ef504170bbf767ce5a29c0850a594b9b2", func := "quern/quernlaw15.PoolFolds", spec := "poolFolds", unfollowed := true, recurses := true, apart := false, narrowed := true }
def PoolFoldsUptoSaid : Prop := poolFoldsUptoRow.holds Tryz.pinned (OpenSpec.upto poolFoldsSpec)

/-- 'quernlaw15.PoolOrders', WHERE WHAT IT READS IS OF BULK AT MOST 1048576: true; the input reads as it did. -/
def poolOrdersUptoRow : OpenClaim := { program := "ythjoojnlnlmljaagreat", sum := "af062606986e95f097750ef39acf814ef504170bbf767ce5a29c0850a594b9b2", func := "quern/quernlaw15.PoolOrders", spec := "poolOrders", unfollowed := true, recurses := true, apart := false, narrowed := true }
def PoolOrdersUptoSaid : Prop := poolOrdersUptoRow.holds Tryz.pinned (OpenSpec.upto poolOrdersSpec)

/-- 'quernlaw11.PathBelongs', WHERE WHAT IT READS IS OF BULK AT MOST 1048576: true; the input reads as it did. -/
def pathBelongsUptoRow : OpenClaim := { program := "ythjoojnlnlmljaagreat", sum := "af062606986e95f097750ef39acf814ef504170bbf767ce5a29c0850a594b9b2", func := "quern/quernlaw11.PathBelongs", spec := "pathBelongs", unfollowed := true, recurses := true, apart := false, narrowed := true }
def PathBelongsUptoSaid : Prop := pathBelongsUptoRow.holds Tryz.pinned (OpenSpec.upto pathBelongsSpec)

end Rows
end Go.Proofs.YthjoojnlnlmljaaGreat
