/-
  No cell of these rows narrows 'for every input' (looked for: loops, veiled, ifaces, maps, wideKeys, modest, calm, conditions, laid).
  DERIVED. THE GIVEN ROWS OF THIS SEAT. 4 by the template 'for every input the law returns true; each argument reads behind the call as it read before'; 0 by the template 'total and deterministic' (their statements: YtjogmckaakkomaaGreatTotals.lean).
  GIVEN WITH THE SEED: the statements are not yours to turn. If you find one false, say at which input.
  Laid BY PROGRAM, IN A SANDBOX (cutbox-rows.mjs): the forced cells as the released guide's own fill.sh prints them over the translation 15d6ca14432876b2… (all of the seat's roots in one cut). By AI agents, Wed Nov 11 2026. No macro, syntax, notation, axiom, sorry.
-/
import Derived.Test.YtjogmckaakkomaaGreatChecked
import GoSem.Claim
import GoSem.ClaimJoined
import GoSem.ClaimMapViews
import Derived.JoinedTies
import Derived.KernelRfl
namespace Go.Proofs.YtjogmckaakkomaaGreat
/- THE CELL 'sum', in the pinned program and in every row, IS THE sha256 OF THE DUMP (.gsa) THAT YtjogmckaakkomaaGreatProg.lean LOADS. Nothing in Lean hashes anything: it is a label: what it is worth is what the hold of that sum in a sandbox is worth. -/
noncomputable def Tryz.pinned : Pinned := { name := "ytjogmckaakkomaagreat", sum := "15d6ca14432876b25609613e3ac40506621d6b8aecace53559d791df9c505542", checked := Tryz.checked }
namespace Rows
def none {H : Type} : Left H := { results := [], args := [] }

/-- 'quernlaw12.ClashChecks': WHATEVER THE INPUT: true; the input reads as it did. -/
def clashChecksSpec : ChangeSpec := { name := "clashChecks", fn := fun _ => fun
  | [d1, d2] => { results := [.lit (.bool true)], args := [d1, d2] }
  | _ => none }
def clashChecksRow : OpenClaim := { program := "ytjogmckaakkomaagreat", sum := "15d6ca14432876b25609613e3ac40506621d6b8aecace53559d791df9c505542", func := "quern/quernlaw12.ClashChecks", spec := "clashChecks", unfollowed := true, recurses := true, apart := false }
def ClashChecksSaid : Prop := clashChecksRow.holds Tryz.pinned (OpenSpec.ofChange clashChecksSpec)

/-- ITS FALSE NEIGHBOUR: 'it returns false'. Refute it at one input. -/
def clashChecksWrong : ChangeSpec := { name := "clashChecks", fn := fun _ => fun
  | [d1, d2] => { results := [.lit (.bool false)], args := [d1, d2] }
  | _ => none }
def ClashChecksWrongFalsely : Prop := clashChecksRow.holds Tryz.pinned (OpenSpec.ofChange clashChecksWrong)

/-- 'quernlaw10.TreeCalls': WHATEVER THE INPUT: true; the input reads as it did. -/
def treeCallsSpec : ChangeSpec := { name := "treeCalls", fn := fun _ => fun
  | [d1, d2] => { results := [.lit (.bool true)], args := [d1, d2] }
  | _ => none }
def treeCallsRow : OpenClaim := { program := "ytjogmckaakkomaagreat", sum := "15d6ca14432876b25609613e3ac40506621d6b8aecace53559d791df9c505542", func := "quern/quernlaw10.TreeCalls", spec := "treeCalls", unfollowed := true, recurses := true, apart := false }
def TreeCallsSaid : Prop := treeCallsRow.holds Tryz.pinned (OpenSpec.ofChange treeCallsSpec)

/-- ITS FALSE NEIGHBOUR: 'it returns false'. Refute it at one input. -/
def treeCallsWrong : ChangeSpec := { name := "treeCalls", fn := fun _ => fun
  | [d1, d2] => { results := [.lit (.bool false)], args := [d1, d2] }
  | _ => none }
def TreeCallsWrongFalsely : Prop := treeCallsRow.holds Tryz.pinned (OpenSpec.ofChange treeCallsWrong)

/-- 'quernlaw10.TreeHashes': WHATEVER THE INPUT: true; the input reads as it did. -/
def treeHashesSpec : ChangeSpec := { name := "treeHashes", fn := fun _ => fun
  | [d1, d2] => { results := [.lit (.bool true)], args := [d1, d2] }
  | _ => none }
def treeHashesRow : OpenClaim := { program := "ytjogmckaakkomaagreat", sum := "15d6ca14432876b25609613e3ac40506621d6b8aecace53559d791df9c505542", func := "quern/quernlaw10.TreeHashes", spec := "treeHashes", unfollowed := true, recurses := true, apart := false }
def TreeHashesSaid : Prop := treeHashesRow.holds Tryz.pinned (OpenSpec.ofChange treeHashesSpec)

/-- ITS FALSE NEIGHBOUR: 'it returns false'. Refute it at one input. -/
def treeHashesWrong : ChangeSpec := { name := "treeHashes", fn := fun _ => fun
  | [d1, d2] => { results := [.lit (.bool false)], args := [d1, d2] }
  | _ => none }
def TreeHashesWrongFalsely : Prop := treeHashesRow.holds Tryz.pinned (OpenSpec.ofChange treeHashesWrong)

/-- 'quernlaw10.TreeRows': WHATEVER THE INPUT: true; the input reads as it did. -/
def treeRowsSpec : ChangeSpec := { name := "treeRows", fn := fun _ => fun
  | [d1, d2] => { results := [.lit (.bool true)], args := [d1, d2] }
  | _ => none }
def treeRowsRow : OpenClaim := { program := "ytjogmckaakkomaagreat", sum := "15d6ca14432876b25609613e3ac40506621d6b8aecace53559d791df9c505542", func := "quern/quernlaw10.TreeRows", spec := "treeRows", unfollowed := true, recurses := true, apart := false }
def TreeRowsSaid : Prop := treeRowsRow.holds Tryz.pinned (OpenSpec.ofChange treeRowsSpec)

/-- ITS FALSE NEIGHBOUR: 'it returns false'. Refute it at one input. -/
def treeRowsWrong : ChangeSpec := { name := "treeRows", fn := fun _ => fun
  | [d1, d2] => { results := [.lit (.bool false)], args := [d1, d2] }
  | _ => none }
def TreeRowsWrongFalsely : Prop := treeRowsRow.holds Tryz.pinned (OpenSpec.ofChange treeRowsWrong)

/- THE SECOND FORM. 'bulk': how many values and letters a reading holds, each counted each time it is reached (what is shared counts as often as it is met; a slice's spare places count too). A statement '..UptoSaid' is the law's where the arguments, and the package variables that the reading takes, are together of bulk at most 1048576: NARROWER than '..Said'. Prove '..Said' where nothing that the law and all that it calls make is longer than what came in: it says more and counts as full. Else prove '..UptoSaid'. A law counts once. -/
mutual
def uptoBulk {H : Type} : DataW H → Nat
  | .lit (.string bytes) => bytes.length + 1
  | .lit _ => 1
  | .nil => 1
  | .ptr d => uptoBulk d + 1
  | .slice elems spare => uptoBulkAll elems + uptoBulkAll spare + 1
  | .agg parts => uptoBulkAll parts + 1
  | .iface _ d => uptoBulk d + 1
  | .map entries => uptoBulkEntries entries + 1
  | .held _ => 1
def uptoBulkAll {H : Type} : List (DataW H) → Nat
  | [] => 0
  | d :: r => uptoBulk d + uptoBulkAll r
def uptoBulkEntries {H : Type} : List (Lit × DataW H) → Nat
  | [] => 0
  | x :: r => uptoBulkEntry x + uptoBulkEntries r
def uptoBulkEntry {H : Type} : Lit × DataW H → Nat
  | (.string bytes, d) => bytes.length + uptoBulk d + 1
  | (_, d) => uptoBulk d + 1
 end
def uptoSmall : (H : Type) → List (DataW H) → Bool := fun _ ds => decide (uptoBulkAll ds ≤ 1048576)
def OpenSpec.upto (s : _root_.Go.ChangeSpec) : _root_.Go.OpenSpec := { _root_.Go.OpenSpec.ofChange s with cond := some uptoSmall }

/-- 'quernlaw12.ClashChecks', WHERE WHAT IT READS IS OF BULK AT MOST 1048576: true; the input reads as it did. -/
def clashChecksUptoRow : OpenClaim := { program := "ytjogmckaakkomaagreat", sum := "15d6ca14432876b25609613e3ac40506621d6b8aecace53559d791df9c505542", func := "quern/quernlaw12.ClashChecks", spec := "clashChecks", unfollowed := true, recurses := true, apart := false, narrowed := true }
def ClashChecksUptoSaid : Prop := clashChecksUptoRow.holds Tryz.pinned (OpenSpec.upto clashChecksSpec)

/-- 'quernlaw10.TreeCalls', WHERE WHAT IT READS IS OF BULK AT MOST 1048576: true; the input reads as it did. -/
def treeCallsUptoRow : OpenClaim := { program := "ytjogmckaakkomaagreat", sum := "15d6ca14432876b25609613e3ac40506621d6b8aecace53559d791df9c505542", func := "quern/quernlaw10.TreeCalls", spec := "treeCalls", unfollowed := true, recurses := true, apart := false, narrowed := true }
def TreeCallsUptoSaid : Prop := treeCallsUptoRow.holds Tryz.pinned (OpenSpec.upto treeCallsSpec)

/-- 'quernlaw10.TreeHashes', WHERE WHAT IT READS IS OF BULK AT MOST 1048576: true; the input reads as it did. -/
def treeHashesUptoRow : OpenClaim := { program := "ytjogmckaakkomaagreat", sum := "15d6ca14432876b25609613e3ac40506621d6b8aecace53559d791df9c505542", func := "quern/quernlaw10.TreeHashes", spec := "treeHashes", unfollowed := true, recurses := true, apart := false, narrowed := true }
def TreeHashesUptoSaid : Prop := treeHashesUptoRow.holds Tryz.pinned (OpenSpec.upto treeHashesSpec)

/-- 'quernlaw10.TreeRows', WHERE WHAT IT READS IS OF BULK AT MOST 1048576: true; the input reads as it did. -/
def treeRowsUptoRow : OpenClaim := { program := "ytjogmckaakkomaagreat", sum := "15d6ca14432876b25609613e3ac40506621d6b8aecace53559d791df9c505542", func := "quern/quernlaw10.TreeRows", spec := "treeRows", unfollowed := true, recurses := true, apart := false, narrowed := true }
def TreeRowsUptoSaid : Prop := treeRowsUptoRow.holds Tryz.pinned (OpenSpec.upto treeRowsSpec)

end Rows
end Go.Proofs.YtjogmckaakkomaaGreat
