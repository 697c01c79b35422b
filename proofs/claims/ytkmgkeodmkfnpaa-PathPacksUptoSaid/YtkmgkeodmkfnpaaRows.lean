/-
  NARROWER THAN 'FOR EVERY INPUT', by the rows' own cells (each row's printed sentence says how): SealParts: loops.
  DERIVED. THE GIVEN ROWS OF THIS SEAT. 4 by the template 'for every input the law returns true; each argument reads behind the call as it read before'; 0 by the template 'total and deterministic' (their statements: YtkmgkeodmkfnpaaTotals.lean).
  GIVEN WITH THE SEED: the statements are not yours to turn. If you find one false, say at which input.
  Laid BY PROGRAM, IN A SANDBOX (cutbox-rows.mjs): the forced cells as the released guide's own fill.sh prints them over the translation e3fb15c1c53a05ff… (all of the seat's roots in one cut). By AI agents, Wed Nov 11 2026. No macro, syntax, notation, axiom, sorry.
-/
import Derived.Test.YtkmgkeodmkfnpaaChecked
import GoSem.Claim
import GoSem.ClaimJoined
import GoSem.ClaimMapViews
import Derived.JoinedTies
import Derived.KernelRfl
namespace Go.Proofs.Ytkmgkeodmkfnpaa
/- THE CELL 'sum', in the pinned program and in every row, IS THE sha256 OF THE DUMP (.gsa) THAT YtkmgkeodmkfnpaaProg.lean LOADS. Nothing in Lean hashes anything: it is a label: what it is worth is what the hold of that sum in a sandbox is worth. -/
noncomputable def Try.pinned : Pinned := { name := "ytkmgkeodmkfnpaa", sum := "e3fb15c1c53a05ff25ea0fd5ca8d01717e87a30f0897b9e94724edf800142d74", checked := Try.checked }
namespace Rows
def none {H : Type} : Left H := { results := [], args := [] }

/-- 'quernlaw11.PathSizes': WHATEVER THE INPUT: true; the input reads as it did. -/
def pathSizesSpec : ChangeSpec := { name := "pathSizes", fn := fun _ => fun
  | [d1, d2, d3] => { results := [.lit (.bool true)], args := [d1, d2, d3] }
  | _ => none }
def pathSizesRow : OpenClaim := { program := "ytkmgkeodmkfnpaa", sum := "e3fb15c1c53a05ff25ea0fd5ca8d01717e87a30f0897b9e94724edf800142d74", func := "quern/quernlaw11.PathSizes", spec := "pathSizes", unfollowed := true, recurses := true, apart := false }
def PathSizesSaid : Prop := pathSizesRow.holds Try.pinned (OpenSpec.ofChange pathSizesSpec)

/-- ITS FALSE NEIGHBOUR: 'it returns false'. Refute it at one input. -/
def pathSizesWrong : ChangeSpec := { name := "pathSizes", fn := fun _ => fun
  | [d1, d2, d3] => { results := [.lit (.bool false)], args := [d1, d2, d3] }
  | _ => none }
def PathSizesWrongFalsely : Prop := pathSizesRow.holds Try.pinned (OpenSpec.ofChange pathSizesWrong)

/-- 'quernlaw24.SealParts': WHATEVER THE INPUT: true; the input reads as it did. -/
def sealPartsSpec : ChangeSpec := { name := "sealParts", fn := fun _ => fun
  | [d1, d2] => { results := [.lit (.bool true)], args := [d1, d2] }
  | _ => none }
def sealPartsRow : OpenClaim := { program := "ytkmgkeodmkfnpaa", sum := "e3fb15c1c53a05ff25ea0fd5ca8d01717e87a30f0897b9e94724edf800142d74", func := "quern/quernlaw24.SealParts", spec := "sealParts", inPlace := ["math.Float64bits"], unfollowed := true, recurses := true, loops := true, apart := false }
def SealPartsSaid : Prop := sealPartsRow.holds Try.pinned (OpenSpec.ofChange sealPartsSpec)

/-- ITS FALSE NEIGHBOUR: 'it returns false'. Refute it at one input. -/
def sealPartsWrong : ChangeSpec := { name := "sealParts", fn := fun _ => fun
  | [d1, d2] => { results := [.lit (.bool false)], args := [d1, d2] }
  | _ => none }
def SealPartsWrongFalsely : Prop := sealPartsRow.holds Try.pinned (OpenSpec.ofChange sealPartsWrong)

/-- 'quernlaw11.PathPacks': WHATEVER THE INPUT: true; the input reads as it did. -/
def pathPacksSpec : ChangeSpec := { name := "pathPacks", fn := fun _ => fun
  | [d1, d2, d3] => { results := [.lit (.bool true)], args := [d1, d2, d3] }
  | _ => none }
def pathPacksRow : OpenClaim := { program := "ytkmgkeodmkfnpaa", sum := "e3fb15c1c53a05ff25ea0fd5ca8d01717e87a30f0897b9e94724edf800142d74", func := "quern/quernlaw11.PathPacks", spec := "pathPacks", unfollowed := true, recurses := true, apart := false }
def PathPacksSaid : Prop := pathPacksRow.holds Try.pinned (OpenSpec.ofChange pathPacksSpec)

/-- ITS FALSE NEIGHBOUR: 'it returns false'. Refute it at one input. -/
def pathPacksWrong : ChangeSpec := { name := "pathPacks", fn := fun _ => fun
  | [d1, d2, d3] => { results := [.lit (.bool false)], args := [d1, d2, d3] }
  | _ => none }
def PathPacksWrongFalsely : Prop := pathPacksRow.holds Try.pinned (OpenSpec.ofChange pathPacksWrong)

/-- 'quernlaw10.TreeZero': WHATEVER THE INPUT: true; the input reads as it did. -/
def treeZeroSpec : ChangeSpec := { name := "treeZero", fn := fun _ => fun
  | [d] => { results := [.lit (.bool true)], args := [d] }
  | _ => none }
def treeZeroRow : OpenClaim := { program := "ytkmgkeodmkfnpaa", sum := "e3fb15c1c53a05ff25ea0fd5ca8d01717e87a30f0897b9e94724edf800142d74", func := "quern/quernlaw10.TreeZero", spec := "treeZero", unfollowed := true, recurses := true, apart := false }
def TreeZeroSaid : Prop := treeZeroRow.holds Try.pinned (OpenSpec.ofChange treeZeroSpec)

/-- ITS FALSE NEIGHBOUR: 'it returns false'. Refute it at one input. -/
def treeZeroWrong : ChangeSpec := { name := "treeZero", fn := fun _ => fun
  | [d] => { results := [.lit (.bool false)], args := [d] }
  | _ => none }
def TreeZeroWrongFalsely : Prop := treeZeroRow.holds Try.pinned (OpenSpec.ofChange treeZeroWrong)

/- THE SECOND FORM. 'bulk': how many values and letters a reading holds, each counted each time it is reached (what is shared counts as often as it is met; a slice's spare places count too). A statement '..UptoSaid' is the law's where the arguments, and the package variables that the reading takes, are together of bulk at most 1048576: NARROWER than '..Said'. Prove '..Said' where nothing that the law and all that it calls make is longer than what came in: it says more and counts as full. Else prove '..UptoSaid'. A law counts once. -/
mutual
def uptoBulk {H : Type} : DataW H → Nat
  | .lit (.string bytes) => bytes.length + 1
  | .lit _ => 1
  | .nil => 1
  | .ptr d => uptoBulk d + 1
  | .slice elems spare => uptoBulkAll elems + uptoBulkAll spare + 1
  | .agg parts => uptoBulkAll parts + 1
  | .iface _ d => uptoBulk d + 1
  | .map entries => uptoBulkEntries entries + 1
  | .held _ => 1
def uptoBulkAll {H : Type} : List (DataW H) → Nat
  | [] => 0
  | d :: r => uptoBulk d + uptoBulkAll r
def uptoBulkEntries {H : Type} : List (Lit × DataW H) → Nat
  | [] => 0
  | x :: r => uptoBulkEntry x + uptoBulkEntries r
def uptoBulkEntry {H : Type} : Lit × DataW H → Nat
  | (.string bytes, d) => bytes.length + uptoBulk d + 1
  | (_, d) => uptoBulk d + 1
 end
def uptoSmall : (H : Type) → List (DataW H) → Bool := fun _ ds => decide (uptoBulkAll ds ≤ 1048576)
def OpenSpec.upto (s : _root_.Go.ChangeSpec) : _root_.Go.OpenSpec := { _root_.Go.OpenSpec.ofChange s with cond := some uptoSmall }

/-- 'quernlaw11.PathSizes', WHERE WHAT IT READS IS OF BULK AT MOST 1048576: true; the input reads as it did. -/
def pathSizesUptoRow : OpenClaim := { program := "ytkmgkeodmkfnpaa", sum := "e3fb15c1c53a05ff25ea0fd5ca8d01717e87a30f0897b9e94724edf800142d74", func := "quern/quernlaw11.PathSizes", spec := "pathSizes", unfollowed := true, recurses := true, apart := false, narrowed := true }
def PathSizesUptoSaid : Prop := pathSizesUptoRow.holds Try.pinned (OpenSpec.upto pathSizesSpec)

/-- 'quernlaw24.SealParts', WHERE WHAT IT READS IS OF BULK AT MOST 1048576: true; the input reads as it did. -/
def sealPartsUptoRow : OpenClaim := { program := "ytkmgkeodmkfnpaa", sum := "e3fb15c1c53a05ff25ea0fd5ca8d01717e87a30f0897b9e94724edf800142d74", func := "quern/quernlaw24.SealParts", spec := "sealParts", inPlace := ["math.Float64bits"], unfollowed := true, recurses := true, loops := true, apart := false, narrowed := true }
def SealPartsUptoSaid : Prop := sealPartsUptoRow.holds Try.pinned (OpenSpec.upto sealPartsSpec)

/-- 'quernlaw11.PathPacks', WHERE WHAT IT READS IS OF BULK AT MOST 1048576: true; the input reads as it did. -/
def pathPacksUptoRow : OpenClaim := { program := "ytkmgkeodmkfnpaa", sum := "e3fb15c1c53a05ff25ea0fd5ca8d01717e87a30f0897b9e94724edf800142d74", func := "quern/quernlaw11.PathPacks", spec := "pathPacks", unfollowed := true, recurses := true, apart := false, narrowed := true }
def PathPacksUptoSaid : Prop := pathPacksUptoRow.holds Try.pinned (OpenSpec.upto pathPacksSpec)

/-- 'quernlaw10.TreeZero', WHERE WHAT IT READS IS OF BULK AT MOST 1048576: true; the input reads as it did. -/
def treeZeroUptoRow : OpenClaim := { program := "ytkmgkeodmkfnpaa", sum := "e3fb15c1c53a05ff25ea0fd5ca8d01717e87a30f0897b9e94724edf800142d74", func := "quern/quernlaw10.TreeZero", spec := "treeZero", unfollowed := true, recurses := true, apart := false, narrowed := true }
def TreeZeroUptoSaid : Prop := treeZeroUptoRow.holds Try.pinned (OpenSpec.upto treeZeroSpec)

end Rows
end Go.Proofs.Ytkmgkeodmkfnpaa
