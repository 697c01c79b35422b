/-
  DERIVED. GIVEN WITH THE SEED: THE CARDS: each row of YtdndeffmlhaipaaGreatDoorRows.lean that lists a variable, with what it lists TIED to the program's text (the seventh form; the later family's looks); each row that meets fmt, with fmt's text TOLD by the authors' own Lean function (tested against real Go, not proved from fmt's source: count such statements apart). THE CARD IS WHAT COUNTS. Prove the row's statement (the work); the ties are given (YtdndeffmlhaipaaGreatDoorTie.lean); close each card by the builder's one call (the guide's Derived/Test/ToyasCard.lean, 'card_holds'). Laid BY PROGRAM, IN A SANDBOX (cutbox-door.mjs). By AI agents, Wed Nov 11 2026. No macro, syntax, notation, axiom, sorry.
-/
import Derived.Test.YtdndeffmlhaipaaGreatDoorRows
import GoSem.ClaimSeven
namespace Go.Proofs.YtdndeffmlhaipaaGreatDoor
namespace Rows

/-- THE TIED CARD OF 'quernlaw12.ClashSearches'. -/
def clashSearchesCard : Claim7 := { stood := { row := clashSearchesRow, standIns := [], harness := (true, "bc941407716dad680efbebd7b8489b4278e3df41dcfd3160736d96762f77b5fa"), looks := true }, kinds := [], alts := [], laidByText := true, laidKinds := [.data, .data, .data], laidTests := true, laidLooks := .later }
def ClashSearchesCardSaid : Prop := Claim7.holds Tryz.pinned (.plain (OpenSpec.ofChange clashSearchesSpec)) clashSearchesCard

/-- THE TIED CARD OF 'quernlaw12.ClashMeets'. -/
def clashMeetsCard : Claim7 := { stood := { row := clashMeetsRow, standIns := [], harness := (true, "bc941407716dad680efbebd7b8489b4278e3df41dcfd3160736d96762f77b5fa"), looks := true }, kinds := [], alts := [], laidByText := true, laidKinds := [.data, .data, .data], laidTests := true, laidLooks := .later }
def ClashMeetsCardSaid : Prop := Claim7.holds Tryz.pinned (.plain (OpenSpec.ofChange clashMeetsSpec)) clashMeetsCard

/-- THE TIED CARD OF 'quernlaw12.ClashFound'. -/
def clashFoundCard : Claim7 := { stood := { row := clashFoundRow, standIns := [], harness := (true, "bc941407716dad680efbebd7b8489b4278e3df41dcfd3160736d96762f77b5fa"), looks := true }, kinds := [], alts := [], laidByText := true, laidKinds := [.data, .data, .data], laidTests := true, laidLooks := .later }
def ClashFoundCardSaid : Prop := Claim7.holds Tryz.pinned (.plain (OpenSpec.ofChange clashFoundSpec)) clashFoundCard

/-- THE SECOND FORM's CARD OF 'quernlaw12.ClashSearches'. -/
def clashSearchesUptoCard : Claim7 := { stood := { row := clashSearchesUptoRow, standIns := [], harness := (true, "bc941407716dad680efbebd7b8489b4278e3df41dcfd3160736d96762f77b5fa"), looks := true }, kinds := [], alts := [], laidByText := true, laidKinds := [.data, .data, .data], laidTests := true, laidLooks := .later }
def ClashSearchesUptoCardSaid : Prop := Claim7.holds Tryz.pinned (.plain (OpenSpec.upto clashSearchesSpec)) clashSearchesUptoCard

/-- THE SECOND FORM's CARD OF 'quernlaw12.ClashMeets'. -/
def clashMeetsUptoCard : Claim7 := { stood := { row := clashMeetsUptoRow, standIns := [], harness := (true, "bc941407716dad680efbebd7b8489b4278e3df41dcfd3160736d96762f77b5fa"), looks := true }, kinds := [], alts := [], laidByText := true, laidKinds := [.data, .data, .data], laidTests := true, laidLooks := .later }
def ClashMeetsUptoCardSaid : Prop := Claim7.holds Tryz.pinned (.plain (OpenSpec.upto clashMeetsSpec)) clashMeetsUptoCard

/-- THE SECOND FORM's CARD OF 'quernlaw12.ClashFound'. -/
def clashFoundUptoCard : Claim7 := { stood := { row := clashFoundUptoRow, standIns := [], harness := (true, "bc941407716dad680efbebd7b8489b4278e3df41dcfd3160736d96762f77b5fa"), looks := true }, kinds := [], alts := [], laidByText := true, laidKinds := [.data, .data, .data], laidTests := true, laidLooks := .later }
def ClashFoundUptoCardSaid : Prop := Claim7.holds Tryz.pinned (.plain (OpenSpec.upto clashFoundSpec)) clashFoundUptoCard
end Rows
end Go.Proofs.YtdndeffmlhaipaaGreatDoor
