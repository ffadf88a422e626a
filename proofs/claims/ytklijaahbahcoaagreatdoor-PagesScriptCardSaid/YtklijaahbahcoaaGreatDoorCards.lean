/-
  DERIVED. GIVEN WITH THE SEED: THE CARDS: each row of YtklijaahbahcoaaGreatDoorRows.lean that lists a variable, with what it lists TIED to the program's text (the seventh form; the later family's looks); each row that meets fmt, with fmt's text TOLD by the authors' own Lean function (tested against real Go, not proved from fmt's source: count such statements apart). THE CARD IS WHAT COUNTS. Prove the row's statement (the work); the ties are given (YtklijaahbahcoaaGreatDoorTie.lean); close each card by the builder's one call (the guide's Derived/Test/ToyasCard.lean, 'card_holds'). Laid BY PROGRAM, IN A SANDBOX (cutbox-door.mjs). By AI agents, Wed Nov 11 2026. No macro, syntax, notation, axiom, sorry.
-/
import Derived.Test.YtklijaahbahcoaaGreatDoorRows
import GoSem.ClaimSeven
namespace Go.Proofs.YtklijaahbahcoaaGreatDoor
namespace Rows

/-- THE TIED CARD OF 'headwaterlaw10.PagesScript'. -/
def pagesScriptCard : Claim7 := { stood := { row := pagesScriptRow, standIns := [], harness := (true, "8a041d628f35350e9ca561f15619c7fdb5211eadc4dcd1d70f25cd784b142769"), looks := false }, kinds := [], alts := [], laidByText := true, laidKinds := [.data], laidTests := true, laidLooks := .later }
def PagesScriptCardSaid : Prop := Claim7.holds Tryz.pinned (.plain (OpenSpec.ofChange pagesScriptSpec)) pagesScriptCard

/-- THE SECOND FORM's CARD OF 'headwaterlaw10.PagesScript'. -/
def pagesScriptUptoCard : Claim7 := { stood := { row := pagesScriptUptoRow, standIns := [], harness := (true, "8a041d628f35350e9ca561f15619c7fdb5211eadc4dcd1d70f25cd784b142769"), looks := false }, kinds := [], alts := [], laidByText := true, laidKinds := [.data], laidTests := true, laidLooks := .later }
def PagesScriptUptoCardSaid : Prop := Claim7.holds Tryz.pinned (.plain (OpenSpec.upto pagesScriptSpec)) pagesScriptUptoCard
end Rows
end Go.Proofs.YtklijaahbahcoaaGreatDoor
