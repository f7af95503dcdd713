/-
  DERIVED. GIVEN WITH THE SEED: THE CARDS: each row of YtjilhkjgejnmpaaGreatDoorRows.lean that lists a variable, with what it lists TIED to the program's text (the seventh form; the later family's looks); each row that meets fmt, with fmt's text TOLD by the authors' own Lean function (tested against real Go, not proved from fmt's source: count such statements apart). THE CARD IS WHAT COUNTS. Prove the row's statement (the work); the ties are given (YtjilhkjgejnmpaaGreatDoorTie.lean); close each card by the builder's one call (the guide's Derived/Test/ToyasCard.lean, 'card_holds'). Laid BY PROGRAM, IN A SANDBOX (cutbox-door.mjs). By AI agents, Wed Nov 11 2026. No macro, syntax, notation, axiom, sorry.
-/
import Derived.Test.YtjilhkjgejnmpaaGreatDoorRows
import GoSem.ClaimSeven
namespace Go.Proofs.YtjilhkjgejnmpaaGreatDoor
namespace Rows

/-- THE TIED CARD OF 'typedholeslaw21.InferLarge'. -/
def inferLargeCard : Claim7 := { stood := { row := inferLargeRow, standIns := [], harness := (true, "cca70ef247bfce70975d705015f1587c609285f3636bb8558126fbe89ec50e5f"), looks := true }, kinds := [], alts := [], laidByText := true, laidKinds := [.handle], laidTests := true, laidLooks := .later }
def InferLargeCardSaid : Prop := Claim7.holds Tryz.pinned (.plain (OpenSpec.ofChange inferLargeSpec)) inferLargeCard

/-- THE TIED CARD OF 'typedholeslaw22.CheckEscapes'. -/
def checkEscapesCard : Claim7 := { stood := { row := checkEscapesRow, standIns := [], harness := (true, "cca70ef247bfce70975d705015f1587c609285f3636bb8558126fbe89ec50e5f"), looks := true }, kinds := [], alts := [], laidByText := true, laidKinds := [.handle], laidTests := true, laidLooks := .later }
def CheckEscapesCardSaid : Prop := Claim7.holds Tryz.pinned (.plain (OpenSpec.ofChange checkEscapesSpec)) checkEscapesCard

/-- THE SECOND FORM's CARD OF 'typedholeslaw21.InferLarge'. -/
def inferLargeUptoCard : Claim7 := { stood := { row := inferLargeUptoRow, standIns := [], harness := (true, "cca70ef247bfce70975d705015f1587c609285f3636bb8558126fbe89ec50e5f"), looks := true }, kinds := [], alts := [], laidByText := true, laidKinds := [.handle], laidTests := true, laidLooks := .later }
def InferLargeUptoCardSaid : Prop := Claim7.holds Tryz.pinned (.plain (OpenSpec.upto inferLargeSpec)) inferLargeUptoCard

/-- THE SECOND FORM's CARD OF 'typedholeslaw22.CheckEscapes'. -/
def checkEscapesUptoCard : Claim7 := { stood := { row := checkEscapesUptoRow, standIns := [], harness := (true, "cca70ef247bfce70975d705015f1587c609285f3636bb8558126fbe89ec50e5f"), looks := true }, kinds := [], alts := [], laidByText := true, laidKinds := [.handle], laidTests := true, laidLooks := .later }
def CheckEscapesUptoCardSaid : Prop := Claim7.holds Tryz.pinned (.plain (OpenSpec.upto checkEscapesSpec)) checkEscapesUptoCard
end Rows
end Go.Proofs.YtjilhkjgejnmpaaGreatDoor
