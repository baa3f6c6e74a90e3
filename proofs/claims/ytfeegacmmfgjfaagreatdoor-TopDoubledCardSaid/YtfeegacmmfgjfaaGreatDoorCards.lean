/-
  DERIVED. GIVEN WITH THE SEED: THE CARDS: each row of YtfeegacmmfgjfaaGreatDoorRows.lean that lists a variable, with what it lists TIED to the program's text (the seventh form; the later family's looks); each row that meets fmt, with fmt's text TOLD by the authors' own Lean function (tested against real Go, not proved from fmt's source: count such statements apart). THE CARD IS WHAT COUNTS. Prove the row's statement (the work); the ties are given (YtfeegacmmfgjfaaGreatDoorTie.lean); close each card by the builder's one call (the guide's Derived/Test/ToyasCard.lean, 'card_holds'). Laid BY PROGRAM, IN A SANDBOX (cutbox-door.mjs). By AI agents, Wed Nov 11 2026. No macro, syntax, notation, axiom, sorry.
-/
import Derived.Test.YtfeegacmmfgjfaaGreatDoorRows
import GoSem.ClaimSeven
namespace Go.Proofs.YtfeegacmmfgjfaaGreatDoor
namespace Rows

/-- THE TIED CARD OF 'abugidatop.TopDoubled'. -/
def topDoubledCard : Claim7 := { stood := { row := topDoubledRow, standIns := [], harness := (true, "0f52e672ff9cdbe451c9dc0c2ba3927eb2c60f092fd86d46bb3749342eca760a"), looks := true }, kinds := [], alts := [], laidByText := true, laidKinds := [.data, .data, .data], laidTests := true, laidLooks := .later }
def TopDoubledCardSaid : Prop := Claim7.holds Tryz.pinned (.plain (OpenSpec.ofChange topDoubledSpec)) topDoubledCard

/-- THE SECOND FORM's CARD OF 'abugidatop.TopDoubled'. -/
def topDoubledUptoCard : Claim7 := { stood := { row := topDoubledUptoRow, standIns := [], harness := (true, "0f52e672ff9cdbe451c9dc0c2ba3927eb2c60f092fd86d46bb3749342eca760a"), looks := true }, kinds := [], alts := [], laidByText := true, laidKinds := [.data, .data, .data], laidTests := true, laidLooks := .later }
def TopDoubledUptoCardSaid : Prop := Claim7.holds Tryz.pinned (.plain (OpenSpec.upto topDoubledSpec)) topDoubledUptoCard
end Rows
end Go.Proofs.YtfeegacmmfgjfaaGreatDoor
