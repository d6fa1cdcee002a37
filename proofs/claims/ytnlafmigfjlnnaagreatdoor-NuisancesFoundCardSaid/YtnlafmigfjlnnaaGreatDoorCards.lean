/-
  DERIVED. GIVEN WITH THE SEED: THE CARDS: each row of YtnlafmigfjlnnaaGreatDoorRows.lean that lists a variable, with what it lists TIED to the program's text (the seventh form; the later family's looks); each row that meets fmt, with fmt's text TOLD by the authors' own Lean function (tested against real Go, not proved from fmt's source: count such statements apart). THE CARD IS WHAT COUNTS. Prove the row's statement (the work); the ties are given (YtnlafmigfjlnnaaGreatDoorTie.lean); close each card by the builder's one call (the guide's Derived/Test/ToyasCard.lean, 'card_holds'). Laid BY PROGRAM, IN A SANDBOX (cutbox-door.mjs). By AI agents, Wed Nov 11 2026. No macro, syntax, notation, axiom, sorry.
-/
import Derived.Test.YtnlafmigfjlnnaaGreatDoorRows
import GoSem.ClaimSeven
namespace Go.Proofs.YtnlafmigfjlnnaaGreatDoor
namespace Rows

/-- THE TIED CARD OF 'loglaw1.NuisancesFound'. -/
def nuisancesFoundCard : Claim7 := { stood := { row := nuisancesFoundRow, standIns := [], harness := (true, "7276376c7d870c7a98044c197de0e8f4bf974f3e7dac095e131e949c113ccf0e"), looks := false }, kinds := [], alts := [], laidByText := true, laidKinds := [.data, .data, .data, .data, .pinned], laidTests := true, laidLooks := .later }
def NuisancesFoundCardSaid : Prop := Claim7.holds Tryz.pinned (.plain (OpenSpec.ofChange nuisancesFoundSpec)) nuisancesFoundCard

/-- THE SECOND FORM's CARD OF 'loglaw1.NuisancesFound'. -/
def nuisancesFoundUptoCard : Claim7 := { stood := { row := nuisancesFoundUptoRow, standIns := [], harness := (true, "7276376c7d870c7a98044c197de0e8f4bf974f3e7dac095e131e949c113ccf0e"), looks := false }, kinds := [], alts := [], laidByText := true, laidKinds := [.data, .data, .data, .data, .pinned], laidTests := true, laidLooks := .later }
def NuisancesFoundUptoCardSaid : Prop := Claim7.holds Tryz.pinned (.plain (OpenSpec.upto nuisancesFoundSpec)) nuisancesFoundUptoCard
end Rows
end Go.Proofs.YtnlafmigfjlnnaaGreatDoor
