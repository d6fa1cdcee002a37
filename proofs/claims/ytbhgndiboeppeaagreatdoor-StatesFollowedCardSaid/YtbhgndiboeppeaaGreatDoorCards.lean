/-
  DERIVED. GIVEN WITH THE SEED: THE CARDS: each row of YtbhgndiboeppeaaGreatDoorRows.lean that lists a variable, with what it lists TIED to the program's text (the seventh form; the later family's looks); each row that meets fmt, with fmt's text TOLD by the authors' own Lean function (tested against real Go, not proved from fmt's source: count such statements apart). THE CARD IS WHAT COUNTS. Prove the row's statement (the work); the ties are given (YtbhgndiboeppeaaGreatDoorTie.lean); close each card by the builder's one call (the guide's Derived/Test/ToyasCard.lean, 'card_holds'). Laid BY PROGRAM, IN A SANDBOX (cutbox-door.mjs). By AI agents, Wed Nov 11 2026. No macro, syntax, notation, axiom, sorry.
-/
import Derived.Test.YtbhgndiboeppeaaGreatDoorRows
import GoSem.ClaimSeven
namespace Go.Proofs.YtbhgndiboeppeaaGreatDoor
namespace Rows

/-- THE TIED CARD OF 'loglaw1.StatesFollowed'. -/
def statesFollowedCard : Claim7 := { stood := { row := statesFollowedRow, standIns := [], harness := (true, "0702e4c6469c2c35360da782751f8da5065f2413575c4dc15723fcba8b27ed76"), looks := false }, kinds := [], alts := [], laidByText := true, laidKinds := [.data, .pinned], laidTests := true, laidLooks := .later }
def StatesFollowedCardSaid : Prop := Claim7.holds Tryz.pinned (.plain (OpenSpec.ofChange statesFollowedSpec)) statesFollowedCard

/-- THE SECOND FORM's CARD OF 'loglaw1.StatesFollowed'. -/
def statesFollowedUptoCard : Claim7 := { stood := { row := statesFollowedUptoRow, standIns := [], harness := (true, "0702e4c6469c2c35360da782751f8da5065f2413575c4dc15723fcba8b27ed76"), looks := false }, kinds := [], alts := [], laidByText := true, laidKinds := [.data, .pinned], laidTests := true, laidLooks := .later }
def StatesFollowedUptoCardSaid : Prop := Claim7.holds Tryz.pinned (.plain (OpenSpec.upto statesFollowedSpec)) statesFollowedUptoCard
end Rows
end Go.Proofs.YtbhgndiboeppeaaGreatDoor
