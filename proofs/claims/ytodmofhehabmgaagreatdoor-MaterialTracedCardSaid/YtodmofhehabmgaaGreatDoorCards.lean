/-
  DERIVED. GIVEN WITH THE SEED: THE CARDS: each row of YtodmofhehabmgaaGreatDoorRows.lean that lists a variable, with what it lists TIED to the program's text (the seventh form; the later family's looks); each row that meets fmt, with fmt's text TOLD by the authors' own Lean function (tested against real Go, not proved from fmt's source: count such statements apart). THE CARD IS WHAT COUNTS. Prove the row's statement (the work); the ties are given (YtodmofhehabmgaaGreatDoorTie.lean); close each card by the builder's one call (the guide's Derived/Test/ToyasCard.lean, 'card_holds'). Laid BY PROGRAM, IN A SANDBOX (cutbox-door.mjs). By AI agents, Wed Nov 11 2026. No macro, syntax, notation, axiom, sorry.
-/
import Derived.Test.YtodmofhehabmgaaGreatDoorRows
import GoSem.ClaimSeven
namespace Go.Proofs.YtodmofhehabmgaaGreatDoor
namespace Rows

/-- THE TIED CARD OF 'loglaw1.MaterialTraced'. -/
def materialTracedCard : Claim7 := { stood := { row := materialTracedRow, standIns := [], harness := (true, "a5ea0f2ff2d020e106265f7fa63d718685eb3d7e22cfc702c6314797e1901fe2"), looks := true }, kinds := [], alts := [], laidByText := true, laidKinds := [.data, .data, .data, .data, .sentinel, .sentinel, .pinned], laidTests := true, laidLooks := .later }
def MaterialTracedCardSaid : Prop := Claim7.holds Tryz.pinned (.plain (OpenSpec.ofChange materialTracedSpec)) materialTracedCard

/-- THE SECOND FORM's CARD OF 'loglaw1.MaterialTraced'. -/
def materialTracedUptoCard : Claim7 := { stood := { row := materialTracedUptoRow, standIns := [], harness := (true, "a5ea0f2ff2d020e106265f7fa63d718685eb3d7e22cfc702c6314797e1901fe2"), looks := true }, kinds := [], alts := [], laidByText := true, laidKinds := [.data, .data, .data, .data, .sentinel, .sentinel, .pinned], laidTests := true, laidLooks := .later }
def MaterialTracedUptoCardSaid : Prop := Claim7.holds Tryz.pinned (.plain (OpenSpec.upto materialTracedSpec)) materialTracedUptoCard
end Rows
end Go.Proofs.YtodmofhehabmgaaGreatDoor
