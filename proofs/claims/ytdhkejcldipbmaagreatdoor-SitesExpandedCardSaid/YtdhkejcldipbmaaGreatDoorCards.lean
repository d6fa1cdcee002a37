/-
  DERIVED. GIVEN WITH THE SEED: THE CARDS: each row of YtdhkejcldipbmaaGreatDoorRows.lean that lists a variable, with what it lists TIED to the program's text (the seventh form; the later family's looks); each row that meets fmt, with fmt's text TOLD by the authors' own Lean function (tested against real Go, not proved from fmt's source: count such statements apart). THE CARD IS WHAT COUNTS. Prove the row's statement (the work); the ties are given (YtdhkejcldipbmaaGreatDoorTie.lean); close each card by the builder's one call (the guide's Derived/Test/ToyasCard.lean, 'card_holds'). Laid BY PROGRAM, IN A SANDBOX (cutbox-door.mjs). By AI agents, Wed Nov 11 2026. No macro, syntax, notation, axiom, sorry.
-/
import Derived.Test.YtdhkejcldipbmaaGreatDoorRows
import GoSem.ClaimSeven
namespace Go.Proofs.YtdhkejcldipbmaaGreatDoor
namespace Rows

/-- THE TIED CARD OF 'loglaw1.SitesExpanded'. -/
def sitesExpandedCard : Claim7 := { stood := { row := sitesExpandedRow, standIns := [], harness := (true, "4b9e1ff7b3d7c40eb1ba3161a77b58556797e741dadfbb3a76223c03d9291389"), looks := true }, kinds := [], alts := [], laidByText := true, laidKinds := [.data, .data, .data, .data, .sentinel, .sentinel, .pinned], laidTests := true, laidLooks := .later }
def SitesExpandedCardSaid : Prop := Claim7.holds Tryz.pinned (.plain (OpenSpec.ofChange sitesExpandedSpec)) sitesExpandedCard

/-- THE SECOND FORM's CARD OF 'loglaw1.SitesExpanded'. -/
def sitesExpandedUptoCard : Claim7 := { stood := { row := sitesExpandedUptoRow, standIns := [], harness := (true, "4b9e1ff7b3d7c40eb1ba3161a77b58556797e741dadfbb3a76223c03d9291389"), looks := true }, kinds := [], alts := [], laidByText := true, laidKinds := [.data, .data, .data, .data, .sentinel, .sentinel, .pinned], laidTests := true, laidLooks := .later }
def SitesExpandedUptoCardSaid : Prop := Claim7.holds Tryz.pinned (.plain (OpenSpec.upto sitesExpandedSpec)) sitesExpandedUptoCard
end Rows
end Go.Proofs.YtdhkejcldipbmaaGreatDoor
