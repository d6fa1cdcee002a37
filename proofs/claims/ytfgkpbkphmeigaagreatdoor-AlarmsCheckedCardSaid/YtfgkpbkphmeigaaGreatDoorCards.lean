/-
  DERIVED. GIVEN WITH THE SEED: THE CARDS: each row of YtfgkpbkphmeigaaGreatDoorRows.lean that lists a variable, with what it lists TIED to the program's text (the seventh form; the later family's looks); each row that meets fmt, with fmt's text TOLD by the authors' own Lean function (tested against real Go, not proved from fmt's source: count such statements apart). THE CARD IS WHAT COUNTS. Prove the row's statement (the work); the ties are given (YtfgkpbkphmeigaaGreatDoorTie.lean); close each card by the builder's one call (the guide's Derived/Test/ToyasCard.lean, 'card_holds'). Laid BY PROGRAM, IN A SANDBOX (cutbox-door.mjs). By AI agents, Wed Nov 11 2026. No macro, syntax, notation, axiom, sorry.
-/
import Derived.Test.YtfgkpbkphmeigaaGreatDoorRows
import GoSem.ClaimSeven
namespace Go.Proofs.YtfgkpbkphmeigaaGreatDoor
namespace Rows

/-- THE TIED CARD OF 'loglaw1.AlarmsChecked'. -/
def alarmsCheckedCard : Claim7 := { stood := { row := alarmsCheckedRow, standIns := [], harness := (true, "be1ada4b65f6fac56b5a0d5985077c52f90f550a6adb912457daf4c43d886e71"), looks := true }, kinds := [], alts := [], laidByText := true, laidKinds := [.data, .data, .data, .data, .sentinel, .sentinel, .pinned], laidTests := true, laidLooks := .later }
def AlarmsCheckedCardSaid : Prop := Claim7.holds Tryz.pinned (.plain (OpenSpec.ofChange alarmsCheckedSpec)) alarmsCheckedCard

/-- THE TIED CARD OF 'loglaw1.MaterialTraced'. -/
def materialTracedCard : Claim7 := { stood := { row := materialTracedRow, standIns := [], harness := (true, "be1ada4b65f6fac56b5a0d5985077c52f90f550a6adb912457daf4c43d886e71"), looks := true }, kinds := [], alts := [], laidByText := true, laidKinds := [.data, .data, .data, .data, .sentinel, .sentinel, .pinned], laidTests := true, laidLooks := .later }
def MaterialTracedCardSaid : Prop := Claim7.holds Tryz.pinned (.plain (OpenSpec.ofChange materialTracedSpec)) materialTracedCard

/-- THE TIED CARD OF 'loglaw1.NuisancesFound'. -/
def nuisancesFoundCard : Claim7 := { stood := { row := nuisancesFoundRow, standIns := [], harness := (true, "be1ada4b65f6fac56b5a0d5985077c52f90f550a6adb912457daf4c43d886e71"), looks := true }, kinds := [], alts := [], laidByText := true, laidKinds := [.data, .data, .data, .data, .pinned], laidTests := true, laidLooks := .later }
def NuisancesFoundCardSaid : Prop := Claim7.holds Tryz.pinned (.plain (OpenSpec.ofChange nuisancesFoundSpec)) nuisancesFoundCard

/-- THE SECOND FORM's CARD OF 'loglaw1.AlarmsChecked'. -/
def alarmsCheckedUptoCard : Claim7 := { stood := { row := alarmsCheckedUptoRow, standIns := [], harness := (true, "be1ada4b65f6fac56b5a0d5985077c52f90f550a6adb912457daf4c43d886e71"), looks := true }, kinds := [], alts := [], laidByText := true, laidKinds := [.data, .data, .data, .data, .sentinel, .sentinel, .pinned], laidTests := true, laidLooks := .later }
def AlarmsCheckedUptoCardSaid : Prop := Claim7.holds Tryz.pinned (.plain (OpenSpec.upto alarmsCheckedSpec)) alarmsCheckedUptoCard

/-- THE SECOND FORM's CARD OF 'loglaw1.MaterialTraced'. -/
def materialTracedUptoCard : Claim7 := { stood := { row := materialTracedUptoRow, standIns := [], harness := (true, "be1ada4b65f6fac56b5a0d5985077c52f90f550a6adb912457daf4c43d886e71"), looks := true }, kinds := [], alts := [], laidByText := true, laidKinds := [.data, .data, .data, .data, .sentinel, .sentinel, .pinned], laidTests := true, laidLooks := .later }
def MaterialTracedUptoCardSaid : Prop := Claim7.holds Tryz.pinned (.plain (OpenSpec.upto materialTracedSpec)) materialTracedUptoCard

/-- THE SECOND FORM's CARD OF 'loglaw1.NuisancesFound'. -/
def nuisancesFoundUptoCard : Claim7 := { stood := { row := nuisancesFoundUptoRow, standIns := [], harness := (true, "be1ada4b65f6fac56b5a0d5985077c52f90f550a6adb912457daf4c43d886e71"), looks := true }, kinds := [], alts := [], laidByText := true, laidKinds := [.data, .data, .data, .data, .pinned], laidTests := true, laidLooks := .later }
def NuisancesFoundUptoCardSaid : Prop := Claim7.holds Tryz.pinned (.plain (OpenSpec.upto nuisancesFoundSpec)) nuisancesFoundUptoCard
end Rows
end Go.Proofs.YtfgkpbkphmeigaaGreatDoor
