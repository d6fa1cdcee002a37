/-
  DERIVED. GIVEN WITH THE SEED: THE CARDS: each row of YthdgbghephnlpaaGreatDoorRows.lean that lists a variable, with what it lists TIED to the program's text (the seventh form; the later family's looks); each row that meets fmt, with fmt's text TOLD by the authors' own Lean function (tested against real Go, not proved from fmt's source: count such statements apart). THE CARD IS WHAT COUNTS. Prove the row's statement (the work); the ties are given (YthdgbghephnlpaaGreatDoorTie.lean); close each card by the builder's one call (the guide's Derived/Test/ToyasCard.lean, 'card_holds'). Laid BY PROGRAM, IN A SANDBOX (cutbox-door.mjs). By AI agents, Wed Nov 11 2026. No macro, syntax, notation, axiom, sorry.
-/
import Derived.Test.YthdgbghephnlpaaGreatDoorRows
import GoSem.ClaimSeven
namespace Go.Proofs.YthdgbghephnlpaaGreatDoor
namespace Rows

/-- THE TIED CARD OF 'logkeep1.SharesAddUp'. -/
def sharesAddUpCard : Claim7 := { stood := { row := sharesAddUpRow, standIns := [], harness := (true, "eb1604cc741f8f156b9c61dd121e8b2e93c2d4c5a117da7a6357c044c4646cc6"), looks := true }, kinds := [], alts := [], laidByText := true, laidKinds := [.data, .pinned], laidTests := true, laidLooks := .later }
def SharesAddUpCardSaid : Prop := Claim7.holds Tryz.pinned (.plain (OpenSpec.ofChange sharesAddUpSpec)) sharesAddUpCard

/-- THE TIED CARD OF 'logkeep1.BatchesStay'. -/
def batchesStayCard : Claim7 := { stood := { row := batchesStayRow, standIns := [], harness := (true, "eb1604cc741f8f156b9c61dd121e8b2e93c2d4c5a117da7a6357c044c4646cc6"), looks := true }, kinds := [], alts := [], laidByText := true, laidKinds := [.data, .pinned], laidTests := true, laidLooks := .later }
def BatchesStayCardSaid : Prop := Claim7.holds Tryz.pinned (.plain (OpenSpec.ofChange batchesStaySpec)) batchesStayCard

/-- THE TIED CARD OF 'logkeep1.AlarmsComeBack'. -/
def alarmsComeBackCard : Claim7 := { stood := { row := alarmsComeBackRow, standIns := [], harness := (true, "eb1604cc741f8f156b9c61dd121e8b2e93c2d4c5a117da7a6357c044c4646cc6"), looks := true }, kinds := [], alts := [], laidByText := true, laidKinds := [.data, .data, .data, .data, .sentinel, .sentinel, .pinned], laidTests := true, laidLooks := .later }
def AlarmsComeBackCardSaid : Prop := Claim7.holds Tryz.pinned (.plain (OpenSpec.ofChange alarmsComeBackSpec)) alarmsComeBackCard

/-- THE TIED CARD OF 'logkeep1.TransfersComeBack'. -/
def transfersComeBackCard : Claim7 := { stood := { row := transfersComeBackRow, standIns := [], harness := (true, "eb1604cc741f8f156b9c61dd121e8b2e93c2d4c5a117da7a6357c044c4646cc6"), looks := true }, kinds := [], alts := [], laidByText := true, laidKinds := [.data, .data, .data, .data, .sentinel, .sentinel, .pinned], laidTests := true, laidLooks := .later }
def TransfersComeBackCardSaid : Prop := Claim7.holds Tryz.pinned (.plain (OpenSpec.ofChange transfersComeBackSpec)) transfersComeBackCard

/-- THE SECOND FORM's CARD OF 'logkeep1.SharesAddUp'. -/
def sharesAddUpUptoCard : Claim7 := { stood := { row := sharesAddUpUptoRow, standIns := [], harness := (true, "eb1604cc741f8f156b9c61dd121e8b2e93c2d4c5a117da7a6357c044c4646cc6"), looks := true }, kinds := [], alts := [], laidByText := true, laidKinds := [.data, .pinned], laidTests := true, laidLooks := .later }
def SharesAddUpUptoCardSaid : Prop := Claim7.holds Tryz.pinned (.plain (OpenSpec.upto sharesAddUpSpec)) sharesAddUpUptoCard

/-- THE SECOND FORM's CARD OF 'logkeep1.BatchesStay'. -/
def batchesStayUptoCard : Claim7 := { stood := { row := batchesStayUptoRow, standIns := [], harness := (true, "eb1604cc741f8f156b9c61dd121e8b2e93c2d4c5a117da7a6357c044c4646cc6"), looks := true }, kinds := [], alts := [], laidByText := true, laidKinds := [.data, .pinned], laidTests := true, laidLooks := .later }
def BatchesStayUptoCardSaid : Prop := Claim7.holds Tryz.pinned (.plain (OpenSpec.upto batchesStaySpec)) batchesStayUptoCard

/-- THE SECOND FORM's CARD OF 'logkeep1.AlarmsComeBack'. -/
def alarmsComeBackUptoCard : Claim7 := { stood := { row := alarmsComeBackUptoRow, standIns := [], harness := (true, "eb1604cc741f8f156b9c61dd121e8b2e93c2d4c5a117da7a6357c044c4646cc6"), looks := true }, kinds := [], alts := [], laidByText := true, laidKinds := [.data, .data, .data, .data, .sentinel, .sentinel, .pinned], laidTests := true, laidLooks := .later }
def AlarmsComeBackUptoCardSaid : Prop := Claim7.holds Tryz.pinned (.plain (OpenSpec.upto alarmsComeBackSpec)) alarmsComeBackUptoCard

/-- THE SECOND FORM's CARD OF 'logkeep1.TransfersComeBack'. -/
def transfersComeBackUptoCard : Claim7 := { stood := { row := transfersComeBackUptoRow, standIns := [], harness := (true, "eb1604cc741f8f156b9c61dd121e8b2e93c2d4c5a117da7a6357c044c4646cc6"), looks := true }, kinds := [], alts := [], laidByText := true, laidKinds := [.data, .data, .data, .data, .sentinel, .sentinel, .pinned], laidTests := true, laidLooks := .later }
def TransfersComeBackUptoCardSaid : Prop := Claim7.holds Tryz.pinned (.plain (OpenSpec.upto transfersComeBackSpec)) transfersComeBackUptoCard
end Rows
end Go.Proofs.YthdgbghephnlpaaGreatDoor
