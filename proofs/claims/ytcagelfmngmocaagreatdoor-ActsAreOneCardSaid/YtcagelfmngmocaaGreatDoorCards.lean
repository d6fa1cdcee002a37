/-
  DERIVED. GIVEN WITH THE SEED: THE CARDS: each row of YtcagelfmngmocaaGreatDoorRows.lean that lists a variable, with what it lists TIED to the program's text (the seventh form; the later family's looks); each row that meets fmt, with fmt's text TOLD by the authors' own Lean function (tested against real Go, not proved from fmt's source: count such statements apart). THE CARD IS WHAT COUNTS. Prove the row's statement (the work); the ties are given (YtcagelfmngmocaaGreatDoorTie.lean); close each card by the builder's one call (the guide's Derived/Test/ToyasCard.lean, 'card_holds'). Laid BY PROGRAM, IN A SANDBOX (cutbox-door.mjs). By AI agents, Wed Nov 11 2026. No macro, syntax, notation, axiom, sorry.
-/
import Derived.Test.YtcagelfmngmocaaGreatDoorRows
import GoSem.ClaimSeven
namespace Go.Proofs.YtcagelfmngmocaaGreatDoor
namespace Rows

/-- THE TIED CARD OF 'logkeep1.StatesAreLogged'. -/
def statesAreLoggedCard : Claim7 := { stood := { row := statesAreLoggedRow, standIns := [], harness := (true, "fd0df243ad6b7dbe13d3e1092a0528125e6fa6d8fc736023918031da143f9672"), looks := true }, kinds := [], alts := [], laidByText := true, laidKinds := [.data, .pinned], laidTests := true, laidLooks := .later }
def StatesAreLoggedCardSaid : Prop := Claim7.holds Tryz.pinned (.plain (OpenSpec.ofChange statesAreLoggedSpec)) statesAreLoggedCard

/-- THE TIED CARD OF 'logkeep1.AlarmsStay'. -/
def alarmsStayCard : Claim7 := { stood := { row := alarmsStayRow, standIns := [], harness := (true, "fd0df243ad6b7dbe13d3e1092a0528125e6fa6d8fc736023918031da143f9672"), looks := true }, kinds := [], alts := [], laidByText := true, laidKinds := [.data, .pinned], laidTests := true, laidLooks := .later }
def AlarmsStayCardSaid : Prop := Claim7.holds Tryz.pinned (.plain (OpenSpec.ofChange alarmsStaySpec)) alarmsStayCard

/-- THE TIED CARD OF 'logkeep1.ActsAreOne'. -/
def actsAreOneCard : Claim7 := { stood := { row := actsAreOneRow, standIns := [], harness := (true, "fd0df243ad6b7dbe13d3e1092a0528125e6fa6d8fc736023918031da143f9672"), looks := true }, kinds := [], alts := [], laidByText := true, laidKinds := [.data, .pinned], laidTests := true, laidLooks := .later }
def ActsAreOneCardSaid : Prop := Claim7.holds Tryz.pinned (.plain (OpenSpec.ofChange actsAreOneSpec)) actsAreOneCard

/-- THE TIED CARD OF 'logkeep1.AlarmsComeBack'. -/
def alarmsComeBackCard : Claim7 := { stood := { row := alarmsComeBackRow, standIns := [], harness := (true, "fd0df243ad6b7dbe13d3e1092a0528125e6fa6d8fc736023918031da143f9672"), looks := true }, kinds := [], alts := [], laidByText := true, laidKinds := [.data, .data, .data, .data, .sentinel, .sentinel, .pinned], laidTests := true, laidLooks := .later }
def AlarmsComeBackCardSaid : Prop := Claim7.holds Tryz.pinned (.plain (OpenSpec.ofChange alarmsComeBackSpec)) alarmsComeBackCard

/-- THE SECOND FORM's CARD OF 'logkeep1.StatesAreLogged'. -/
def statesAreLoggedUptoCard : Claim7 := { stood := { row := statesAreLoggedUptoRow, standIns := [], harness := (true, "fd0df243ad6b7dbe13d3e1092a0528125e6fa6d8fc736023918031da143f9672"), looks := true }, kinds := [], alts := [], laidByText := true, laidKinds := [.data, .pinned], laidTests := true, laidLooks := .later }
def StatesAreLoggedUptoCardSaid : Prop := Claim7.holds Tryz.pinned (.plain (OpenSpec.upto statesAreLoggedSpec)) statesAreLoggedUptoCard

/-- THE SECOND FORM's CARD OF 'logkeep1.AlarmsStay'. -/
def alarmsStayUptoCard : Claim7 := { stood := { row := alarmsStayUptoRow, standIns := [], harness := (true, "fd0df243ad6b7dbe13d3e1092a0528125e6fa6d8fc736023918031da143f9672"), looks := true }, kinds := [], alts := [], laidByText := true, laidKinds := [.data, .pinned], laidTests := true, laidLooks := .later }
def AlarmsStayUptoCardSaid : Prop := Claim7.holds Tryz.pinned (.plain (OpenSpec.upto alarmsStaySpec)) alarmsStayUptoCard

/-- THE SECOND FORM's CARD OF 'logkeep1.ActsAreOne'. -/
def actsAreOneUptoCard : Claim7 := { stood := { row := actsAreOneUptoRow, standIns := [], harness := (true, "fd0df243ad6b7dbe13d3e1092a0528125e6fa6d8fc736023918031da143f9672"), looks := true }, kinds := [], alts := [], laidByText := true, laidKinds := [.data, .pinned], laidTests := true, laidLooks := .later }
def ActsAreOneUptoCardSaid : Prop := Claim7.holds Tryz.pinned (.plain (OpenSpec.upto actsAreOneSpec)) actsAreOneUptoCard

/-- THE SECOND FORM's CARD OF 'logkeep1.AlarmsComeBack'. -/
def alarmsComeBackUptoCard : Claim7 := { stood := { row := alarmsComeBackUptoRow, standIns := [], harness := (true, "fd0df243ad6b7dbe13d3e1092a0528125e6fa6d8fc736023918031da143f9672"), looks := true }, kinds := [], alts := [], laidByText := true, laidKinds := [.data, .data, .data, .data, .sentinel, .sentinel, .pinned], laidTests := true, laidLooks := .later }
def AlarmsComeBackUptoCardSaid : Prop := Claim7.holds Tryz.pinned (.plain (OpenSpec.upto alarmsComeBackSpec)) alarmsComeBackUptoCard
end Rows
end Go.Proofs.YtcagelfmngmocaaGreatDoor
