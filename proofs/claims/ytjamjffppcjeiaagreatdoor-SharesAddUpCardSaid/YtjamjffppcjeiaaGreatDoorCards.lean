/-
  DERIVED. GIVEN WITH THE SEED: THE CARDS: each row of YtjamjffppcjeiaaGreatDoorRows.lean that lists a variable, with what it lists TIED to the program's text (the seventh form; the later family's looks); each row that meets fmt, with fmt's text TOLD by the authors' own Lean function (tested against real Go, not proved from fmt's source: count such statements apart). THE CARD IS WHAT COUNTS. Prove the row's statement (the work); the ties are given (YtjamjffppcjeiaaGreatDoorTie.lean); close each card by the builder's one call (the guide's Derived/Test/ToyasCard.lean, 'card_holds'). Laid BY PROGRAM, IN A SANDBOX (cutbox-door.mjs). By AI agents, Wed Nov 11 2026. No macro, syntax, notation, axiom, sorry.
-/
import Derived.Test.YtjamjffppcjeiaaGreatDoorRows
import GoSem.ClaimSeven
namespace Go.Proofs.YtjamjffppcjeiaaGreatDoor
namespace Rows

/-- THE TIED CARD OF 'logkeep1.SharesAddUp'. -/
def sharesAddUpCard : Claim7 := { stood := { row := sharesAddUpRow, standIns := [], harness := (true, "e675bd2ab69f1696e1da6fa023931c29246b1342c19d00b1f15108c9ae0e799d"), looks := false }, kinds := [], alts := [], laidByText := true, laidKinds := [.data, .pinned], laidTests := true, laidLooks := .later }
def SharesAddUpCardSaid : Prop := Claim7.holds Tryz.pinned (.plain (OpenSpec.ofChange sharesAddUpSpec)) sharesAddUpCard

/-- THE TIED CARD OF 'logkeep1.BatchesStay'. -/
def batchesStayCard : Claim7 := { stood := { row := batchesStayRow, standIns := [], harness := (true, "e675bd2ab69f1696e1da6fa023931c29246b1342c19d00b1f15108c9ae0e799d"), looks := false }, kinds := [], alts := [], laidByText := true, laidKinds := [.data, .pinned], laidTests := true, laidLooks := .later }
def BatchesStayCardSaid : Prop := Claim7.holds Tryz.pinned (.plain (OpenSpec.ofChange batchesStaySpec)) batchesStayCard

/-- THE SECOND FORM's CARD OF 'logkeep1.SharesAddUp'. -/
def sharesAddUpUptoCard : Claim7 := { stood := { row := sharesAddUpUptoRow, standIns := [], harness := (true, "e675bd2ab69f1696e1da6fa023931c29246b1342c19d00b1f15108c9ae0e799d"), looks := false }, kinds := [], alts := [], laidByText := true, laidKinds := [.data, .pinned], laidTests := true, laidLooks := .later }
def SharesAddUpUptoCardSaid : Prop := Claim7.holds Tryz.pinned (.plain (OpenSpec.upto sharesAddUpSpec)) sharesAddUpUptoCard

/-- THE SECOND FORM's CARD OF 'logkeep1.BatchesStay'. -/
def batchesStayUptoCard : Claim7 := { stood := { row := batchesStayUptoRow, standIns := [], harness := (true, "e675bd2ab69f1696e1da6fa023931c29246b1342c19d00b1f15108c9ae0e799d"), looks := false }, kinds := [], alts := [], laidByText := true, laidKinds := [.data, .pinned], laidTests := true, laidLooks := .later }
def BatchesStayUptoCardSaid : Prop := Claim7.holds Tryz.pinned (.plain (OpenSpec.upto batchesStaySpec)) batchesStayUptoCard
end Rows
end Go.Proofs.YtjamjffppcjeiaaGreatDoor
