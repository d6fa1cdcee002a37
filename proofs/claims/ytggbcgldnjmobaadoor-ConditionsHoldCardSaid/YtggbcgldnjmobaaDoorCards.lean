/-
  DERIVED. GIVEN WITH THE SEED: THE CARDS: each row of YtggbcgldnjmobaaDoorRows.lean that lists a variable, with what it lists TIED to the program's text (the seventh form; the later family's looks); each row that meets fmt, with fmt's text TOLD by the authors' own Lean function (tested against real Go, not proved from fmt's source: count such statements apart). THE CARD IS WHAT COUNTS. Prove the row's statement (the work); the ties are given (YtggbcgldnjmobaaDoorTie.lean); close each card by the builder's one call (the guide's Derived/Test/ToyasCard.lean, 'card_holds'). Laid BY PROGRAM, IN A SANDBOX (cutbox-door.mjs). By AI agents, Wed Nov 11 2026. No macro, syntax, notation, axiom, sorry.
-/
import Derived.Test.YtggbcgldnjmobaaDoorRows
import GoSem.ClaimSeven
namespace Go.Proofs.YtggbcgldnjmobaaDoor
namespace Rows

/-- THE TIED CARD OF 'loglaw1.ConditionsHold'. -/
def conditionsHoldCard : Claim7 := { stood := { row := conditionsHoldRow, standIns := [], harness := (true, "a44cf9ddfd148a2ff803a106b0afaefc02e306b68f6540b806619442690efebd"), looks := false }, kinds := [], alts := [], laidByText := true, laidKinds := [.data, .pinned], laidTests := true, laidLooks := .later }
def ConditionsHoldCardSaid : Prop := Claim7.holds Tryd.pinned (.plain (OpenSpec.ofChange conditionsHoldSpec)) conditionsHoldCard

/-- THE SECOND FORM's CARD OF 'loglaw1.ConditionsHold'. -/
def conditionsHoldUptoCard : Claim7 := { stood := { row := conditionsHoldUptoRow, standIns := [], harness := (true, "a44cf9ddfd148a2ff803a106b0afaefc02e306b68f6540b806619442690efebd"), looks := false }, kinds := [], alts := [], laidByText := true, laidKinds := [.data, .pinned], laidTests := true, laidLooks := .later }
def ConditionsHoldUptoCardSaid : Prop := Claim7.holds Tryd.pinned (.plain (OpenSpec.upto conditionsHoldSpec)) conditionsHoldUptoCard
end Rows
end Go.Proofs.YtggbcgldnjmobaaDoor
