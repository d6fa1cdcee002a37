/-
  No cell of these rows narrows 'for every input' (looked for: loops, veiled, ifaces, maps, wideKeys, modest, calm, conditions, laid).
  DERIVED. THE GIVEN ROWS OF THIS SEAT. 12 by the template 'for every input the law returns true; each argument reads behind the call as it read before'; 0 by the template 'total and deterministic' (their statements: YtkecmbgjhamhiaaTotals.lean).
  GIVEN WITH THE SEED: the statements are not yours to turn. If you find one false, say at which input.
  Laid BY PROGRAM, IN A SANDBOX (cutbox-rows.mjs): the forced cells as the released guide's own fill.sh prints them over the translation 0e26d8f612d5f94f… (all of the seat's roots in one cut). By AI agents, Wed Nov 11 2026. No macro, syntax, notation, axiom, sorry.
-/
import Derived.Test.YtkecmbgjhamhiaaChecked
import GoSem.Claim
import GoSem.ClaimJoined
import GoSem.ClaimMapViews
import Derived.JoinedTies
import Derived.KernelRfl
namespace Go.Proofs.Ytkecmbgjhamhiaa
/- THE CELL 'sum', in the pinned program and in every row, IS THE sha256 OF THE DUMP (.gsa) THAT YtkecmbgjhamhiaaProg.lean LOADS. Nothing in Lean hashes anything: it is a label: what it is worth is what the hold of that sum in a sandbox is worth. -/
noncomputable def Try.pinned : Pinned := { name := "ytkecmbgjhamhiaa", sum := "0e26d8f612d5f94fd1ef99107fcd5d57d6fdaa1b60de4d8b7cfc8e2eb1c63f42", checked := Try.checked }
namespace Rows
def none {H : Type} : Left H := { results := [], args := [] }

/-- 'loglaw1.ValuesBetween': WHATEVER THE INPUT: true; the input reads as it did. -/
def valuesBetweenSpec : ChangeSpec := { name := "valuesBetween", fn := fun _ => fun
  | [d] => { results := [.lit (.bool true)], args := [d] }
  | _ => none }
def valuesBetweenRow : OpenClaim := { program := "ytkecmbgjhamhiaa", sum := "0e26d8f612d5f94fd1ef99107fcd5d57d6fdaa1b60de4d8b7cfc8e2eb1c63f42", func := "plantlog/loglaw1.ValuesBetween", spec := "valuesBetween", unfollowed := true, recurses := true, apart := false }
def ValuesBetweenSaid : Prop := valuesBetweenRow.holds Try.pinned (OpenSpec.ofChange valuesBetweenSpec)

/-- ITS FALSE NEIGHBOUR: 'it returns false'. Refute it at one input. -/
def valuesBetweenWrong : ChangeSpec := { name := "valuesBetween", fn := fun _ => fun
  | [d] => { results := [.lit (.bool false)], args := [d] }
  | _ => none }
def ValuesBetweenWrongFalsely : Prop := valuesBetweenRow.holds Try.pinned (OpenSpec.ofChange valuesBetweenWrong)

/-- 'loglaw1.SamplesReported': WHATEVER THE INPUT: true; the input reads as it did. -/
def samplesReportedSpec : ChangeSpec := { name := "samplesReported", fn := fun _ => fun
  | [d] => { results := [.lit (.bool true)], args := [d] }
  | _ => none }
def samplesReportedRow : OpenClaim := { program := "ytkecmbgjhamhiaa", sum := "0e26d8f612d5f94fd1ef99107fcd5d57d6fdaa1b60de4d8b7cfc8e2eb1c63f42", func := "plantlog/loglaw1.SamplesReported", spec := "samplesReported", unfollowed := true, recurses := true, apart := false }
def SamplesReportedSaid : Prop := samplesReportedRow.holds Try.pinned (OpenSpec.ofChange samplesReportedSpec)

/-- ITS FALSE NEIGHBOUR: 'it returns false'. Refute it at one input. -/
def samplesReportedWrong : ChangeSpec := { name := "samplesReported", fn := fun _ => fun
  | [d] => { results := [.lit (.bool false)], args := [d] }
  | _ => none }
def SamplesReportedWrongFalsely : Prop := samplesReportedRow.holds Try.pinned (OpenSpec.ofChange samplesReportedWrong)

/-- 'loglaw1.CountersTotalled': WHATEVER THE INPUT: true; the input reads as it did. -/
def countersTotalledSpec : ChangeSpec := { name := "countersTotalled", fn := fun _ => fun
  | [d] => { results := [.lit (.bool true)], args := [d] }
  | _ => none }
def countersTotalledRow : OpenClaim := { program := "ytkecmbgjhamhiaa", sum := "0e26d8f612d5f94fd1ef99107fcd5d57d6fdaa1b60de4d8b7cfc8e2eb1c63f42", func := "plantlog/loglaw1.CountersTotalled", spec := "countersTotalled", unfollowed := true, recurses := true, apart := false }
def CountersTotalledSaid : Prop := countersTotalledRow.holds Try.pinned (OpenSpec.ofChange countersTotalledSpec)

/-- ITS FALSE NEIGHBOUR: 'it returns false'. Refute it at one input. -/
def countersTotalledWrong : ChangeSpec := { name := "countersTotalled", fn := fun _ => fun
  | [d] => { results := [.lit (.bool false)], args := [d] }
  | _ => none }
def CountersTotalledWrongFalsely : Prop := countersTotalledRow.holds Try.pinned (OpenSpec.ofChange countersTotalledWrong)

/-- 'loglaw1.LimitsCrossed': WHATEVER THE INPUT: true; the input reads as it did. -/
def limitsCrossedSpec : ChangeSpec := { name := "limitsCrossed", fn := fun _ => fun
  | [d] => { results := [.lit (.bool true)], args := [d] }
  | _ => none }
def limitsCrossedRow : OpenClaim := { program := "ytkecmbgjhamhiaa", sum := "0e26d8f612d5f94fd1ef99107fcd5d57d6fdaa1b60de4d8b7cfc8e2eb1c63f42", func := "plantlog/loglaw1.LimitsCrossed", spec := "limitsCrossed", unfollowed := true, recurses := true, apart := false }
def LimitsCrossedSaid : Prop := limitsCrossedRow.holds Try.pinned (OpenSpec.ofChange limitsCrossedSpec)

/-- ITS FALSE NEIGHBOUR: 'it returns false'. Refute it at one input. -/
def limitsCrossedWrong : ChangeSpec := { name := "limitsCrossed", fn := fun _ => fun
  | [d] => { results := [.lit (.bool false)], args := [d] }
  | _ => none }
def LimitsCrossedWrongFalsely : Prop := limitsCrossedRow.holds Try.pinned (OpenSpec.ofChange limitsCrossedWrong)

/-- 'loglaw1.IntervalsWeighed': WHATEVER THE INPUT: true; the input reads as it did. -/
def intervalsWeighedSpec : ChangeSpec := { name := "intervalsWeighed", fn := fun _ => fun
  | [d] => { results := [.lit (.bool true)], args := [d] }
  | _ => none }
def intervalsWeighedRow : OpenClaim := { program := "ytkecmbgjhamhiaa", sum := "0e26d8f612d5f94fd1ef99107fcd5d57d6fdaa1b60de4d8b7cfc8e2eb1c63f42", func := "plantlog/loglaw1.IntervalsWeighed", spec := "intervalsWeighed", unfollowed := true, recurses := true, apart := false }
def IntervalsWeighedSaid : Prop := intervalsWeighedRow.holds Try.pinned (OpenSpec.ofChange intervalsWeighedSpec)

/-- ITS FALSE NEIGHBOUR: 'it returns false'. Refute it at one input. -/
def intervalsWeighedWrong : ChangeSpec := { name := "intervalsWeighed", fn := fun _ => fun
  | [d] => { results := [.lit (.bool false)], args := [d] }
  | _ => none }
def IntervalsWeighedWrongFalsely : Prop := intervalsWeighedRow.holds Try.pinned (OpenSpec.ofChange intervalsWeighedWrong)

/-- 'logkeep1.StepsHold': WHATEVER THE INPUT: true; the input reads as it did. -/
def stepsHoldSpec : ChangeSpec := { name := "stepsHold", fn := fun _ => fun
  | [d] => { results := [.lit (.bool true)], args := [d] }
  | _ => none }
def stepsHoldRow : OpenClaim := { program := "ytkecmbgjhamhiaa", sum := "0e26d8f612d5f94fd1ef99107fcd5d57d6fdaa1b60de4d8b7cfc8e2eb1c63f42", func := "plantlog/logkeep1.StepsHold", spec := "stepsHold", unfollowed := true, recurses := true, apart := false }
def StepsHoldSaid : Prop := stepsHoldRow.holds Try.pinned (OpenSpec.ofChange stepsHoldSpec)

/-- ITS FALSE NEIGHBOUR: 'it returns false'. Refute it at one input. -/
def stepsHoldWrong : ChangeSpec := { name := "stepsHold", fn := fun _ => fun
  | [d] => { results := [.lit (.bool false)], args := [d] }
  | _ => none }
def StepsHoldWrongFalsely : Prop := stepsHoldRow.holds Try.pinned (OpenSpec.ofChange stepsHoldWrong)

/-- 'logkeep1.AboveIsAbove': WHATEVER THE INPUT: true; the input reads as it did. -/
def aboveIsAboveSpec : ChangeSpec := { name := "aboveIsAbove", fn := fun _ => fun
  | [d] => { results := [.lit (.bool true)], args := [d] }
  | _ => none }
def aboveIsAboveRow : OpenClaim := { program := "ytkecmbgjhamhiaa", sum := "0e26d8f612d5f94fd1ef99107fcd5d57d6fdaa1b60de4d8b7cfc8e2eb1c63f42", func := "plantlog/logkeep1.AboveIsAbove", spec := "aboveIsAbove", unfollowed := true, recurses := true, apart := false }
def AboveIsAboveSaid : Prop := aboveIsAboveRow.holds Try.pinned (OpenSpec.ofChange aboveIsAboveSpec)

/-- ITS FALSE NEIGHBOUR: 'it returns false'. Refute it at one input. -/
def aboveIsAboveWrong : ChangeSpec := { name := "aboveIsAbove", fn := fun _ => fun
  | [d] => { results := [.lit (.bool false)], args := [d] }
  | _ => none }
def AboveIsAboveWrongFalsely : Prop := aboveIsAboveRow.holds Try.pinned (OpenSpec.ofChange aboveIsAboveWrong)

/-- 'logkeep1.CrossingsCross': WHATEVER THE INPUT: true; the input reads as it did. -/
def crossingsCrossSpec : ChangeSpec := { name := "crossingsCross", fn := fun _ => fun
  | [d] => { results := [.lit (.bool true)], args := [d] }
  | _ => none }
def crossingsCrossRow : OpenClaim := { program := "ytkecmbgjhamhiaa", sum := "0e26d8f612d5f94fd1ef99107fcd5d57d6fdaa1b60de4d8b7cfc8e2eb1c63f42", func := "plantlog/logkeep1.CrossingsCross", spec := "crossingsCross", unfollowed := true, recurses := true, apart := false }
def CrossingsCrossSaid : Prop := crossingsCrossRow.holds Try.pinned (OpenSpec.ofChange crossingsCrossSpec)

/-- ITS FALSE NEIGHBOUR: 'it returns false'. Refute it at one input. -/
def crossingsCrossWrong : ChangeSpec := { name := "crossingsCross", fn := fun _ => fun
  | [d] => { results := [.lit (.bool false)], args := [d] }
  | _ => none }
def CrossingsCrossWrongFalsely : Prop := crossingsCrossRow.holds Try.pinned (OpenSpec.ofChange crossingsCrossWrong)

/-- 'logkeep1.BucketsAreWindows': WHATEVER THE INPUT: true; the input reads as it did. -/
def bucketsAreWindowsSpec : ChangeSpec := { name := "bucketsAreWindows", fn := fun _ => fun
  | [d] => { results := [.lit (.bool true)], args := [d] }
  | _ => none }
def bucketsAreWindowsRow : OpenClaim := { program := "ytkecmbgjhamhiaa", sum := "0e26d8f612d5f94fd1ef99107fcd5d57d6fdaa1b60de4d8b7cfc8e2eb1c63f42", func := "plantlog/logkeep1.BucketsAreWindows", spec := "bucketsAreWindows", unfollowed := true, recurses := true, apart := false }
def BucketsAreWindowsSaid : Prop := bucketsAreWindowsRow.holds Try.pinned (OpenSpec.ofChange bucketsAreWindowsSpec)

/-- ITS FALSE NEIGHBOUR: 'it returns false'. Refute it at one input. -/
def bucketsAreWindowsWrong : ChangeSpec := { name := "bucketsAreWindows", fn := fun _ => fun
  | [d] => { results := [.lit (.bool false)], args := [d] }
  | _ => none }
def BucketsAreWindowsWrongFalsely : Prop := bucketsAreWindowsRow.holds Try.pinned (OpenSpec.ofChange bucketsAreWindowsWrong)

/-- 'logkeep1.QueriesStay': WHATEVER THE INPUT: true; the input reads as it did. -/
def queriesStaySpec : ChangeSpec := { name := "queriesStay", fn := fun _ => fun
  | [d] => { results := [.lit (.bool true)], args := [d] }
  | _ => none }
def queriesStayRow : OpenClaim := { program := "ytkecmbgjhamhiaa", sum := "0e26d8f612d5f94fd1ef99107fcd5d57d6fdaa1b60de4d8b7cfc8e2eb1c63f42", func := "plantlog/logkeep1.QueriesStay", spec := "queriesStay", unfollowed := true, recurses := true, apart := false }
def QueriesStaySaid : Prop := queriesStayRow.holds Try.pinned (OpenSpec.ofChange queriesStaySpec)

/-- ITS FALSE NEIGHBOUR: 'it returns false'. Refute it at one input. -/
def queriesStayWrong : ChangeSpec := { name := "queriesStay", fn := fun _ => fun
  | [d] => { results := [.lit (.bool false)], args := [d] }
  | _ => none }
def QueriesStayWrongFalsely : Prop := queriesStayRow.holds Try.pinned (OpenSpec.ofChange queriesStayWrong)

/-- 'logkeep1.IntegralsAddUp': WHATEVER THE INPUT: true; the input reads as it did. -/
def integralsAddUpSpec : ChangeSpec := { name := "integralsAddUp", fn := fun _ => fun
  | [d] => { results := [.lit (.bool true)], args := [d] }
  | _ => none }
def integralsAddUpRow : OpenClaim := { program := "ytkecmbgjhamhiaa", sum := "0e26d8f612d5f94fd1ef99107fcd5d57d6fdaa1b60de4d8b7cfc8e2eb1c63f42", func := "plantlog/logkeep1.IntegralsAddUp", spec := "integralsAddUp", unfollowed := true, recurses := true, apart := false }
def IntegralsAddUpSaid : Prop := integralsAddUpRow.holds Try.pinned (OpenSpec.ofChange integralsAddUpSpec)

/-- ITS FALSE NEIGHBOUR: 'it returns false'. Refute it at one input. -/
def integralsAddUpWrong : ChangeSpec := { name := "integralsAddUp", fn := fun _ => fun
  | [d] => { results := [.lit (.bool false)], args := [d] }
  | _ => none }
def IntegralsAddUpWrongFalsely : Prop := integralsAddUpRow.holds Try.pinned (OpenSpec.ofChange integralsAddUpWrong)

/-- 'loglaw1.AggregatesWeighed': WHATEVER THE INPUT: true; the input reads as it did. -/
def aggregatesWeighedSpec : ChangeSpec := { name := "aggregatesWeighed", fn := fun _ => fun
  | [d] => { results := [.lit (.bool true)], args := [d] }
  | _ => none }
def aggregatesWeighedRow : OpenClaim := { program := "ytkecmbgjhamhiaa", sum := "0e26d8f612d5f94fd1ef99107fcd5d57d6fdaa1b60de4d8b7cfc8e2eb1c63f42", func := "plantlog/loglaw1.AggregatesWeighed", spec := "aggregatesWeighed", unfollowed := true, recurses := true, apart := false }
def AggregatesWeighedSaid : Prop := aggregatesWeighedRow.holds Try.pinned (OpenSpec.ofChange aggregatesWeighedSpec)

/-- ITS FALSE NEIGHBOUR: 'it returns false'. Refute it at one input. -/
def aggregatesWeighedWrong : ChangeSpec := { name := "aggregatesWeighed", fn := fun _ => fun
  | [d] => { results := [.lit (.bool false)], args := [d] }
  | _ => none }
def AggregatesWeighedWrongFalsely : Prop := aggregatesWeighedRow.holds Try.pinned (OpenSpec.ofChange aggregatesWeighedWrong)

/- THE SECOND FORM. 'bulk': how many values and letters a reading holds, each counted each time it is reached (what is shared counts as often as it is met; a slice's spare places count too). A statement '..UptoSaid' is the law's where the arguments, and the package variables that the reading takes, are together of bulk at most 1048576: NARROWER than '..Said'. Prove '..Said' where nothing that the law and all that it calls make is longer than what came in: it says more and counts as full. Else prove '..UptoSaid'. A law counts once. -/
mutual
def uptoBulk {H : Type} : DataW H → Nat
  | .lit (.string bytes) => bytes.length + 1
  | .lit _ => 1
  | .nil => 1
  | .ptr d => uptoBulk d + 1
  | .slice elems spare => uptoBulkAll elems + uptoBulkAll spare + 1
  | .agg parts => uptoBulkAll parts + 1
  | .iface _ d => uptoBulk d + 1
  | .map entries => uptoBulkEntries entries + 1
  | .held _ => 1
def uptoBulkAll {H : Type} : List (DataW H) → Nat
  | [] => 0
  | d :: r => uptoBulk d + uptoBulkAll r
def uptoBulkEntries {H : Type} : List (Lit × DataW H) → Nat
  | [] => 0
  | x :: r => uptoBulkEntry x + uptoBulkEntries r
def uptoBulkEntry {H : Type} : Lit × DataW H → Nat
  | (.string bytes, d) => bytes.length + uptoBulk d + 1
  | (_, d) => uptoBulk d + 1
 end
def uptoSmall : (H : Type) → List (DataW H) → Bool := fun _ ds => decide (uptoBulkAll ds ≤ 1048576)
def OpenSpec.upto (s : _root_.Go.ChangeSpec) : _root_.Go.OpenSpec := { _root_.Go.OpenSpec.ofChange s with cond := some uptoSmall }

/-- 'loglaw1.ValuesBetween', WHERE WHAT IT READS IS OF BULK AT MOST 1048576: true; the input reads as it did. -/
def valuesBetweenUptoRow : OpenClaim := { program := "ytkecmbgjhamhiaa", sum := "0e26d8f612d5f94fd1ef99107fcd5d57d6fdaa1b60de4d8b7cfc8e2eb1c63f42", func := "plantlog/loglaw1.ValuesBetween", spec := "valuesBetween", unfollowed := true, recurses := true, apart := false, narrowed := true }
def ValuesBetweenUptoSaid : Prop := valuesBetweenUptoRow.holds Try.pinned (OpenSpec.upto valuesBetweenSpec)

/-- 'loglaw1.SamplesReported', WHERE WHAT IT READS IS OF BULK AT MOST 1048576: true; the input reads as it did. -/
def samplesReportedUptoRow : OpenClaim := { program := "ytkecmbgjhamhiaa", sum := "0e26d8f612d5f94fd1ef99107fcd5d57d6fdaa1b60de4d8b7cfc8e2eb1c63f42", func := "plantlog/loglaw1.SamplesReported", spec := "samplesReported", unfollowed := true, recurses := true, apart := false, narrowed := true }
def SamplesReportedUptoSaid : Prop := samplesReportedUptoRow.holds Try.pinned (OpenSpec.upto samplesReportedSpec)

/-- 'loglaw1.CountersTotalled', WHERE WHAT IT READS IS OF BULK AT MOST 1048576: true; the input reads as it did. -/
def countersTotalledUptoRow : OpenClaim := { program := "ytkecmbgjhamhiaa", sum := "0e26d8f612d5f94fd1ef99107fcd5d57d6fdaa1b60de4d8b7cfc8e2eb1c63f42", func := "plantlog/loglaw1.CountersTotalled", spec := "countersTotalled", unfollowed := true, recurses := true, apart := false, narrowed := true }
def CountersTotalledUptoSaid : Prop := countersTotalledUptoRow.holds Try.pinned (OpenSpec.upto countersTotalledSpec)

/-- 'loglaw1.LimitsCrossed', WHERE WHAT IT READS IS OF BULK AT MOST 1048576: true; the input reads as it did. -/
def limitsCrossedUptoRow : OpenClaim := { program := "ytkecmbgjhamhiaa", sum := "0e26d8f612d5f94fd1ef99107fcd5d57d6fdaa1b60de4d8b7cfc8e2eb1c63f42", func := "plantlog/loglaw1.LimitsCrossed", spec := "limitsCrossed", unfollowed := true, recurses := true, apart := false, narrowed := true }
def LimitsCrossedUptoSaid : Prop := limitsCrossedUptoRow.holds Try.pinned (OpenSpec.upto limitsCrossedSpec)

/-- 'loglaw1.IntervalsWeighed', WHERE WHAT IT READS IS OF BULK AT MOST 1048576: true; the input reads as it did. -/
def intervalsWeighedUptoRow : OpenClaim := { program := "ytkecmbgjhamhiaa", sum := "0e26d8f612d5f94fd1ef99107fcd5d57d6fdaa1b60de4d8b7cfc8e2eb1c63f42", func := "plantlog/loglaw1.IntervalsWeighed", spec := "intervalsWeighed", unfollowed := true, recurses := true, apart := false, narrowed := true }
def IntervalsWeighedUptoSaid : Prop := intervalsWeighedUptoRow.holds Try.pinned (OpenSpec.upto intervalsWeighedSpec)

/-- 'logkeep1.StepsHold', WHERE WHAT IT READS IS OF BULK AT MOST 1048576: true; the input reads as it did. -/
def stepsHoldUptoRow : OpenClaim := { program := "ytkecmbgjhamhiaa", sum := "0e26d8f612d5f94fd1ef99107fcd5d57d6fdaa1b60de4d8b7cfc8e2eb1c63f42", func := "plantlog/logkeep1.StepsHold", spec := "stepsHold", unfollowed := true, recurses := true, apart := false, narrowed := true }
def StepsHoldUptoSaid : Prop := stepsHoldUptoRow.holds Try.pinned (OpenSpec.upto stepsHoldSpec)

/-- 'logkeep1.AboveIsAbove', WHERE WHAT IT READS IS OF BULK AT MOST 1048576: true; the input reads as it did. -/
def aboveIsAboveUptoRow : OpenClaim := { program := "ytkecmbgjhamhiaa", sum := "0e26d8f612d5f94fd1ef99107fcd5d57d6fdaa1b60de4d8b7cfc8e2eb1c63f42", func := "plantlog/logkeep1.AboveIsAbove", spec := "aboveIsAbove", unfollowed := true, recurses := true, apart := false, narrowed := true }
def AboveIsAboveUptoSaid : Prop := aboveIsAboveUptoRow.holds Try.pinned (OpenSpec.upto aboveIsAboveSpec)

/-- 'logkeep1.CrossingsCross', WHERE WHAT IT READS IS OF BULK AT MOST 1048576: true; the input reads as it did. -/
def crossingsCrossUptoRow : OpenClaim := { program := "ytkecmbgjhamhiaa", sum := "0e26d8f612d5f94fd1ef99107fcd5d57d6fdaa1b60de4d8b7cfc8e2eb1c63f42", func := "plantlog/logkeep1.CrossingsCross", spec := "crossingsCross", unfollowed := true, recurses := true, apart := false, narrowed := true }
def CrossingsCrossUptoSaid : Prop := crossingsCrossUptoRow.holds Try.pinned (OpenSpec.upto crossingsCrossSpec)

/-- 'logkeep1.BucketsAreWindows', WHERE WHAT IT READS IS OF BULK AT MOST 1048576: true; the input reads as it did. -/
def bucketsAreWindowsUptoRow : OpenClaim := { program := "ytkecmbgjhamhiaa", sum := "0e26d8f612d5f94fd1ef99107fcd5d57d6fdaa1b60de4d8b7cfc8e2eb1c63f42", func := "plantlog/logkeep1.BucketsAreWindows", spec := "bucketsAreWindows", unfollowed := true, recurses := true, apart := false, narrowed := true }
def BucketsAreWindowsUptoSaid : Prop := bucketsAreWindowsUptoRow.holds Try.pinned (OpenSpec.upto bucketsAreWindowsSpec)

/-- 'logkeep1.QueriesStay', WHERE WHAT IT READS IS OF BULK AT MOST 1048576: true; the input reads as it did. -/
def queriesStayUptoRow : OpenClaim := { program := "ytkecmbgjhamhiaa", sum := "0e26d8f612d5f94fd1ef99107fcd5d57d6fdaa1b60de4d8b7cfc8e2eb1c63f42", func := "plantlog/logkeep1.QueriesStay", spec := "queriesStay", unfollowed := true, recurses := true, apart := false, narrowed := true }
def QueriesStayUptoSaid : Prop := queriesStayUptoRow.holds Try.pinned (OpenSpec.upto queriesStaySpec)

/-- 'logkeep1.IntegralsAddUp', WHERE WHAT IT READS IS OF BULK AT MOST 1048576: true; the input reads as it did. -/
def integralsAddUpUptoRow : OpenClaim := { program := "ytkecmbgjhamhiaa", sum := "0e26d8f612d5f94fd1ef99107fcd5d57d6fdaa1b60de4d8b7cfc8e2eb1c63f42", func := "plantlog/logkeep1.IntegralsAddUp", spec := "integralsAddUp", unfollowed := true, recurses := true, apart := false, narrowed := true }
def IntegralsAddUpUptoSaid : Prop := integralsAddUpUptoRow.holds Try.pinned (OpenSpec.upto integralsAddUpSpec)

/-- 'loglaw1.AggregatesWeighed', WHERE WHAT IT READS IS OF BULK AT MOST 1048576: true; the input reads as it did. -/
def aggregatesWeighedUptoRow : OpenClaim := { program := "ytkecmbgjhamhiaa", sum := "0e26d8f612d5f94fd1ef99107fcd5d57d6fdaa1b60de4d8b7cfc8e2eb1c63f42", func := "plantlog/loglaw1.AggregatesWeighed", spec := "aggregatesWeighed", unfollowed := true, recurses := true, apart := false, narrowed := true }
def AggregatesWeighedUptoSaid : Prop := aggregatesWeighedUptoRow.holds Try.pinned (OpenSpec.upto aggregatesWeighedSpec)

end Rows
end Go.Proofs.Ytkecmbgjhamhiaa
