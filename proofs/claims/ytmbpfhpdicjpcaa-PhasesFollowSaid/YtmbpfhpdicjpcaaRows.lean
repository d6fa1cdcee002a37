/-
  No cell of these rows narrows 'for every input' (looked for: loops, veiled, ifaces, maps, wideKeys, modest, calm, conditions, laid).
  DERIVED. THE GIVEN ROWS OF THIS SEAT. 12 by the template 'for every input the law returns true; each argument reads behind the call as it read before'; 0 by the template 'total and deterministic' (their statements: YtmbpfhpdicjpcaaTotals.lean).
  GIVEN WITH THE SEED: the statements are not yours to turn. If you find one false, say at which input.
  Laid BY PROGRAM, IN A SANDBOX (cutbox-rows.mjs): the forced cells as the released guide's own fill.sh prints them over the translation db614dcc5e77efe6… (all of the seat's roots in one cut). By AI agents, Wed Nov 11 2026. No macro, syntax, notation, axiom, sorry.
-/
import Derived.Test.YtmbpfhpdicjpcaaChecked
import GoSem.Claim
import GoSem.ClaimJoined
import GoSem.ClaimMapViews
import Derived.JoinedTies
import Derived.KernelRfl
namespace Go.Proofs.Ytmbpfhpdicjpcaa
/- THE CELL 'sum', in the pinned program and in every row, IS THE sha256 OF THE DUMP (.gsa) THAT YtmbpfhpdicjpcaaProg.lean LOADS. Nothing in Lean hashes anything: it is a label: what it is worth is what the hold of that sum in a sandbox is worth. -/
noncomputable def Try.pinned : Pinned := { name := "ytmbpfhpdicjpcaa", sum := "db614dcc5e77efe66f7184d762d2b19257ebbe8a79feec266ca416605b9ed40e", checked := Try.checked }
namespace Rows
def none {H : Type} : Left H := { results := [], args := [] }

/-- 'loglaw1.FramesFound': WHATEVER THE INPUT: true; the input reads as it did. -/
def framesFoundSpec : ChangeSpec := { name := "framesFound", fn := fun _ => fun
  | [d] => { results := [.lit (.bool true)], args := [d] }
  | _ => none }
def framesFoundRow : OpenClaim := { program := "ytmbpfhpdicjpcaa", sum := "db614dcc5e77efe66f7184d762d2b19257ebbe8a79feec266ca416605b9ed40e", func := "plantlog/loglaw1.FramesFound", spec := "framesFound", unfollowed := true, recurses := true, apart := false }
def FramesFoundSaid : Prop := framesFoundRow.holds Try.pinned (OpenSpec.ofChange framesFoundSpec)

/-- ITS FALSE NEIGHBOUR: 'it returns false'. Refute it at one input. -/
def framesFoundWrong : ChangeSpec := { name := "framesFound", fn := fun _ => fun
  | [d] => { results := [.lit (.bool false)], args := [d] }
  | _ => none }
def FramesFoundWrongFalsely : Prop := framesFoundRow.holds Try.pinned (OpenSpec.ofChange framesFoundWrong)

/-- 'loglaw1.SamplesStream': WHATEVER THE INPUT: true; the input reads as it did. -/
def samplesStreamSpec : ChangeSpec := { name := "samplesStream", fn := fun _ => fun
  | [d] => { results := [.lit (.bool true)], args := [d] }
  | _ => none }
def samplesStreamRow : OpenClaim := { program := "ytmbpfhpdicjpcaa", sum := "db614dcc5e77efe66f7184d762d2b19257ebbe8a79feec266ca416605b9ed40e", func := "plantlog/loglaw1.SamplesStream", spec := "samplesStream", unfollowed := true, recurses := true, apart := false }
def SamplesStreamSaid : Prop := samplesStreamRow.holds Try.pinned (OpenSpec.ofChange samplesStreamSpec)

/-- ITS FALSE NEIGHBOUR: 'it returns false'. Refute it at one input. -/
def samplesStreamWrong : ChangeSpec := { name := "samplesStream", fn := fun _ => fun
  | [d] => { results := [.lit (.bool false)], args := [d] }
  | _ => none }
def SamplesStreamWrongFalsely : Prop := samplesStreamRow.holds Try.pinned (OpenSpec.ofChange samplesStreamWrong)

/-- 'loglaw1.SamplesReconstructed': WHATEVER THE INPUT: true; the input reads as it did. -/
def samplesReconstructedSpec : ChangeSpec := { name := "samplesReconstructed", fn := fun _ => fun
  | [d] => { results := [.lit (.bool true)], args := [d] }
  | _ => none }
def samplesReconstructedRow : OpenClaim := { program := "ytmbpfhpdicjpcaa", sum := "db614dcc5e77efe66f7184d762d2b19257ebbe8a79feec266ca416605b9ed40e", func := "plantlog/loglaw1.SamplesReconstructed", spec := "samplesReconstructed", unfollowed := true, recurses := true, apart := false }
def SamplesReconstructedSaid : Prop := samplesReconstructedRow.holds Try.pinned (OpenSpec.ofChange samplesReconstructedSpec)

/-- ITS FALSE NEIGHBOUR: 'it returns false'. Refute it at one input. -/
def samplesReconstructedWrong : ChangeSpec := { name := "samplesReconstructed", fn := fun _ => fun
  | [d] => { results := [.lit (.bool false)], args := [d] }
  | _ => none }
def SamplesReconstructedWrongFalsely : Prop := samplesReconstructedRow.holds Try.pinned (OpenSpec.ofChange samplesReconstructedWrong)

/-- 'logkeep1.ActiveWindowsPart': WHATEVER THE INPUT: true; the input reads as it did. -/
def activeWindowsPartSpec : ChangeSpec := { name := "activeWindowsPart", fn := fun _ => fun
  | [d] => { results := [.lit (.bool true)], args := [d] }
  | _ => none }
def activeWindowsPartRow : OpenClaim := { program := "ytmbpfhpdicjpcaa", sum := "db614dcc5e77efe66f7184d762d2b19257ebbe8a79feec266ca416605b9ed40e", func := "plantlog/logkeep1.ActiveWindowsPart", spec := "activeWindowsPart", unfollowed := true, recurses := true, apart := false }
def ActiveWindowsPartSaid : Prop := activeWindowsPartRow.holds Try.pinned (OpenSpec.ofChange activeWindowsPartSpec)

/-- ITS FALSE NEIGHBOUR: 'it returns false'. Refute it at one input. -/
def activeWindowsPartWrong : ChangeSpec := { name := "activeWindowsPart", fn := fun _ => fun
  | [d] => { results := [.lit (.bool false)], args := [d] }
  | _ => none }
def ActiveWindowsPartWrongFalsely : Prop := activeWindowsPartRow.holds Try.pinned (OpenSpec.ofChange activeWindowsPartWrong)

/-- 'loglaw1.ProfilesCompared': WHATEVER THE INPUT: true; the input reads as it did. -/
def profilesComparedSpec : ChangeSpec := { name := "profilesCompared", fn := fun _ => fun
  | [d] => { results := [.lit (.bool true)], args := [d] }
  | _ => none }
def profilesComparedRow : OpenClaim := { program := "ytmbpfhpdicjpcaa", sum := "db614dcc5e77efe66f7184d762d2b19257ebbe8a79feec266ca416605b9ed40e", func := "plantlog/loglaw1.ProfilesCompared", spec := "profilesCompared", unfollowed := true, recurses := true, apart := false }
def ProfilesComparedSaid : Prop := profilesComparedRow.holds Try.pinned (OpenSpec.ofChange profilesComparedSpec)

/-- ITS FALSE NEIGHBOUR: 'it returns false'. Refute it at one input. -/
def profilesComparedWrong : ChangeSpec := { name := "profilesCompared", fn := fun _ => fun
  | [d] => { results := [.lit (.bool false)], args := [d] }
  | _ => none }
def ProfilesComparedWrongFalsely : Prop := profilesComparedRow.holds Try.pinned (OpenSpec.ofChange profilesComparedWrong)

/-- 'logkeep1.FramesAreFrames': WHATEVER THE INPUT: true; the input reads as it did. -/
def framesAreFramesSpec : ChangeSpec := { name := "framesAreFrames", fn := fun _ => fun
  | [d] => { results := [.lit (.bool true)], args := [d] }
  | _ => none }
def framesAreFramesRow : OpenClaim := { program := "ytmbpfhpdicjpcaa", sum := "db614dcc5e77efe66f7184d762d2b19257ebbe8a79feec266ca416605b9ed40e", func := "plantlog/logkeep1.FramesAreFrames", spec := "framesAreFrames", unfollowed := true, recurses := true, apart := false }
def FramesAreFramesSaid : Prop := framesAreFramesRow.holds Try.pinned (OpenSpec.ofChange framesAreFramesSpec)

/-- ITS FALSE NEIGHBOUR: 'it returns false'. Refute it at one input. -/
def framesAreFramesWrong : ChangeSpec := { name := "framesAreFrames", fn := fun _ => fun
  | [d] => { results := [.lit (.bool false)], args := [d] }
  | _ => none }
def FramesAreFramesWrongFalsely : Prop := framesAreFramesRow.holds Try.pinned (OpenSpec.ofChange framesAreFramesWrong)

/-- 'logtop.TopBinsAreSamples': WHATEVER THE INPUT: true; the input reads as it did. -/
def topBinsAreSamplesSpec : ChangeSpec := { name := "topBinsAreSamples", fn := fun _ => fun
  | [d] => { results := [.lit (.bool true)], args := [d] }
  | _ => none }
def topBinsAreSamplesRow : OpenClaim := { program := "ytmbpfhpdicjpcaa", sum := "db614dcc5e77efe66f7184d762d2b19257ebbe8a79feec266ca416605b9ed40e", func := "plantlog/logtop.TopBinsAreSamples", spec := "topBinsAreSamples", unfollowed := true, recurses := true, apart := false }
def TopBinsAreSamplesSaid : Prop := topBinsAreSamplesRow.holds Try.pinned (OpenSpec.ofChange topBinsAreSamplesSpec)

/-- ITS FALSE NEIGHBOUR: 'it returns false'. Refute it at one input. -/
def topBinsAreSamplesWrong : ChangeSpec := { name := "topBinsAreSamples", fn := fun _ => fun
  | [d] => { results := [.lit (.bool false)], args := [d] }
  | _ => none }
def TopBinsAreSamplesWrongFalsely : Prop := topBinsAreSamplesRow.holds Try.pinned (OpenSpec.ofChange topBinsAreSamplesWrong)

/-- 'loglaw1.PhasesFollow': WHATEVER THE INPUT: true; the input reads as it did. -/
def phasesFollowSpec : ChangeSpec := { name := "phasesFollow", fn := fun _ => fun
  | [d] => { results := [.lit (.bool true)], args := [d] }
  | _ => none }
def phasesFollowRow : OpenClaim := { program := "ytmbpfhpdicjpcaa", sum := "db614dcc5e77efe66f7184d762d2b19257ebbe8a79feec266ca416605b9ed40e", func := "plantlog/loglaw1.PhasesFollow", spec := "phasesFollow", unfollowed := true, recurses := true, named := ["math/bits.divideError", "math/bits.overflowError"], apart := false }
def PhasesFollowSaid : Prop := phasesFollowRow.holds Try.pinned (OpenSpec.ofChange phasesFollowSpec)

/-- ITS FALSE NEIGHBOUR: 'it returns false'. Refute it at one input. -/
def phasesFollowWrong : ChangeSpec := { name := "phasesFollow", fn := fun _ => fun
  | [d] => { results := [.lit (.bool false)], args := [d] }
  | _ => none }
def PhasesFollowWrongFalsely : Prop := phasesFollowRow.holds Try.pinned (OpenSpec.ofChange phasesFollowWrong)

/-- 'logkeep1.KeptAreThemselves': WHATEVER THE INPUT: true; the input reads as it did. -/
def keptAreThemselvesSpec : ChangeSpec := { name := "keptAreThemselves", fn := fun _ => fun
  | [d] => { results := [.lit (.bool true)], args := [d] }
  | _ => none }
def keptAreThemselvesRow : OpenClaim := { program := "ytmbpfhpdicjpcaa", sum := "db614dcc5e77efe66f7184d762d2b19257ebbe8a79feec266ca416605b9ed40e", func := "plantlog/logkeep1.KeptAreThemselves", spec := "keptAreThemselves", unfollowed := true, recurses := true, apart := false }
def KeptAreThemselvesSaid : Prop := keptAreThemselvesRow.holds Try.pinned (OpenSpec.ofChange keptAreThemselvesSpec)

/-- ITS FALSE NEIGHBOUR: 'it returns false'. Refute it at one input. -/
def keptAreThemselvesWrong : ChangeSpec := { name := "keptAreThemselves", fn := fun _ => fun
  | [d] => { results := [.lit (.bool false)], args := [d] }
  | _ => none }
def KeptAreThemselvesWrongFalsely : Prop := keptAreThemselvesRow.holds Try.pinned (OpenSpec.ofChange keptAreThemselvesWrong)

/-- 'logtop.TopFramesAreAlarms': WHATEVER THE INPUT: true; the input reads as it did. -/
def topFramesAreAlarmsSpec : ChangeSpec := { name := "topFramesAreAlarms", fn := fun _ => fun
  | [d] => { results := [.lit (.bool true)], args := [d] }
  | _ => none }
def topFramesAreAlarmsRow : OpenClaim := { program := "ytmbpfhpdicjpcaa", sum := "db614dcc5e77efe66f7184d762d2b19257ebbe8a79feec266ca416605b9ed40e", func := "plantlog/logtop.TopFramesAreAlarms", spec := "topFramesAreAlarms", unfollowed := true, recurses := true, apart := false }
def TopFramesAreAlarmsSaid : Prop := topFramesAreAlarmsRow.holds Try.pinned (OpenSpec.ofChange topFramesAreAlarmsSpec)

/-- ITS FALSE NEIGHBOUR: 'it returns false'. Refute it at one input. -/
def topFramesAreAlarmsWrong : ChangeSpec := { name := "topFramesAreAlarms", fn := fun _ => fun
  | [d] => { results := [.lit (.bool false)], args := [d] }
  | _ => none }
def TopFramesAreAlarmsWrongFalsely : Prop := topFramesAreAlarmsRow.holds Try.pinned (OpenSpec.ofChange topFramesAreAlarmsWrong)

/-- 'logtop.TopAlarmsAreTimeAbove': WHATEVER THE INPUT: true; the input reads as it did. -/
def topAlarmsAreTimeAboveSpec : ChangeSpec := { name := "topAlarmsAreTimeAbove", fn := fun _ => fun
  | [d] => { results := [.lit (.bool true)], args := [d] }
  | _ => none }
def topAlarmsAreTimeAboveRow : OpenClaim := { program := "ytmbpfhpdicjpcaa", sum := "db614dcc5e77efe66f7184d762d2b19257ebbe8a79feec266ca416605b9ed40e", func := "plantlog/logtop.TopAlarmsAreTimeAbove", spec := "topAlarmsAreTimeAbove", unfollowed := true, recurses := true, apart := false }
def TopAlarmsAreTimeAboveSaid : Prop := topAlarmsAreTimeAboveRow.holds Try.pinned (OpenSpec.ofChange topAlarmsAreTimeAboveSpec)

/-- ITS FALSE NEIGHBOUR: 'it returns false'. Refute it at one input. -/
def topAlarmsAreTimeAboveWrong : ChangeSpec := { name := "topAlarmsAreTimeAbove", fn := fun _ => fun
  | [d] => { results := [.lit (.bool false)], args := [d] }
  | _ => none }
def TopAlarmsAreTimeAboveWrongFalsely : Prop := topAlarmsAreTimeAboveRow.holds Try.pinned (OpenSpec.ofChange topAlarmsAreTimeAboveWrong)

/-- 'logkeep1.PhasesArePhases': WHATEVER THE INPUT: true; the input reads as it did. -/
def phasesArePhasesSpec : ChangeSpec := { name := "phasesArePhases", fn := fun _ => fun
  | [d] => { results := [.lit (.bool true)], args := [d] }
  | _ => none }
def phasesArePhasesRow : OpenClaim := { program := "ytmbpfhpdicjpcaa", sum := "db614dcc5e77efe66f7184d762d2b19257ebbe8a79feec266ca416605b9ed40e", func := "plantlog/logkeep1.PhasesArePhases", spec := "phasesArePhases", unfollowed := true, recurses := true, apart := false }
def PhasesArePhasesSaid : Prop := phasesArePhasesRow.holds Try.pinned (OpenSpec.ofChange phasesArePhasesSpec)

/-- ITS FALSE NEIGHBOUR: 'it returns false'. Refute it at one input. -/
def phasesArePhasesWrong : ChangeSpec := { name := "phasesArePhases", fn := fun _ => fun
  | [d] => { results := [.lit (.bool false)], args := [d] }
  | _ => none }
def PhasesArePhasesWrongFalsely : Prop := phasesArePhasesRow.holds Try.pinned (OpenSpec.ofChange phasesArePhasesWrong)

/- THE SECOND FORM. 'bulk': how many values and letters a reading holds, each counted each time it is reached (what is shared counts as often as it is met; a slice's spare places count too). A statement '..UptoSaid' is the law's where the arguments, and the package variables that the reading takes, are together of bulk at most 1048576: NARROWER than '..Said'. Prove '..Said' where nothing that the law and all that it calls make is longer than what came in: it says more and counts as full. Else prove '..UptoSaid'. A law counts once. -/
mutual
def uptoBulk {H : Type} : DataW H → Nat
  | .lit (.string bytes) => bytes.length + 1
  | .lit _ => 1
  | .nil => 1
  | .ptr d => uptoBulk d + 1
  | .slice elems spare => uptoBulkAll elems + uptoBulkAll spare + 1
  | .agg parts => uptoBulkAll parts + 1
  | .iface _ d => uptoBulk d + 1
  | .map entries => uptoBulkEntries entries + 1
  | .held _ => 1
def uptoBulkAll {H : Type} : List (DataW H) → Nat
  | [] => 0
  | d :: r => uptoBulk d + uptoBulkAll r
def uptoBulkEntries {H : Type} : List (Lit × DataW H) → Nat
  | [] => 0
  | x :: r => uptoBulkEntry x + uptoBulkEntries r
def uptoBulkEntry {H : Type} : Lit × DataW H → Nat
  | (.string bytes, d) => bytes.length + uptoBulk d + 1
  | (_, d) => uptoBulk d + 1
 end
def uptoSmall : (H : Type) → List (DataW H) → Bool := fun _ ds => decide (uptoBulkAll ds ≤ 1048576)
def OpenSpec.upto (s : _root_.Go.ChangeSpec) : _root_.Go.OpenSpec := { _root_.Go.OpenSpec.ofChange s with cond := some uptoSmall }

/-- 'loglaw1.FramesFound', WHERE WHAT IT READS IS OF BULK AT MOST 1048576: true; the input reads as it did. -/
def framesFoundUptoRow : OpenClaim := { program := "ytmbpfhpdicjpcaa", sum := "db614dcc5e77efe66f7184d762d2b19257ebbe8a79feec266ca416605b9ed40e", func := "plantlog/loglaw1.FramesFound", spec := "framesFound", unfollowed := true, recurses := true, apart := false, narrowed := true }
def FramesFoundUptoSaid : Prop := framesFoundUptoRow.holds Try.pinned (OpenSpec.upto framesFoundSpec)

/-- 'loglaw1.SamplesStream', WHERE WHAT IT READS IS OF BULK AT MOST 1048576: true; the input reads as it did. -/
def samplesStreamUptoRow : OpenClaim := { program := "ytmbpfhpdicjpcaa", sum := "db614dcc5e77efe66f7184d762d2b19257ebbe8a79feec266ca416605b9ed40e", func := "plantlog/loglaw1.SamplesStream", spec := "samplesStream", unfollowed := true, recurses := true, apart := false, narrowed := true }
def SamplesStreamUptoSaid : Prop := samplesStreamUptoRow.holds Try.pinned (OpenSpec.upto samplesStreamSpec)

/-- 'loglaw1.SamplesReconstructed', WHERE WHAT IT READS IS OF BULK AT MOST 1048576: true; the input reads as it did. -/
def samplesReconstructedUptoRow : OpenClaim := { program := "ytmbpfhpdicjpcaa", sum := "db614dcc5e77efe66f7184d762d2b19257ebbe8a79feec266ca416605b9ed40e", func := "plantlog/loglaw1.SamplesReconstructed", spec := "samplesReconstructed", unfollowed := true, recurses := true, apart := false, narrowed := true }
def SamplesReconstructedUptoSaid : Prop := samplesReconstructedUptoRow.holds Try.pinned (OpenSpec.upto samplesReconstructedSpec)

/-- 'logkeep1.ActiveWindowsPart', WHERE WHAT IT READS IS OF BULK AT MOST 1048576: true; the input reads as it did. -/
def activeWindowsPartUptoRow : OpenClaim := { program := "ytmbpfhpdicjpcaa", sum := "db614dcc5e77efe66f7184d762d2b19257ebbe8a79feec266ca416605b9ed40e", func := "plantlog/logkeep1.ActiveWindowsPart", spec := "activeWindowsPart", unfollowed := true, recurses := true, apart := false, narrowed := true }
def ActiveWindowsPartUptoSaid : Prop := activeWindowsPartUptoRow.holds Try.pinned (OpenSpec.upto activeWindowsPartSpec)

/-- 'loglaw1.ProfilesCompared', WHERE WHAT IT READS IS OF BULK AT MOST 1048576: true; the input reads as it did. -/
def profilesComparedUptoRow : OpenClaim := { program := "ytmbpfhpdicjpcaa", sum := "db614dcc5e77efe66f7184d762d2b19257ebbe8a79feec266ca416605b9ed40e", func := "plantlog/loglaw1.ProfilesCompared", spec := "profilesCompared", unfollowed := true, recurses := true, apart := false, narrowed := true }
def ProfilesComparedUptoSaid : Prop := profilesComparedUptoRow.holds Try.pinned (OpenSpec.upto profilesComparedSpec)

/-- 'logkeep1.FramesAreFrames', WHERE WHAT IT READS IS OF BULK AT MOST 1048576: true; the input reads as it did. -/
def framesAreFramesUptoRow : OpenClaim := { program := "ytmbpfhpdicjpcaa", sum := "db614dcc5e77efe66f7184d762d2b19257ebbe8a79feec266ca416605b9ed40e", func := "plantlog/logkeep1.FramesAreFrames", spec := "framesAreFrames", unfollowed := true, recurses := true, apart := false, narrowed := true }
def FramesAreFramesUptoSaid : Prop := framesAreFramesUptoRow.holds Try.pinned (OpenSpec.upto framesAreFramesSpec)

/-- 'logtop.TopBinsAreSamples', WHERE WHAT IT READS IS OF BULK AT MOST 1048576: true; the input reads as it did. -/
def topBinsAreSamplesUptoRow : OpenClaim := { program := "ytmbpfhpdicjpcaa", sum := "db614dcc5e77efe66f7184d762d2b19257ebbe8a79feec266ca416605b9ed40e", func := "plantlog/logtop.TopBinsAreSamples", spec := "topBinsAreSamples", unfollowed := true, recurses := true, apart := false, narrowed := true }
def TopBinsAreSamplesUptoSaid : Prop := topBinsAreSamplesUptoRow.holds Try.pinned (OpenSpec.upto topBinsAreSamplesSpec)

/-- 'loglaw1.PhasesFollow', WHERE WHAT IT READS IS OF BULK AT MOST 1048576: true; the input reads as it did. -/
def phasesFollowUptoRow : OpenClaim := { program := "ytmbpfhpdicjpcaa", sum := "db614dcc5e77efe66f7184d762d2b19257ebbe8a79feec266ca416605b9ed40e", func := "plantlog/loglaw1.PhasesFollow", spec := "phasesFollow", unfollowed := true, recurses := true, named := ["math/bits.divideError", "math/bits.overflowError"], apart := false, narrowed := true }
def PhasesFollowUptoSaid : Prop := phasesFollowUptoRow.holds Try.pinned (OpenSpec.upto phasesFollowSpec)

/-- 'logkeep1.KeptAreThemselves', WHERE WHAT IT READS IS OF BULK AT MOST 1048576: true; the input reads as it did. -/
def keptAreThemselvesUptoRow : OpenClaim := { program := "ytmbpfhpdicjpcaa", sum := "db614dcc5e77efe66f7184d762d2b19257ebbe8a79feec266ca416605b9ed40e", func := "plantlog/logkeep1.KeptAreThemselves", spec := "keptAreThemselves", unfollowed := true, recurses := true, apart := false, narrowed := true }
def KeptAreThemselvesUptoSaid : Prop := keptAreThemselvesUptoRow.holds Try.pinned (OpenSpec.upto keptAreThemselvesSpec)

/-- 'logtop.TopFramesAreAlarms', WHERE WHAT IT READS IS OF BULK AT MOST 1048576: true; the input reads as it did. -/
def topFramesAreAlarmsUptoRow : OpenClaim := { program := "ytmbpfhpdicjpcaa", sum := "db614dcc5e77efe66f7184d762d2b19257ebbe8a79feec266ca416605b9ed40e", func := "plantlog/logtop.TopFramesAreAlarms", spec := "topFramesAreAlarms", unfollowed := true, recurses := true, apart := false, narrowed := true }
def TopFramesAreAlarmsUptoSaid : Prop := topFramesAreAlarmsUptoRow.holds Try.pinned (OpenSpec.upto topFramesAreAlarmsSpec)

/-- 'logtop.TopAlarmsAreTimeAbove', WHERE WHAT IT READS IS OF BULK AT MOST 1048576: true; the input reads as it did. -/
def topAlarmsAreTimeAboveUptoRow : OpenClaim := { program := "ytmbpfhpdicjpcaa", sum := "db614dcc5e77efe66f7184d762d2b19257ebbe8a79feec266ca416605b9ed40e", func := "plantlog/logtop.TopAlarmsAreTimeAbove", spec := "topAlarmsAreTimeAbove", unfollowed := true, recurses := true, apart := false, narrowed := true }
def TopAlarmsAreTimeAboveUptoSaid : Prop := topAlarmsAreTimeAboveUptoRow.holds Try.pinned (OpenSpec.upto topAlarmsAreTimeAboveSpec)

/-- 'logkeep1.PhasesArePhases', WHERE WHAT IT READS IS OF BULK AT MOST 1048576: true; the input reads as it did. -/
def phasesArePhasesUptoRow : OpenClaim := { program := "ytmbpfhpdicjpcaa", sum := "db614dcc5e77efe66f7184d762d2b19257ebbe8a79feec266ca416605b9ed40e", func := "plantlog/logkeep1.PhasesArePhases", spec := "phasesArePhases", unfollowed := true, recurses := true, apart := false, narrowed := true }
def PhasesArePhasesUptoSaid : Prop := phasesArePhasesUptoRow.holds Try.pinned (OpenSpec.upto phasesArePhasesSpec)

end Rows
end Go.Proofs.Ytmbpfhpdicjpcaa
