/-
  No cell of these rows narrows 'for every input' (looked for: loops, veiled, ifaces, maps, wideKeys, modest, calm, conditions, laid).
  DERIVED. THE GIVEN ROWS OF THIS SEAT. 11 by the template 'for every input the law returns true; each argument reads behind the call as it read before'; 0 by the template 'total and deterministic' (their statements: YtggbcgldnjmobaaTotals.lean).
  GIVEN WITH THE SEED: the statements are not yours to turn. If you find one false, say at which input.
  Laid BY PROGRAM, IN A SANDBOX (cutbox-rows.mjs): the forced cells as the released guide's own fill.sh prints them over the translation 68f137e29bcdadc8… (all of the seat's roots in one cut). By AI agents, Wed Nov 11 2026. No macro, syntax, notation, axiom, sorry.
-/
import Derived.Test.YtggbcgldnjmobaaChecked
import GoSem.Claim
import GoSem.ClaimJoined
import GoSem.ClaimMapViews
import Derived.JoinedTies
import Derived.KernelRfl
namespace Go.Proofs.Ytggbcgldnjmobaa
/- THE CELL 'sum', in the pinned program and in every row, IS THE sha256 OF THE DUMP (.gsa) THAT YtggbcgldnjmobaaProg.lean LOADS. Nothing in Lean hashes anything: it is a label: what it is worth is what the hold of that sum in a sandbox is worth. -/
noncomputable def Try.pinned : Pinned := { name := "ytggbcgldnjmobaa", sum := "68f137e29bcdadc8f6dcea8cf5782e09932c2ded0f495bbf781a03cc642f18cd", checked := Try.checked }
namespace Rows
def none {H : Type} : Left H := { results := [], args := [] }

/-- 'loglaw1.SamplesStream': WHATEVER THE INPUT: true; the input reads as it did. -/
def samplesStreamSpec : ChangeSpec := { name := "samplesStream", fn := fun _ => fun
  | [d] => { results := [.lit (.bool true)], args := [d] }
  | _ => none }
def samplesStreamRow : OpenClaim := { program := "ytggbcgldnjmobaa", sum := "68f137e29bcdadc8f6dcea8cf5782e09932c2ded0f495bbf781a03cc642f18cd", func := "plantlog/loglaw1.SamplesStream", spec := "samplesStream", unfollowed := true, recurses := true, apart := false }
def SamplesStreamSaid : Prop := samplesStreamRow.holds Try.pinned (OpenSpec.ofChange samplesStreamSpec)

/-- ITS FALSE NEIGHBOUR: 'it returns false'. Refute it at one input. -/
def samplesStreamWrong : ChangeSpec := { name := "samplesStream", fn := fun _ => fun
  | [d] => { results := [.lit (.bool false)], args := [d] }
  | _ => none }
def SamplesStreamWrongFalsely : Prop := samplesStreamRow.holds Try.pinned (OpenSpec.ofChange samplesStreamWrong)

/-- 'loglaw1.SamplesCompressed': WHATEVER THE INPUT: true; the input reads as it did. -/
def samplesCompressedSpec : ChangeSpec := { name := "samplesCompressed", fn := fun _ => fun
  | [d] => { results := [.lit (.bool true)], args := [d] }
  | _ => none }
def samplesCompressedRow : OpenClaim := { program := "ytggbcgldnjmobaa", sum := "68f137e29bcdadc8f6dcea8cf5782e09932c2ded0f495bbf781a03cc642f18cd", func := "plantlog/loglaw1.SamplesCompressed", spec := "samplesCompressed", unfollowed := true, recurses := true, apart := false }
def SamplesCompressedSaid : Prop := samplesCompressedRow.holds Try.pinned (OpenSpec.ofChange samplesCompressedSpec)

/-- ITS FALSE NEIGHBOUR: 'it returns false'. Refute it at one input. -/
def samplesCompressedWrong : ChangeSpec := { name := "samplesCompressed", fn := fun _ => fun
  | [d] => { results := [.lit (.bool false)], args := [d] }
  | _ => none }
def SamplesCompressedWrongFalsely : Prop := samplesCompressedRow.holds Try.pinned (OpenSpec.ofChange samplesCompressedWrong)

/-- 'logkeep1.ProfilesAreClose': WHATEVER THE INPUT: true; the input reads as it did. -/
def profilesAreCloseSpec : ChangeSpec := { name := "profilesAreClose", fn := fun _ => fun
  | [d] => { results := [.lit (.bool true)], args := [d] }
  | _ => none }
def profilesAreCloseRow : OpenClaim := { program := "ytggbcgldnjmobaa", sum := "68f137e29bcdadc8f6dcea8cf5782e09932c2ded0f495bbf781a03cc642f18cd", func := "plantlog/logkeep1.ProfilesAreClose", spec := "profilesAreClose", unfollowed := true, recurses := true, apart := false }
def ProfilesAreCloseSaid : Prop := profilesAreCloseRow.holds Try.pinned (OpenSpec.ofChange profilesAreCloseSpec)

/-- ITS FALSE NEIGHBOUR: 'it returns false'. Refute it at one input. -/
def profilesAreCloseWrong : ChangeSpec := { name := "profilesAreClose", fn := fun _ => fun
  | [d] => { results := [.lit (.bool false)], args := [d] }
  | _ => none }
def ProfilesAreCloseWrongFalsely : Prop := profilesAreCloseRow.holds Try.pinned (OpenSpec.ofChange profilesAreCloseWrong)

/-- 'logkeep1.MappedAndBack': WHATEVER THE INPUT: true; the input reads as it did. -/
def mappedAndBackSpec : ChangeSpec := { name := "mappedAndBack", fn := fun _ => fun
  | [d] => { results := [.lit (.bool true)], args := [d] }
  | _ => none }
def mappedAndBackRow : OpenClaim := { program := "ytggbcgldnjmobaa", sum := "68f137e29bcdadc8f6dcea8cf5782e09932c2ded0f495bbf781a03cc642f18cd", func := "plantlog/logkeep1.MappedAndBack", spec := "mappedAndBack", unfollowed := true, recurses := true, named := ["math/bits.divideError", "math/bits.overflowError"], apart := false }
def MappedAndBackSaid : Prop := mappedAndBackRow.holds Try.pinned (OpenSpec.ofChange mappedAndBackSpec)

/-- ITS FALSE NEIGHBOUR: 'it returns false'. Refute it at one input. -/
def mappedAndBackWrong : ChangeSpec := { name := "mappedAndBack", fn := fun _ => fun
  | [d] => { results := [.lit (.bool false)], args := [d] }
  | _ => none }
def MappedAndBackWrongFalsely : Prop := mappedAndBackRow.holds Try.pinned (OpenSpec.ofChange mappedAndBackWrong)

/-- 'logkeep1.CompressStays': WHATEVER THE INPUT: true; the input reads as it did. -/
def compressStaysSpec : ChangeSpec := { name := "compressStays", fn := fun _ => fun
  | [d] => { results := [.lit (.bool true)], args := [d] }
  | _ => none }
def compressStaysRow : OpenClaim := { program := "ytggbcgldnjmobaa", sum := "68f137e29bcdadc8f6dcea8cf5782e09932c2ded0f495bbf781a03cc642f18cd", func := "plantlog/logkeep1.CompressStays", spec := "compressStays", unfollowed := true, recurses := true, apart := false }
def CompressStaysSaid : Prop := compressStaysRow.holds Try.pinned (OpenSpec.ofChange compressStaysSpec)

/-- ITS FALSE NEIGHBOUR: 'it returns false'. Refute it at one input. -/
def compressStaysWrong : ChangeSpec := { name := "compressStays", fn := fun _ => fun
  | [d] => { results := [.lit (.bool false)], args := [d] }
  | _ => none }
def CompressStaysWrongFalsely : Prop := compressStaysRow.holds Try.pinned (OpenSpec.ofChange compressStaysWrong)

/-- 'logkeep1.StreamsAreBatches': WHATEVER THE INPUT: true; the input reads as it did. -/
def streamsAreBatchesSpec : ChangeSpec := { name := "streamsAreBatches", fn := fun _ => fun
  | [d] => { results := [.lit (.bool true)], args := [d] }
  | _ => none }
def streamsAreBatchesRow : OpenClaim := { program := "ytggbcgldnjmobaa", sum := "68f137e29bcdadc8f6dcea8cf5782e09932c2ded0f495bbf781a03cc642f18cd", func := "plantlog/logkeep1.StreamsAreBatches", spec := "streamsAreBatches", unfollowed := true, recurses := true, apart := false }
def StreamsAreBatchesSaid : Prop := streamsAreBatchesRow.holds Try.pinned (OpenSpec.ofChange streamsAreBatchesSpec)

/-- ITS FALSE NEIGHBOUR: 'it returns false'. Refute it at one input. -/
def streamsAreBatchesWrong : ChangeSpec := { name := "streamsAreBatches", fn := fun _ => fun
  | [d] => { results := [.lit (.bool false)], args := [d] }
  | _ => none }
def StreamsAreBatchesWrongFalsely : Prop := streamsAreBatchesRow.holds Try.pinned (OpenSpec.ofChange streamsAreBatchesWrong)

/-- 'logkeep1.QueriesStay': WHATEVER THE INPUT: true; the input reads as it did. -/
def queriesStaySpec : ChangeSpec := { name := "queriesStay", fn := fun _ => fun
  | [d] => { results := [.lit (.bool true)], args := [d] }
  | _ => none }
def queriesStayRow : OpenClaim := { program := "ytggbcgldnjmobaa", sum := "68f137e29bcdadc8f6dcea8cf5782e09932c2ded0f495bbf781a03cc642f18cd", func := "plantlog/logkeep1.QueriesStay", spec := "queriesStay", unfollowed := true, recurses := true, apart := false }
def QueriesStaySaid : Prop := queriesStayRow.holds Try.pinned (OpenSpec.ofChange queriesStaySpec)

/-- ITS FALSE NEIGHBOUR: 'it returns false'. Refute it at one input. -/
def queriesStayWrong : ChangeSpec := { name := "queriesStay", fn := fun _ => fun
  | [d] => { results := [.lit (.bool false)], args := [d] }
  | _ => none }
def QueriesStayWrongFalsely : Prop := queriesStayRow.holds Try.pinned (OpenSpec.ofChange queriesStayWrong)

/-- 'logkeep1.CompressedFits': WHATEVER THE INPUT: true; the input reads as it did. -/
def compressedFitsSpec : ChangeSpec := { name := "compressedFits", fn := fun _ => fun
  | [d] => { results := [.lit (.bool true)], args := [d] }
  | _ => none }
def compressedFitsRow : OpenClaim := { program := "ytggbcgldnjmobaa", sum := "68f137e29bcdadc8f6dcea8cf5782e09932c2ded0f495bbf781a03cc642f18cd", func := "plantlog/logkeep1.CompressedFits", spec := "compressedFits", unfollowed := true, recurses := true, apart := false }
def CompressedFitsSaid : Prop := compressedFitsRow.holds Try.pinned (OpenSpec.ofChange compressedFitsSpec)

/-- ITS FALSE NEIGHBOUR: 'it returns false'. Refute it at one input. -/
def compressedFitsWrong : ChangeSpec := { name := "compressedFits", fn := fun _ => fun
  | [d] => { results := [.lit (.bool false)], args := [d] }
  | _ => none }
def CompressedFitsWrongFalsely : Prop := compressedFitsRow.holds Try.pinned (OpenSpec.ofChange compressedFitsWrong)

/-- 'logkeep1.DeadbandIsEnough': WHATEVER THE INPUT: true; the input reads as it did. -/
def deadbandIsEnoughSpec : ChangeSpec := { name := "deadbandIsEnough", fn := fun _ => fun
  | [d] => { results := [.lit (.bool true)], args := [d] }
  | _ => none }
def deadbandIsEnoughRow : OpenClaim := { program := "ytggbcgldnjmobaa", sum := "68f137e29bcdadc8f6dcea8cf5782e09932c2ded0f495bbf781a03cc642f18cd", func := "plantlog/logkeep1.DeadbandIsEnough", spec := "deadbandIsEnough", unfollowed := true, recurses := true, apart := false }
def DeadbandIsEnoughSaid : Prop := deadbandIsEnoughRow.holds Try.pinned (OpenSpec.ofChange deadbandIsEnoughSpec)

/-- ITS FALSE NEIGHBOUR: 'it returns false'. Refute it at one input. -/
def deadbandIsEnoughWrong : ChangeSpec := { name := "deadbandIsEnough", fn := fun _ => fun
  | [d] => { results := [.lit (.bool false)], args := [d] }
  | _ => none }
def DeadbandIsEnoughWrongFalsely : Prop := deadbandIsEnoughRow.holds Try.pinned (OpenSpec.ofChange deadbandIsEnoughWrong)

/-- 'logkeep1.IntegralsAddUp': WHATEVER THE INPUT: true; the input reads as it did. -/
def integralsAddUpSpec : ChangeSpec := { name := "integralsAddUp", fn := fun _ => fun
  | [d] => { results := [.lit (.bool true)], args := [d] }
  | _ => none }
def integralsAddUpRow : OpenClaim := { program := "ytggbcgldnjmobaa", sum := "68f137e29bcdadc8f6dcea8cf5782e09932c2ded0f495bbf781a03cc642f18cd", func := "plantlog/logkeep1.IntegralsAddUp", spec := "integralsAddUp", unfollowed := true, recurses := true, apart := false }
def IntegralsAddUpSaid : Prop := integralsAddUpRow.holds Try.pinned (OpenSpec.ofChange integralsAddUpSpec)

/-- ITS FALSE NEIGHBOUR: 'it returns false'. Refute it at one input. -/
def integralsAddUpWrong : ChangeSpec := { name := "integralsAddUp", fn := fun _ => fun
  | [d] => { results := [.lit (.bool false)], args := [d] }
  | _ => none }
def IntegralsAddUpWrongFalsely : Prop := integralsAddUpRow.holds Try.pinned (OpenSpec.ofChange integralsAddUpWrong)

/-- 'loglaw1.AggregatesWeighed': WHATEVER THE INPUT: true; the input reads as it did. -/
def aggregatesWeighedSpec : ChangeSpec := { name := "aggregatesWeighed", fn := fun _ => fun
  | [d] => { results := [.lit (.bool true)], args := [d] }
  | _ => none }
def aggregatesWeighedRow : OpenClaim := { program := "ytggbcgldnjmobaa", sum := "68f137e29bcdadc8f6dcea8cf5782e09932c2ded0f495bbf781a03cc642f18cd", func := "plantlog/loglaw1.AggregatesWeighed", spec := "aggregatesWeighed", unfollowed := true, recurses := true, apart := false }
def AggregatesWeighedSaid : Prop := aggregatesWeighedRow.holds Try.pinned (OpenSpec.ofChange aggregatesWeighedSpec)

/-- ITS FALSE NEIGHBOUR: 'it returns false'. Refute it at one input. -/
def aggregatesWeighedWrong : ChangeSpec := { name := "aggregatesWeighed", fn := fun _ => fun
  | [d] => { results := [.lit (.bool false)], args := [d] }
  | _ => none }
def AggregatesWeighedWrongFalsely : Prop := aggregatesWeighedRow.holds Try.pinned (OpenSpec.ofChange aggregatesWeighedWrong)

/- THE SECOND FORM. 'bulk': how many values and letters a reading holds, each counted each time it is reached (what is shared counts as often as it is met; a slice's spare places count too). A statement '..UptoSaid' is the law's where the arguments, and the package variables that the reading takes, are together of bulk at most 1048576: NARROWER than '..Said'. Prove '..Said' where nothing that the law and all that it calls make is longer than what came in: it says more and counts as full. Else prove '..UptoSaid'. A law counts once. -/
mutual
def uptoBulk {H : Type} : DataW H → Nat
  | .lit (.string bytes) => bytes.length + 1
  | .lit _ => 1
  | .nil => 1
  | .ptr d => uptoBulk d + 1
  | .slice elems spare => uptoBulkAll elems + uptoBulkAll spare + 1
  | .agg parts => uptoBulkAll parts + 1
  | .iface _ d => uptoBulk d + 1
  | .map entries => uptoBulkEntries entries + 1
  | .held _ => 1
def uptoBulkAll {H : Type} : List (DataW H) → Nat
  | [] => 0
  | d :: r => uptoBulk d + uptoBulkAll r
def uptoBulkEntries {H : Type} : List (Lit × DataW H) → Nat
  | [] => 0
  | x :: r => uptoBulkEntry x + uptoBulkEntries r
def uptoBulkEntry {H : Type} : Lit × DataW H → Nat
  | (.string bytes, d) => bytes.length + uptoBulk d + 1
  | (_, d) => uptoBulk d + 1
 end
def uptoSmall : (H : Type) → List (DataW H) → Bool := fun _ ds => decide (uptoBulkAll ds ≤ 1048576)
def OpenSpec.upto (s : _root_.Go.ChangeSpec) : _root_.Go.OpenSpec := { _root_.Go.OpenSpec.ofChange s with cond := some uptoSmall }

/-- 'loglaw1.SamplesStream', WHERE WHAT IT READS IS OF BULK AT MOST 1048576: true; the input reads as it did. -/
def samplesStreamUptoRow : OpenClaim := { program := "ytggbcgldnjmobaa", sum := "68f137e29bcdadc8f6dcea8cf5782e09932c2ded0f495bbf781a03cc642f18cd", func := "plantlog/loglaw1.SamplesStream", spec := "samplesStream", unfollowed := true, recurses := true, apart := false, narrowed := true }
def SamplesStreamUptoSaid : Prop := samplesStreamUptoRow.holds Try.pinned (OpenSpec.upto samplesStreamSpec)

/-- 'loglaw1.SamplesCompressed', WHERE WHAT IT READS IS OF BULK AT MOST 1048576: true; the input reads as it did. -/
def samplesCompressedUptoRow : OpenClaim := { program := "ytggbcgldnjmobaa", sum := "68f137e29bcdadc8f6dcea8cf5782e09932c2ded0f495bbf781a03cc642f18cd", func := "plantlog/loglaw1.SamplesCompressed", spec := "samplesCompressed", unfollowed := true, recurses := true, apart := false, narrowed := true }
def SamplesCompressedUptoSaid : Prop := samplesCompressedUptoRow.holds Try.pinned (OpenSpec.upto samplesCompressedSpec)

/-- 'logkeep1.ProfilesAreClose', WHERE WHAT IT READS IS OF BULK AT MOST 1048576: true; the input reads as it did. -/
def profilesAreCloseUptoRow : OpenClaim := { program := "ytggbcgldnjmobaa", sum := "68f137e29bcdadc8f6dcea8cf5782e09932c2ded0f495bbf781a03cc642f18cd", func := "plantlog/logkeep1.ProfilesAreClose", spec := "profilesAreClose", unfollowed := true, recurses := true, apart := false, narrowed := true }
def ProfilesAreCloseUptoSaid : Prop := profilesAreCloseUptoRow.holds Try.pinned (OpenSpec.upto profilesAreCloseSpec)

/-- 'logkeep1.MappedAndBack', WHERE WHAT IT READS IS OF BULK AT MOST 1048576: true; the input reads as it did. -/
def mappedAndBackUptoRow : OpenClaim := { program := "ytggbcgldnjmobaa", sum := "68f137e29bcdadc8f6dcea8cf5782e09932c2ded0f495bbf781a03cc642f18cd", func := "plantlog/logkeep1.MappedAndBack", spec := "mappedAndBack", unfollowed := true, recurses := true, named := ["math/bits.divideError", "math/bits.overflowError"], apart := false, narrowed := true }
def MappedAndBackUptoSaid : Prop := mappedAndBackUptoRow.holds Try.pinned (OpenSpec.upto mappedAndBackSpec)

/-- 'logkeep1.CompressStays', WHERE WHAT IT READS IS OF BULK AT MOST 1048576: true; the input reads as it did. -/
def compressStaysUptoRow : OpenClaim := { program := "ytggbcgldnjmobaa", sum := "68f137e29bcdadc8f6dcea8cf5782e09932c2ded0f495bbf781a03cc642f18cd", func := "plantlog/logkeep1.CompressStays", spec := "compressStays", unfollowed := true, recurses := true, apart := false, narrowed := true }
def CompressStaysUptoSaid : Prop := compressStaysUptoRow.holds Try.pinned (OpenSpec.upto compressStaysSpec)

/-- 'logkeep1.StreamsAreBatches', WHERE WHAT IT READS IS OF BULK AT MOST 1048576: true; the input reads as it did. -/
def streamsAreBatchesUptoRow : OpenClaim := { program := "ytggbcgldnjmobaa", sum := "68f137e29bcdadc8f6dcea8cf5782e09932c2ded0f495bbf781a03cc642f18cd", func := "plantlog/logkeep1.StreamsAreBatches", spec := "streamsAreBatches", unfollowed := true, recurses := true, apart := false, narrowed := true }
def StreamsAreBatchesUptoSaid : Prop := streamsAreBatchesUptoRow.holds Try.pinned (OpenSpec.upto streamsAreBatchesSpec)

/-- 'logkeep1.QueriesStay', WHERE WHAT IT READS IS OF BULK AT MOST 1048576: true; the input reads as it did. -/
def queriesStayUptoRow : OpenClaim := { program := "ytggbcgldnjmobaa", sum := "68f137e29bcdadc8f6dcea8cf5782e09932c2ded0f495bbf781a03cc642f18cd", func := "plantlog/logkeep1.QueriesStay", spec := "queriesStay", unfollowed := true, recurses := true, apart := false, narrowed := true }
def QueriesStayUptoSaid : Prop := queriesStayUptoRow.holds Try.pinned (OpenSpec.upto queriesStaySpec)

/-- 'logkeep1.CompressedFits', WHERE WHAT IT READS IS OF BULK AT MOST 1048576: true; the input reads as it did. -/
def compressedFitsUptoRow : OpenClaim := { program := "ytggbcgldnjmobaa", sum := "68f137e29bcdadc8f6dcea8cf5782e09932c2ded0f495bbf781a03cc642f18cd", func := "plantlog/logkeep1.CompressedFits", spec := "compressedFits", unfollowed := true, recurses := true, apart := false, narrowed := true }
def CompressedFitsUptoSaid : Prop := compressedFitsUptoRow.holds Try.pinned (OpenSpec.upto compressedFitsSpec)

/-- 'logkeep1.DeadbandIsEnough', WHERE WHAT IT READS IS OF BULK AT MOST 1048576: true; the input reads as it did. -/
def deadbandIsEnoughUptoRow : OpenClaim := { program := "ytggbcgldnjmobaa", sum := "68f137e29bcdadc8f6dcea8cf5782e09932c2ded0f495bbf781a03cc642f18cd", func := "plantlog/logkeep1.DeadbandIsEnough", spec := "deadbandIsEnough", unfollowed := true, recurses := true, apart := false, narrowed := true }
def DeadbandIsEnoughUptoSaid : Prop := deadbandIsEnoughUptoRow.holds Try.pinned (OpenSpec.upto deadbandIsEnoughSpec)

/-- 'logkeep1.IntegralsAddUp', WHERE WHAT IT READS IS OF BULK AT MOST 1048576: true; the input reads as it did. -/
def integralsAddUpUptoRow : OpenClaim := { program := "ytggbcgldnjmobaa", sum := "68f137e29bcdadc8f6dcea8cf5782e09932c2ded0f495bbf781a03cc642f18cd", func := "plantlog/logkeep1.IntegralsAddUp", spec := "integralsAddUp", unfollowed := true, recurses := true, apart := false, narrowed := true }
def IntegralsAddUpUptoSaid : Prop := integralsAddUpUptoRow.holds Try.pinned (OpenSpec.upto integralsAddUpSpec)

/-- 'loglaw1.AggregatesWeighed', WHERE WHAT IT READS IS OF BULK AT MOST 1048576: true; the input reads as it did. -/
def aggregatesWeighedUptoRow : OpenClaim := { program := "ytggbcgldnjmobaa", sum := "68f137e29bcdadc8f6dcea8cf5782e09932c2ded0f495bbf781a03cc642f18cd", func := "plantlog/loglaw1.AggregatesWeighed", spec := "aggregatesWeighed", unfollowed := true, recurses := true, apart := false, narrowed := true }
def AggregatesWeighedUptoSaid : Prop := aggregatesWeighedUptoRow.holds Try.pinned (OpenSpec.upto aggregatesWeighedSpec)

end Rows
end Go.Proofs.Ytggbcgldnjmobaa
