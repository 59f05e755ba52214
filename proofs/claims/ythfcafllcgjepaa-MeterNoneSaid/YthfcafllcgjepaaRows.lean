/-
  No cell of these rows narrows 'for every input' (looked for: loops, veiled, ifaces, maps, wideKeys, modest, calm, conditions, laid).
  DERIVED. THE GIVEN ROWS OF THIS SEAT. 20 by the template 'for every input the law returns true; each argument reads behind the call as it read before'; 0 by the template 'total and deterministic' (their statements: YthfcafllcgjepaaTotals.lean).
  GIVEN WITH THE SEED: the statements are not yours to turn. If you find one false, say at which input.
  Laid BY PROGRAM, IN A SANDBOX (cutbox-rows.mjs): the forced cells as the released guide's own fill.sh prints them over the translation adbdaa2fc1908203… (all of the seat's roots in one cut). By AI agents, Wed Nov 11 2026. No macro, syntax, notation, axiom, sorry.
-/
import Derived.Test.YthfcafllcgjepaaChecked
import GoSem.Claim
import GoSem.ClaimJoined
import GoSem.ClaimMapViews
import Derived.JoinedTies
import Derived.KernelRfl
namespace Go.Proofs.Ythfcafllcgjepaa
/- THE CELL 'sum', in the pinned program and in every row, IS THE sha256 OF THE DUMP (.gsa) THAT YthfcafllcgjepaaProg.lean LOADS. Nothing in Lean hashes anything: it is a label: what it is worth is what the hold of that sum in a sandbox is worth. -/
noncomputable def Try.pinned : Pinned := { name := "ythfcafllcgjepaa", sum := "adbdaa2fc1908203b0f4e397dca734b9c42c485520354b8aeaaae75e3ccb4b21", checked := Try.checked }
namespace Rows
def none {H : Type} : Left H := { results := [], args := [] }

/-- 'foghornlaw11.FeedbackEchoes': WHATEVER THE INPUT: true; the input reads as it did. -/
def feedbackEchoesSpec : ChangeSpec := { name := "feedbackEchoes", fn := fun _ => fun
  | [d1, d2] => { results := [.lit (.bool true)], args := [d1, d2] }
  | _ => none }
def feedbackEchoesRow : OpenClaim := { program := "ythfcafllcgjepaa", sum := "adbdaa2fc1908203b0f4e397dca734b9c42c485520354b8aeaaae75e3ccb4b21", func := "foghorn/foghornlaw11.FeedbackEchoes", spec := "feedbackEchoes", inPlace := ["math.Float64frombits", "math.Float64bits", "math.archFloor", "math.archTrunc"], apart := false }
def FeedbackEchoesSaid : Prop := feedbackEchoesRow.holds Try.pinned (OpenSpec.ofChange feedbackEchoesSpec)

/-- ITS FALSE NEIGHBOUR: 'it returns false'. Refute it at one input. -/
def feedbackEchoesWrong : ChangeSpec := { name := "feedbackEchoes", fn := fun _ => fun
  | [d1, d2] => { results := [.lit (.bool false)], args := [d1, d2] }
  | _ => none }
def FeedbackEchoesWrongFalsely : Prop := feedbackEchoesRow.holds Try.pinned (OpenSpec.ofChange feedbackEchoesWrong)

/-- 'foghornlaw30.MeterBits': WHATEVER THE INPUT: true; the input reads as it did. -/
def meterBitsSpec : ChangeSpec := { name := "meterBits", fn := fun _ => fun
  | [d1, d2, d3] => { results := [.lit (.bool true)], args := [d1, d2, d3] }
  | _ => none }
def meterBitsRow : OpenClaim := { program := "ythfcafllcgjepaa", sum := "adbdaa2fc1908203b0f4e397dca734b9c42c485520354b8aeaaae75e3ccb4b21", func := "foghorn/foghornlaw30.MeterBits", spec := "meterBits", inPlace := ["math.archFloor", "math.Float64bits", "math.Float64frombits", "math.archTrunc"], unfollowed := true, recurses := true, apart := false }
def MeterBitsSaid : Prop := meterBitsRow.holds Try.pinned (OpenSpec.ofChange meterBitsSpec)

/-- ITS FALSE NEIGHBOUR: 'it returns false'. Refute it at one input. -/
def meterBitsWrong : ChangeSpec := { name := "meterBits", fn := fun _ => fun
  | [d1, d2, d3] => { results := [.lit (.bool false)], args := [d1, d2, d3] }
  | _ => none }
def MeterBitsWrongFalsely : Prop := meterBitsRow.holds Try.pinned (OpenSpec.ofChange meterBitsWrong)

/-- 'foghornlaw30.MeterRuns': WHATEVER THE INPUT: true; the input reads as it did. -/
def meterRunsSpec : ChangeSpec := { name := "meterRuns", fn := fun _ => fun
  | [d1, d2, d3] => { results := [.lit (.bool true)], args := [d1, d2, d3] }
  | _ => none }
def meterRunsRow : OpenClaim := { program := "ythfcafllcgjepaa", sum := "adbdaa2fc1908203b0f4e397dca734b9c42c485520354b8aeaaae75e3ccb4b21", func := "foghorn/foghornlaw30.MeterRuns", spec := "meterRuns", inPlace := ["math.archFloor", "math.Float64bits", "math.Float64frombits", "math.archTrunc"], unfollowed := true, recurses := true, apart := false }
def MeterRunsSaid : Prop := meterRunsRow.holds Try.pinned (OpenSpec.ofChange meterRunsSpec)

/-- ITS FALSE NEIGHBOUR: 'it returns false'. Refute it at one input. -/
def meterRunsWrong : ChangeSpec := { name := "meterRuns", fn := fun _ => fun
  | [d1, d2, d3] => { results := [.lit (.bool false)], args := [d1, d2, d3] }
  | _ => none }
def MeterRunsWrongFalsely : Prop := meterRunsRow.holds Try.pinned (OpenSpec.ofChange meterRunsWrong)

/-- 'foghornlaw30.MeterCounts': WHATEVER THE INPUT: true; the input reads as it did. -/
def meterCountsSpec : ChangeSpec := { name := "meterCounts", fn := fun _ => fun
  | [d] => { results := [.lit (.bool true)], args := [d] }
  | _ => none }
def meterCountsRow : OpenClaim := { program := "ythfcafllcgjepaa", sum := "adbdaa2fc1908203b0f4e397dca734b9c42c485520354b8aeaaae75e3ccb4b21", func := "foghorn/foghornlaw30.MeterCounts", spec := "meterCounts", inPlace := ["math.archFloor", "math.Float64bits", "math.Float64frombits", "math.archTrunc"], unfollowed := true, recurses := true, apart := false }
def MeterCountsSaid : Prop := meterCountsRow.holds Try.pinned (OpenSpec.ofChange meterCountsSpec)

/-- ITS FALSE NEIGHBOUR: 'it returns false'. Refute it at one input. -/
def meterCountsWrong : ChangeSpec := { name := "meterCounts", fn := fun _ => fun
  | [d] => { results := [.lit (.bool false)], args := [d] }
  | _ => none }
def MeterCountsWrongFalsely : Prop := meterCountsRow.holds Try.pinned (OpenSpec.ofChange meterCountsWrong)

/-- 'foghornlaw05.SliceAxes': WHATEVER THE INPUT: true; the input reads as it did. -/
def sliceAxesSpec : ChangeSpec := { name := "sliceAxes", fn := fun _ => fun
  | [d1, d2, d3, d4, d5] => { results := [.lit (.bool true)], args := [d1, d2, d3, d4, d5] }
  | _ => none }
def sliceAxesRow : OpenClaim := { program := "ythfcafllcgjepaa", sum := "adbdaa2fc1908203b0f4e397dca734b9c42c485520354b8aeaaae75e3ccb4b21", func := "foghorn/foghornlaw05.SliceAxes", spec := "sliceAxes", inPlace := ["math.Float64frombits", "math.archMin", "math.Float64bits", "math.archMax", "math.archCeil", "math.archFloor", "math.archTrunc"], unfollowed := true, recurses := true, apart := false }
def SliceAxesSaid : Prop := sliceAxesRow.holds Try.pinned (OpenSpec.ofChange sliceAxesSpec)

/-- ITS FALSE NEIGHBOUR: 'it returns false'. Refute it at one input. -/
def sliceAxesWrong : ChangeSpec := { name := "sliceAxes", fn := fun _ => fun
  | [d1, d2, d3, d4, d5] => { results := [.lit (.bool false)], args := [d1, d2, d3, d4, d5] }
  | _ => none }
def SliceAxesWrongFalsely : Prop := sliceAxesRow.holds Try.pinned (OpenSpec.ofChange sliceAxesWrong)

/-- 'foghornlaw05.SliceDecides': WHATEVER THE INPUT: true; the input reads as it did. -/
def sliceDecidesSpec : ChangeSpec := { name := "sliceDecides", fn := fun _ => fun
  | [d1, d2, d3] => { results := [.lit (.bool true)], args := [d1, d2, d3] }
  | _ => none }
def sliceDecidesRow : OpenClaim := { program := "ythfcafllcgjepaa", sum := "adbdaa2fc1908203b0f4e397dca734b9c42c485520354b8aeaaae75e3ccb4b21", func := "foghorn/foghornlaw05.SliceDecides", spec := "sliceDecides", inPlace := ["math.Float64frombits", "math.Float64bits", "math.archMin", "math.archMax", "math.archCeil", "math.archFloor", "math.archTrunc"], unfollowed := true, recurses := true, apart := false }
def SliceDecidesSaid : Prop := sliceDecidesRow.holds Try.pinned (OpenSpec.ofChange sliceDecidesSpec)

/-- ITS FALSE NEIGHBOUR: 'it returns false'. Refute it at one input. -/
def sliceDecidesWrong : ChangeSpec := { name := "sliceDecides", fn := fun _ => fun
  | [d1, d2, d3] => { results := [.lit (.bool false)], args := [d1, d2, d3] }
  | _ => none }
def SliceDecidesWrongFalsely : Prop := sliceDecidesRow.holds Try.pinned (OpenSpec.ofChange sliceDecidesWrong)

/-- 'foghornlaw30.MeterMargins': WHATEVER THE INPUT: true; the input reads as it did. -/
def meterMarginsSpec : ChangeSpec := { name := "meterMargins", fn := fun _ => fun
  | [d] => { results := [.lit (.bool true)], args := [d] }
  | _ => none }
def meterMarginsRow : OpenClaim := { program := "ythfcafllcgjepaa", sum := "adbdaa2fc1908203b0f4e397dca734b9c42c485520354b8aeaaae75e3ccb4b21", func := "foghorn/foghornlaw30.MeterMargins", spec := "meterMargins", inPlace := ["math.archFloor", "math.Float64bits", "math.Float64frombits", "math.archTrunc"], unfollowed := true, recurses := true, apart := false }
def MeterMarginsSaid : Prop := meterMarginsRow.holds Try.pinned (OpenSpec.ofChange meterMarginsSpec)

/-- ITS FALSE NEIGHBOUR: 'it returns false'. Refute it at one input. -/
def meterMarginsWrong : ChangeSpec := { name := "meterMargins", fn := fun _ => fun
  | [d] => { results := [.lit (.bool false)], args := [d] }
  | _ => none }
def MeterMarginsWrongFalsely : Prop := meterMarginsRow.holds Try.pinned (OpenSpec.ofChange meterMarginsWrong)

/-- 'foghornlaw05.SliceNear': WHATEVER THE INPUT: true; the input reads as it did. -/
def sliceNearSpec : ChangeSpec := { name := "sliceNear", fn := fun _ => fun
  | [d1, d2, d3, d4] => { results := [.lit (.bool true)], args := [d1, d2, d3, d4] }
  | _ => none }
def sliceNearRow : OpenClaim := { program := "ythfcafllcgjepaa", sum := "adbdaa2fc1908203b0f4e397dca734b9c42c485520354b8aeaaae75e3ccb4b21", func := "foghorn/foghornlaw05.SliceNear", spec := "sliceNear", inPlace := ["math.Float64bits", "math.Float64frombits", "math.archMin", "math.archMax", "math.archCeil", "math.archFloor", "math.archTrunc"], unfollowed := true, recurses := true, apart := false }
def SliceNearSaid : Prop := sliceNearRow.holds Try.pinned (OpenSpec.ofChange sliceNearSpec)

/-- ITS FALSE NEIGHBOUR: 'it returns false'. Refute it at one input. -/
def sliceNearWrong : ChangeSpec := { name := "sliceNear", fn := fun _ => fun
  | [d1, d2, d3, d4] => { results := [.lit (.bool false)], args := [d1, d2, d3, d4] }
  | _ => none }
def SliceNearWrongFalsely : Prop := sliceNearRow.holds Try.pinned (OpenSpec.ofChange sliceNearWrong)

/-- 'foghornlaw05.SliceLeast': WHATEVER THE INPUT: true; the input reads as it did. -/
def sliceLeastSpec : ChangeSpec := { name := "sliceLeast", fn := fun _ => fun
  | [d1, d2, d3, d4] => { results := [.lit (.bool true)], args := [d1, d2, d3, d4] }
  | _ => none }
def sliceLeastRow : OpenClaim := { program := "ythfcafllcgjepaa", sum := "adbdaa2fc1908203b0f4e397dca734b9c42c485520354b8aeaaae75e3ccb4b21", func := "foghorn/foghornlaw05.SliceLeast", spec := "sliceLeast", inPlace := ["math.Float64bits", "math.Float64frombits", "math.archMin", "math.archMax", "math.archCeil", "math.archFloor", "math.archTrunc"], unfollowed := true, recurses := true, apart := false }
def SliceLeastSaid : Prop := sliceLeastRow.holds Try.pinned (OpenSpec.ofChange sliceLeastSpec)

/-- ITS FALSE NEIGHBOUR: 'it returns false'. Refute it at one input. -/
def sliceLeastWrong : ChangeSpec := { name := "sliceLeast", fn := fun _ => fun
  | [d1, d2, d3, d4] => { results := [.lit (.bool false)], args := [d1, d2, d3, d4] }
  | _ => none }
def SliceLeastWrongFalsely : Prop := sliceLeastRow.holds Try.pinned (OpenSpec.ofChange sliceLeastWrong)

/-- 'foghornlaw05.SliceTurned': WHATEVER THE INPUT: true; the input reads as it did. -/
def sliceTurnedSpec : ChangeSpec := { name := "sliceTurned", fn := fun _ => fun
  | [d1, d2, d3] => { results := [.lit (.bool true)], args := [d1, d2, d3] }
  | _ => none }
def sliceTurnedRow : OpenClaim := { program := "ythfcafllcgjepaa", sum := "adbdaa2fc1908203b0f4e397dca734b9c42c485520354b8aeaaae75e3ccb4b21", func := "foghorn/foghornlaw05.SliceTurned", spec := "sliceTurned", inPlace := ["math.Float64bits", "math.Float64frombits", "math.archMin", "math.archMax", "math.archCeil", "math.archFloor", "math.archTrunc"], unfollowed := true, recurses := true, apart := false }
def SliceTurnedSaid : Prop := sliceTurnedRow.holds Try.pinned (OpenSpec.ofChange sliceTurnedSpec)

/-- ITS FALSE NEIGHBOUR: 'it returns false'. Refute it at one input. -/
def sliceTurnedWrong : ChangeSpec := { name := "sliceTurned", fn := fun _ => fun
  | [d1, d2, d3] => { results := [.lit (.bool false)], args := [d1, d2, d3] }
  | _ => none }
def SliceTurnedWrongFalsely : Prop := sliceTurnedRow.holds Try.pinned (OpenSpec.ofChange sliceTurnedWrong)

/-- 'foghornlaw05.SliceRows': WHATEVER THE INPUT: true; the input reads as it did. -/
def sliceRowsSpec : ChangeSpec := { name := "sliceRows", fn := fun _ => fun
  | [d1, d2] => { results := [.lit (.bool true)], args := [d1, d2] }
  | _ => none }
def sliceRowsRow : OpenClaim := { program := "ythfcafllcgjepaa", sum := "adbdaa2fc1908203b0f4e397dca734b9c42c485520354b8aeaaae75e3ccb4b21", func := "foghorn/foghornlaw05.SliceRows", spec := "sliceRows", inPlace := ["math.archFloor", "math.Float64bits", "math.Float64frombits", "math.archTrunc", "math.archMin", "math.archMax", "math.archCeil"], unfollowed := true, recurses := true, apart := false }
def SliceRowsSaid : Prop := sliceRowsRow.holds Try.pinned (OpenSpec.ofChange sliceRowsSpec)

/-- ITS FALSE NEIGHBOUR: 'it returns false'. Refute it at one input. -/
def sliceRowsWrong : ChangeSpec := { name := "sliceRows", fn := fun _ => fun
  | [d1, d2] => { results := [.lit (.bool false)], args := [d1, d2] }
  | _ => none }
def SliceRowsWrongFalsely : Prop := sliceRowsRow.holds Try.pinned (OpenSpec.ofChange sliceRowsWrong)

/-- 'foghornlaw30.MeterRows': WHATEVER THE INPUT: true; the input reads as it did. -/
def meterRowsSpec : ChangeSpec := { name := "meterRows", fn := fun _ => fun
  | [d] => { results := [.lit (.bool true)], args := [d] }
  | _ => none }
def meterRowsRow : OpenClaim := { program := "ythfcafllcgjepaa", sum := "adbdaa2fc1908203b0f4e397dca734b9c42c485520354b8aeaaae75e3ccb4b21", func := "foghorn/foghornlaw30.MeterRows", spec := "meterRows", inPlace := ["math.archFloor", "math.Float64bits", "math.Float64frombits", "math.archTrunc", "math.archMin", "math.archMax"], unfollowed := true, recurses := true, apart := false }
def MeterRowsSaid : Prop := meterRowsRow.holds Try.pinned (OpenSpec.ofChange meterRowsSpec)

/-- ITS FALSE NEIGHBOUR: 'it returns false'. Refute it at one input. -/
def meterRowsWrong : ChangeSpec := { name := "meterRows", fn := fun _ => fun
  | [d] => { results := [.lit (.bool false)], args := [d] }
  | _ => none }
def MeterRowsWrongFalsely : Prop := meterRowsRow.holds Try.pinned (OpenSpec.ofChange meterRowsWrong)

/-- 'foghornlaw05.SliceNames': WHATEVER THE INPUT: true; the input reads as it did. -/
def sliceNamesSpec : ChangeSpec := { name := "sliceNames", fn := fun _ => fun
  | [] => { results := [.lit (.bool true)], args := [] }
  | _ => none }
def sliceNamesRow : OpenClaim := { program := "ythfcafllcgjepaa", sum := "adbdaa2fc1908203b0f4e397dca734b9c42c485520354b8aeaaae75e3ccb4b21", func := "foghorn/foghornlaw05.SliceNames", spec := "sliceNames", inPlace := ["math.archMin", "math.Float64bits", "math.Float64frombits", "math.archMax", "math.archCeil", "math.archFloor", "math.archTrunc"], unfollowed := true, recurses := true, apart := false }
def SliceNamesSaid : Prop := sliceNamesRow.holds Try.pinned (OpenSpec.ofChange sliceNamesSpec)

/-- ITS FALSE NEIGHBOUR: 'it returns false'. Refute it at one input. -/
def sliceNamesWrong : ChangeSpec := { name := "sliceNames", fn := fun _ => fun
  | [] => { results := [.lit (.bool false)], args := [] }
  | _ => none }
def SliceNamesWrongFalsely : Prop := sliceNamesRow.holds Try.pinned (OpenSpec.ofChange sliceNamesWrong)

/-- 'foghornlaw30.MeterNone': WHATEVER THE INPUT: true; the input reads as it did. -/
def meterNoneSpec : ChangeSpec := { name := "meterNone", fn := fun _ => fun
  | [] => { results := [.lit (.bool true)], args := [] }
  | _ => none }
def meterNoneRow : OpenClaim := { program := "ythfcafllcgjepaa", sum := "adbdaa2fc1908203b0f4e397dca734b9c42c485520354b8aeaaae75e3ccb4b21", func := "foghorn/foghornlaw30.MeterNone", spec := "meterNone", inPlace := ["math.archFloor", "math.Float64bits", "math.Float64frombits", "math.archTrunc"], unfollowed := true, recurses := true, apart := false }
def MeterNoneSaid : Prop := meterNoneRow.holds Try.pinned (OpenSpec.ofChange meterNoneSpec)

/-- ITS FALSE NEIGHBOUR: 'it returns false'. Refute it at one input. -/
def meterNoneWrong : ChangeSpec := { name := "meterNone", fn := fun _ => fun
  | [] => { results := [.lit (.bool false)], args := [] }
  | _ => none }
def MeterNoneWrongFalsely : Prop := meterNoneRow.holds Try.pinned (OpenSpec.ofChange meterNoneWrong)

/-- 'foghornlaw11.FeedbackLoops': WHATEVER THE INPUT: true; the input reads as it did. -/
def feedbackLoopsSpec : ChangeSpec := { name := "feedbackLoops", fn := fun _ => fun
  | [d1, d2, d3, d4, d5] => { results := [.lit (.bool true)], args := [d1, d2, d3, d4, d5] }
  | _ => none }
def feedbackLoopsRow : OpenClaim := { program := "ythfcafllcgjepaa", sum := "adbdaa2fc1908203b0f4e397dca734b9c42c485520354b8aeaaae75e3ccb4b21", func := "foghorn/foghornlaw11.FeedbackLoops", spec := "feedbackLoops", inPlace := ["math.Float64frombits", "math.Float64bits", "math.archFloor", "math.archTrunc", "math.archMin", "math.archMax", "math.archCeil"], unfollowed := true, recurses := true, apart := false }
def FeedbackLoopsSaid : Prop := feedbackLoopsRow.holds Try.pinned (OpenSpec.ofChange feedbackLoopsSpec)

/-- ITS FALSE NEIGHBOUR: 'it returns false'. Refute it at one input. -/
def feedbackLoopsWrong : ChangeSpec := { name := "feedbackLoops", fn := fun _ => fun
  | [d1, d2, d3, d4, d5] => { results := [.lit (.bool false)], args := [d1, d2, d3, d4, d5] }
  | _ => none }
def FeedbackLoopsWrongFalsely : Prop := feedbackLoopsRow.holds Try.pinned (OpenSpec.ofChange feedbackLoopsWrong)

/-- 'foghornlaw11.FeedbackNames': WHATEVER THE INPUT: true; the input reads as it did. -/
def feedbackNamesSpec : ChangeSpec := { name := "feedbackNames", fn := fun _ => fun
  | [] => { results := [.lit (.bool true)], args := [] }
  | _ => none }
def feedbackNamesRow : OpenClaim := { program := "ythfcafllcgjepaa", sum := "adbdaa2fc1908203b0f4e397dca734b9c42c485520354b8aeaaae75e3ccb4b21", func := "foghorn/foghornlaw11.FeedbackNames", spec := "feedbackNames", inPlace := ["math.archFloor", "math.Float64bits", "math.Float64frombits", "math.archTrunc", "math.archMin", "math.archMax", "math.archCeil"], unfollowed := true, recurses := true, apart := false }
def FeedbackNamesSaid : Prop := feedbackNamesRow.holds Try.pinned (OpenSpec.ofChange feedbackNamesSpec)

/-- ITS FALSE NEIGHBOUR: 'it returns false'. Refute it at one input. -/
def feedbackNamesWrong : ChangeSpec := { name := "feedbackNames", fn := fun _ => fun
  | [] => { results := [.lit (.bool false)], args := [] }
  | _ => none }
def FeedbackNamesWrongFalsely : Prop := feedbackNamesRow.holds Try.pinned (OpenSpec.ofChange feedbackNamesWrong)

/-- 'foghornlaw11.FeedbackParts': WHATEVER THE INPUT: true; the input reads as it did. -/
def feedbackPartsSpec : ChangeSpec := { name := "feedbackParts", fn := fun _ => fun
  | [d1, d2, d3, d4, d5, d6, d7] => { results := [.lit (.bool true)], args := [d1, d2, d3, d4, d5, d6, d7] }
  | _ => none }
def feedbackPartsRow : OpenClaim := { program := "ythfcafllcgjepaa", sum := "adbdaa2fc1908203b0f4e397dca734b9c42c485520354b8aeaaae75e3ccb4b21", func := "foghorn/foghornlaw11.FeedbackParts", spec := "feedbackParts", inPlace := ["math.Float64bits", "math.Float64frombits", "math.archFloor", "math.archTrunc", "math.archMin", "math.archMax", "math.archCeil"], unfollowed := true, recurses := true, apart := false }
def FeedbackPartsSaid : Prop := feedbackPartsRow.holds Try.pinned (OpenSpec.ofChange feedbackPartsSpec)

/-- ITS FALSE NEIGHBOUR: 'it returns false'. Refute it at one input. -/
def feedbackPartsWrong : ChangeSpec := { name := "feedbackParts", fn := fun _ => fun
  | [d1, d2, d3, d4, d5, d6, d7] => { results := [.lit (.bool false)], args := [d1, d2, d3, d4, d5, d6, d7] }
  | _ => none }
def FeedbackPartsWrongFalsely : Prop := feedbackPartsRow.holds Try.pinned (OpenSpec.ofChange feedbackPartsWrong)

/-- 'foghornlaw11.FeedbackRuns': WHATEVER THE INPUT: true; the input reads as it did. -/
def feedbackRunsSpec : ChangeSpec := { name := "feedbackRuns", fn := fun _ => fun
  | [d1, d2, d3] => { results := [.lit (.bool true)], args := [d1, d2, d3] }
  | _ => none }
def feedbackRunsRow : OpenClaim := { program := "ythfcafllcgjepaa", sum := "adbdaa2fc1908203b0f4e397dca734b9c42c485520354b8aeaaae75e3ccb4b21", func := "foghorn/foghornlaw11.FeedbackRuns", spec := "feedbackRuns", inPlace := ["math.Float64frombits", "math.Float64bits", "math.archFloor", "math.archTrunc", "math.archMin", "math.archMax", "math.archCeil"], unfollowed := true, recurses := true, apart := false }
def FeedbackRunsSaid : Prop := feedbackRunsRow.holds Try.pinned (OpenSpec.ofChange feedbackRunsSpec)

/-- ITS FALSE NEIGHBOUR: 'it returns false'. Refute it at one input. -/
def feedbackRunsWrong : ChangeSpec := { name := "feedbackRuns", fn := fun _ => fun
  | [d1, d2, d3] => { results := [.lit (.bool false)], args := [d1, d2, d3] }
  | _ => none }
def FeedbackRunsWrongFalsely : Prop := feedbackRunsRow.holds Try.pinned (OpenSpec.ofChange feedbackRunsWrong)

/-- 'foghornlaw11.FeedbackAdds': WHATEVER THE INPUT: true; the input reads as it did. -/
def feedbackAddsSpec : ChangeSpec := { name := "feedbackAdds", fn := fun _ => fun
  | [d1, d2, d3, d4, d5, d6] => { results := [.lit (.bool true)], args := [d1, d2, d3, d4, d5, d6] }
  | _ => none }
def feedbackAddsRow : OpenClaim := { program := "ythfcafllcgjepaa", sum := "adbdaa2fc1908203b0f4e397dca734b9c42c485520354b8aeaaae75e3ccb4b21", func := "foghorn/foghornlaw11.FeedbackAdds", spec := "feedbackAdds", inPlace := ["math.Float64bits", "math.Float64frombits", "math.archFloor", "math.archTrunc", "math.archMin", "math.archMax", "math.archCeil"], unfollowed := true, recurses := true, apart := false }
def FeedbackAddsSaid : Prop := feedbackAddsRow.holds Try.pinned (OpenSpec.ofChange feedbackAddsSpec)

/-- ITS FALSE NEIGHBOUR: 'it returns false'. Refute it at one input. -/
def feedbackAddsWrong : ChangeSpec := { name := "feedbackAdds", fn := fun _ => fun
  | [d1, d2, d3, d4, d5, d6] => { results := [.lit (.bool false)], args := [d1, d2, d3, d4, d5, d6] }
  | _ => none }
def FeedbackAddsWrongFalsely : Prop := feedbackAddsRow.holds Try.pinned (OpenSpec.ofChange feedbackAddsWrong)

/-- 'foghornlaw11.FeedbackReach': WHATEVER THE INPUT: true; the input reads as it did. -/
def feedbackReachSpec : ChangeSpec := { name := "feedbackReach", fn := fun _ => fun
  | [d1, d2, d3, d4, d5, d6] => { results := [.lit (.bool true)], args := [d1, d2, d3, d4, d5, d6] }
  | _ => none }
def feedbackReachRow : OpenClaim := { program := "ythfcafllcgjepaa", sum := "adbdaa2fc1908203b0f4e397dca734b9c42c485520354b8aeaaae75e3ccb4b21", func := "foghorn/foghornlaw11.FeedbackReach", spec := "feedbackReach", inPlace := ["math.Float64bits", "math.Float64frombits", "math.archFloor", "math.archTrunc", "math.archMin", "math.archMax", "math.archCeil"], unfollowed := true, recurses := true, apart := false }
def FeedbackReachSaid : Prop := feedbackReachRow.holds Try.pinned (OpenSpec.ofChange feedbackReachSpec)

/-- ITS FALSE NEIGHBOUR: 'it returns false'. Refute it at one input. -/
def feedbackReachWrong : ChangeSpec := { name := "feedbackReach", fn := fun _ => fun
  | [d1, d2, d3, d4, d5, d6] => { results := [.lit (.bool false)], args := [d1, d2, d3, d4, d5, d6] }
  | _ => none }
def FeedbackReachWrongFalsely : Prop := feedbackReachRow.holds Try.pinned (OpenSpec.ofChange feedbackReachWrong)

/- THE SECOND FORM. 'bulk': how many values and letters a reading holds, each counted each time it is reached (what is shared counts as often as it is met; a slice's spare places count too). A statement '..UptoSaid' is the law's where the arguments, and the package variables that the reading takes, are together of bulk at most 1048576: NARROWER than '..Said'. Prove '..Said' where nothing that the law and all that it calls make is longer than what came in: it says more and counts as full. Else prove '..UptoSaid'. A law counts once. -/
mutual
def uptoBulk {H : Type} : DataW H → Nat
  | .lit (.string bytes) => bytes.length + 1
  | .lit _ => 1
  | .nil => 1
  | .ptr d => uptoBulk d + 1
  | .slice elems spare => uptoBulkAll elems + uptoBulkAll spare + 1
  | .agg parts => uptoBulkAll parts + 1
  | .iface _ d => uptoBulk d + 1
  | .map entries => uptoBulkEntries entries + 1
  | .held _ => 1
def uptoBulkAll {H : Type} : List (DataW H) → Nat
  | [] => 0
  | d :: r => uptoBulk d + uptoBulkAll r
def uptoBulkEntries {H : Type} : List (Lit × DataW H) → Nat
  | [] => 0
  | x :: r => uptoBulkEntry x + uptoBulkEntries r
def uptoBulkEntry {H : Type} : Lit × DataW H → Nat
  | (.string bytes, d) => bytes.length + uptoBulk d + 1
  | (_, d) => uptoBulk d + 1
 end
def uptoSmall : (H : Type) → List (DataW H) → Bool := fun _ ds => decide (uptoBulkAll ds ≤ 1048576)
def OpenSpec.upto (s : _root_.Go.ChangeSpec) : _root_.Go.OpenSpec := { _root_.Go.OpenSpec.ofChange s with cond := some uptoSmall }

/-- 'foghornlaw11.FeedbackEchoes', WHERE WHAT IT READS IS OF BULK AT MOST 1048576: true; the input reads as it did. -/
def feedbackEchoesUptoRow : OpenClaim := { program := "ythfcafllcgjepaa", sum := "adbdaa2fc1908203b0f4e397dca734b9c42c485520354b8aeaaae75e3ccb4b21", func := "foghorn/foghornlaw11.FeedbackEchoes", spec := "feedbackEchoes", inPlace := ["math.Float64frombits", "math.Float64bits", "math.archFloor", "math.archTrunc"], apart := false, narrowed := true }
def FeedbackEchoesUptoSaid : Prop := feedbackEchoesUptoRow.holds Try.pinned (OpenSpec.upto feedbackEchoesSpec)

/-- 'foghornlaw30.MeterBits', WHERE WHAT IT READS IS OF BULK AT MOST 1048576: true; the input reads as it did. -/
def meterBitsUptoRow : OpenClaim := { program := "ythfcafllcgjepaa", sum := "adbdaa2fc1908203b0f4e397dca734b9c42c485520354b8aeaaae75e3ccb4b21", func := "foghorn/foghornlaw30.MeterBits", spec := "meterBits", inPlace := ["math.archFloor", "math.Float64bits", "math.Float64frombits", "math.archTrunc"], unfollowed := true, recurses := true, apart := false, narrowed := true }
def MeterBitsUptoSaid : Prop := meterBitsUptoRow.holds Try.pinned (OpenSpec.upto meterBitsSpec)

/-- 'foghornlaw30.MeterRuns', WHERE WHAT IT READS IS OF BULK AT MOST 1048576: true; the input reads as it did. -/
def meterRunsUptoRow : OpenClaim := { program := "ythfcafllcgjepaa", sum := "adbdaa2fc1908203b0f4e397dca734b9c42c485520354b8aeaaae75e3ccb4b21", func := "foghorn/foghornlaw30.MeterRuns", spec := "meterRuns", inPlace := ["math.archFloor", "math.Float64bits", "math.Float64frombits", "math.archTrunc"], unfollowed := true, recurses := true, apart := false, narrowed := true }
def MeterRunsUptoSaid : Prop := meterRunsUptoRow.holds Try.pinned (OpenSpec.upto meterRunsSpec)

/-- 'foghornlaw30.MeterCounts', WHERE WHAT IT READS IS OF BULK AT MOST 1048576: true; the input reads as it did. -/
def meterCountsUptoRow : OpenClaim := { program := "ythfcafllcgjepaa", sum := "adbdaa2fc1908203b0f4e397dca734b9c42c485520354b8aeaaae75e3ccb4b21", func := "foghorn/foghornlaw30.MeterCounts", spec := "meterCounts", inPlace := ["math.archFloor", "math.Float64bits", "math.Float64frombits", "math.archTrunc"], unfollowed := true, recurses := true, apart := false, narrowed := true }
def MeterCountsUptoSaid : Prop := meterCountsUptoRow.holds Try.pinned (OpenSpec.upto meterCountsSpec)

/-- 'foghornlaw05.SliceAxes', WHERE WHAT IT READS IS OF BULK AT MOST 1048576: true; the input reads as it did. -/
def sliceAxesUptoRow : OpenClaim := { program := "ythfcafllcgjepaa", sum := "adbdaa2fc1908203b0f4e397dca734b9c42c485520354b8aeaaae75e3ccb4b21", func := "foghorn/foghornlaw05.SliceAxes", spec := "sliceAxes", inPlace := ["math.Float64frombits", "math.archMin", "math.Float64bits", "math.archMax", "math.archCeil", "math.archFloor", "math.archTrunc"], unfollowed := true, recurses := true, apart := false, narrowed := true }
def SliceAxesUptoSaid : Prop := sliceAxesUptoRow.holds Try.pinned (OpenSpec.upto sliceAxesSpec)

/-- 'foghornlaw05.SliceDecides', WHERE WHAT IT READS IS OF BULK AT MOST 1048576: true; the input reads as it did. -/
def sliceDecidesUptoRow : OpenClaim := { program := "ythfcafllcgjepaa", sum := "adbdaa2fc1908203b0f4e397dca734b9c42c485520354b8aeaaae75e3ccb4b21", func := "foghorn/foghornlaw05.SliceDecides", spec := "sliceDecides", inPlace := ["math.Float64frombits", "math.Float64bits", "math.archMin", "math.archMax", "math.archCeil", "math.archFloor", "math.archTrunc"], unfollowed := true, recurses := true, apart := false, narrowed := true }
def SliceDecidesUptoSaid : Prop := sliceDecidesUptoRow.holds Try.pinned (OpenSpec.upto sliceDecidesSpec)

/-- 'foghornlaw30.MeterMargins', WHERE WHAT IT READS IS OF BULK AT MOST 1048576: true; the input reads as it did. -/
def meterMarginsUptoRow : OpenClaim := { program := "ythfcafllcgjepaa", sum := "adbdaa2fc1908203b0f4e397dca734b9c42c485520354b8aeaaae75e3ccb4b21", func := "foghorn/foghornlaw30.MeterMargins", spec := "meterMargins", inPlace := ["math.archFloor", "math.Float64bits", "math.Float64frombits", "math.archTrunc"], unfollowed := true, recurses := true, apart := false, narrowed := true }
def MeterMarginsUptoSaid : Prop := meterMarginsUptoRow.holds Try.pinned (OpenSpec.upto meterMarginsSpec)

/-- 'foghornlaw05.SliceNear', WHERE WHAT IT READS IS OF BULK AT MOST 1048576: true; the input reads as it did. -/
def sliceNearUptoRow : OpenClaim := { program := "ythfcafllcgjepaa", sum := "adbdaa2fc1908203b0f4e397dca734b9c42c485520354b8aeaaae75e3ccb4b21", func := "foghorn/foghornlaw05.SliceNear", spec := "sliceNear", inPlace := ["math.Float64bits", "math.Float64frombits", "math.archMin", "math.archMax", "math.archCeil", "math.archFloor", "math.archTrunc"], unfollowed := true, recurses := true, apart := false, narrowed := true }
def SliceNearUptoSaid : Prop := sliceNearUptoRow.holds Try.pinned (OpenSpec.upto sliceNearSpec)

/-- 'foghornlaw05.SliceLeast', WHERE WHAT IT READS IS OF BULK AT MOST 1048576: true; the input reads as it did. -/
def sliceLeastUptoRow : OpenClaim := { program := "ythfcafllcgjepaa", sum := "adbdaa2fc1908203b0f4e397dca734b9c42c485520354b8aeaaae75e3ccb4b21", func := "foghorn/foghornlaw05.SliceLeast", spec := "sliceLeast", inPlace := ["math.Float64bits", "math.Float64frombits", "math.archMin", "math.archMax", "math.archCeil", "math.archFloor", "math.archTrunc"], unfollowed := true, recurses := true, apart := false, narrowed := true }
def SliceLeastUptoSaid : Prop := sliceLeastUptoRow.holds Try.pinned (OpenSpec.upto sliceLeastSpec)

/-- 'foghornlaw05.SliceTurned', WHERE WHAT IT READS IS OF BULK AT MOST 1048576: true; the input reads as it did. -/
def sliceTurnedUptoRow : OpenClaim := { program := "ythfcafllcgjepaa", sum := "adbdaa2fc1908203b0f4e397dca734b9c42c485520354b8aeaaae75e3ccb4b21", func := "foghorn/foghornlaw05.SliceTurned", spec := "sliceTurned", inPlace := ["math.Float64bits", "math.Float64frombits", "math.archMin", "math.archMax", "math.archCeil", "math.archFloor", "math.archTrunc"], unfollowed := true, recurses := true, apart := false, narrowed := true }
def SliceTurnedUptoSaid : Prop := sliceTurnedUptoRow.holds Try.pinned (OpenSpec.upto sliceTurnedSpec)

/-- 'foghornlaw05.SliceRows', WHERE WHAT IT READS IS OF BULK AT MOST 1048576: true; the input reads as it did. -/
def sliceRowsUptoRow : OpenClaim := { program := "ythfcafllcgjepaa", sum := "adbdaa2fc1908203b0f4e397dca734b9c42c485520354b8aeaaae75e3ccb4b21", func := "foghorn/foghornlaw05.SliceRows", spec := "sliceRows", inPlace := ["math.archFloor", "math.Float64bits", "math.Float64frombits", "math.archTrunc", "math.archMin", "math.archMax", "math.archCeil"], unfollowed := true, recurses := true, apart := false, narrowed := true }
def SliceRowsUptoSaid : Prop := sliceRowsUptoRow.holds Try.pinned (OpenSpec.upto sliceRowsSpec)

/-- 'foghornlaw30.MeterRows', WHERE WHAT IT READS IS OF BULK AT MOST 1048576: true; the input reads as it did. -/
def meterRowsUptoRow : OpenClaim := { program := "ythfcafllcgjepaa", sum := "adbdaa2fc1908203b0f4e397dca734b9c42c485520354b8aeaaae75e3ccb4b21", func := "foghorn/foghornlaw30.MeterRows", spec := "meterRows", inPlace := ["math.archFloor", "math.Float64bits", "math.Float64frombits", "math.archTrunc", "math.archMin", "math.archMax"], unfollowed := true, recurses := true, apart := false, narrowed := true }
def MeterRowsUptoSaid : Prop := meterRowsUptoRow.holds Try.pinned (OpenSpec.upto meterRowsSpec)

/-- 'foghornlaw05.SliceNames', WHERE WHAT IT READS IS OF BULK AT MOST 1048576: true; the input reads as it did. -/
def sliceNamesUptoRow : OpenClaim := { program := "ythfcafllcgjepaa", sum := "adbdaa2fc1908203b0f4e397dca734b9c42c485520354b8aeaaae75e3ccb4b21", func := "foghorn/foghornlaw05.SliceNames", spec := "sliceNames", inPlace := ["math.archMin", "math.Float64bits", "math.Float64frombits", "math.archMax", "math.archCeil", "math.archFloor", "math.archTrunc"], unfollowed := true, recurses := true, apart := false, narrowed := true }
def SliceNamesUptoSaid : Prop := sliceNamesUptoRow.holds Try.pinned (OpenSpec.upto sliceNamesSpec)

/-- 'foghornlaw30.MeterNone', WHERE WHAT IT READS IS OF BULK AT MOST 1048576: true; the input reads as it did. -/
def meterNoneUptoRow : OpenClaim := { program := "ythfcafllcgjepaa", sum := "adbdaa2fc1908203b0f4e397dca734b9c42c485520354b8aeaaae75e3ccb4b21", func := "foghorn/foghornlaw30.MeterNone", spec := "meterNone", inPlace := ["math.archFloor", "math.Float64bits", "math.Float64frombits", "math.archTrunc"], unfollowed := true, recurses := true, apart := false, narrowed := true }
def MeterNoneUptoSaid : Prop := meterNoneUptoRow.holds Try.pinned (OpenSpec.upto meterNoneSpec)

/-- 'foghornlaw11.FeedbackLoops', WHERE WHAT IT READS IS OF BULK AT MOST 1048576: true; the input reads as it did. -/
def feedbackLoopsUptoRow : OpenClaim := { program := "ythfcafllcgjepaa", sum := "adbdaa2fc1908203b0f4e397dca734b9c42c485520354b8aeaaae75e3ccb4b21", func := "foghorn/foghornlaw11.FeedbackLoops", spec := "feedbackLoops", inPlace := ["math.Float64frombits", "math.Float64bits", "math.archFloor", "math.archTrunc", "math.archMin", "math.archMax", "math.archCeil"], unfollowed := true, recurses := true, apart := false, narrowed := true }
def FeedbackLoopsUptoSaid : Prop := feedbackLoopsUptoRow.holds Try.pinned (OpenSpec.upto feedbackLoopsSpec)

/-- 'foghornlaw11.FeedbackNames', WHERE WHAT IT READS IS OF BULK AT MOST 1048576: true; the input reads as it did. -/
def feedbackNamesUptoRow : OpenClaim := { program := "ythfcafllcgjepaa", sum := "adbdaa2fc1908203b0f4e397dca734b9c42c485520354b8aeaaae75e3ccb4b21", func := "foghorn/foghornlaw11.FeedbackNames", spec := "feedbackNames", inPlace := ["math.archFloor", "math.Float64bits", "math.Float64frombits", "math.archTrunc", "math.archMin", "math.archMax", "math.archCeil"], unfollowed := true, recurses := true, apart := false, narrowed := true }
def FeedbackNamesUptoSaid : Prop := feedbackNamesUptoRow.holds Try.pinned (OpenSpec.upto feedbackNamesSpec)

/-- 'foghornlaw11.FeedbackParts', WHERE WHAT IT READS IS OF BULK AT MOST 1048576: true; the input reads as it did. -/
def feedbackPartsUptoRow : OpenClaim := { program := "ythfcafllcgjepaa", sum := "adbdaa2fc1908203b0f4e397dca734b9c42c485520354b8aeaaae75e3ccb4b21", func := "foghorn/foghornlaw11.FeedbackParts", spec := "feedbackParts", inPlace := ["math.Float64bits", "math.Float64frombits", "math.archFloor", "math.archTrunc", "math.archMin", "math.archMax", "math.archCeil"], unfollowed := true, recurses := true, apart := false, narrowed := true }
def FeedbackPartsUptoSaid : Prop := feedbackPartsUptoRow.holds Try.pinned (OpenSpec.upto feedbackPartsSpec)

/-- 'foghornlaw11.FeedbackRuns', WHERE WHAT IT READS IS OF BULK AT MOST 1048576: true; the input reads as it did. -/
def feedbackRunsUptoRow : OpenClaim := { program := "ythfcafllcgjepaa", sum := "adbdaa2fc1908203b0f4e397dca734b9c42c485520354b8aeaaae75e3ccb4b21", func := "foghorn/foghornlaw11.FeedbackRuns", spec := "feedbackRuns", inPlace := ["math.Float64frombits", "math.Float64bits", "math.archFloor", "math.archTrunc", "math.archMin", "math.archMax", "math.archCeil"], unfollowed := true, recurses := true, apart := false, narrowed := true }
def FeedbackRunsUptoSaid : Prop := feedbackRunsUptoRow.holds Try.pinned (OpenSpec.upto feedbackRunsSpec)

/-- 'foghornlaw11.FeedbackAdds', WHERE WHAT IT READS IS OF BULK AT MOST 1048576: true; the input reads as it did. -/
def feedbackAddsUptoRow : OpenClaim := { program := "ythfcafllcgjepaa", sum := "adbdaa2fc1908203b0f4e397dca734b9c42c485520354b8aeaaae75e3ccb4b21", func := "foghorn/foghornlaw11.FeedbackAdds", spec := "feedbackAdds", inPlace := ["math.Float64bits", "math.Float64frombits", "math.archFloor", "math.archTrunc", "math.archMin", "math.archMax", "math.archCeil"], unfollowed := true, recurses := true, apart := false, narrowed := true }
def FeedbackAddsUptoSaid : Prop := feedbackAddsUptoRow.holds Try.pinned (OpenSpec.upto feedbackAddsSpec)

/-- 'foghornlaw11.FeedbackReach', WHERE WHAT IT READS IS OF BULK AT MOST 1048576: true; the input reads as it did. -/
def feedbackReachUptoRow : OpenClaim := { program := "ythfcafllcgjepaa", sum := "adbdaa2fc1908203b0f4e397dca734b9c42c485520354b8aeaaae75e3ccb4b21", func := "foghorn/foghornlaw11.FeedbackReach", spec := "feedbackReach", inPlace := ["math.Float64bits", "math.Float64frombits", "math.archFloor", "math.archTrunc", "math.archMin", "math.archMax", "math.archCeil"], unfollowed := true, recurses := true, apart := false, narrowed := true }
def FeedbackReachUptoSaid : Prop := feedbackReachUptoRow.holds Try.pinned (OpenSpec.upto feedbackReachSpec)

end Rows
end Go.Proofs.Ythfcafllcgjepaa
