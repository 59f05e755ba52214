-- Printed by myprint.py (ours): what is true of the whole program.
import Derived.Test.YthfcafllcgjepaaRows
import Derived.WalkKit
import Derived.JoinedCond
namespace Go.Proofs.Ythfcafllcgjepaa.Facts
open Go.RowKit Go.Proofs
theorem laid : laidOutB Try.pinned.checked.prog = true := by kernel_rfl
theorem rowed : mapsRowed Try.pinned.checked.prog = true := by kernel_rfl
theorem keys : Try.pinned.checked.prog.plainKeys = true := by kernel_rfl
theorem heard : Try.pinned.checked.prog.stopsHeard = true := by kernel_rfl
theorem enters : Try.pinned.checked.prog.mayEnter = true := by kernel_rfl
theorem lifts : Try.pinned.checked.prog.liftsFinal = false := by kernel_rfl
theorem makes : Try.pinned.checked.prog.make = some .cut := by kernel_rfl
end Go.Proofs.Ythfcafllcgjepaa.Facts
