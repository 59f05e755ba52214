import Derived.Test.YthfcafllcgjepaaSliceNamesSlice5
import Derived.Test.YthfcafllcgjepaaSliceNamesF0
/- SliceNames: chapter 5's ends. -/
namespace Go.Proofs.Ythfcafllcgjepaa.Pure
open Go.RowKit Go.Proofs.Ythfcafllcgjepaa.Q Go.Proofs.YthfcafllcgjepaaW.PrintWords Go.Proofs.YthfcafllcgjepaaW.PrintLast
theorem SliceNames : foghornlaw05_SliceNames.Pure := ⟨100, by decide +kernel⟩
end Go.Proofs.Ythfcafllcgjepaa.Pure
