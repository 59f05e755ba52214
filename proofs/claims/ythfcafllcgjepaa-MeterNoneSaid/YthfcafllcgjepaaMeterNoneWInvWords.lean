-- Cut by shake.py (ours) out of the words that print.sh lays: what this claim uses of them.
import Derived.Test.YthfcafllcgjepaaMeterNoneWInv
import Derived.Test.YthfcafllcgjepaaMeterNoneWFootNe
namespace Go.Proofs.YthfcafllcgjepaaW.PrintWords
open Go.RowKit
end Go.Proofs.YthfcafllcgjepaaW.PrintWords
namespace Go.Proofs.YthfcafllcgjepaaW.PrintLast
section
variable {ops : Array Oper} {a : Act} {o og : Oper} {g : Nat} {t : Tmp} {u : Bool}
end
end Go.Proofs.YthfcafllcgjepaaW.PrintLast
