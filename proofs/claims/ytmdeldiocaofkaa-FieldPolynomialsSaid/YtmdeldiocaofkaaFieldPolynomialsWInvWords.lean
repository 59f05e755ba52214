-- Cut by shake.py (ours) out of the words that print.sh lays: what this claim uses of them.
import Derived.Test.YtmdeldiocaofkaaFieldPolynomialsWInv
import Derived.Test.YtmdeldiocaofkaaFieldPolynomialsWFootNe
namespace Go.Proofs.YtmdeldiocaofkaaW.PrintWords
open Go.RowKit
end Go.Proofs.YtmdeldiocaofkaaW.PrintWords
namespace Go.Proofs.YtmdeldiocaofkaaW.PrintLast
section
variable {ops : Array Oper} {a : Act} {o og : Oper} {g : Nat} {t : Tmp} {u : Bool}
end
end Go.Proofs.YtmdeldiocaofkaaW.PrintLast
