-- Cut by shake.py (ours) out of the words that print.sh lays: what this claim uses of them.
import Derived.Test.YtncoakokdajibaaMendNamesWInv
import Derived.Test.YtncoakokdajibaaMendNamesWFootNe
namespace Go.Proofs.YtncoakokdajibaaW.PrintWords
open Go.RowKit
end Go.Proofs.YtncoakokdajibaaW.PrintWords
namespace Go.Proofs.YtncoakokdajibaaW.PrintLast
section
variable {ops : Array Oper} {a : Act} {o og : Oper} {g : Nat} {t : Tmp} {u : Bool}
end
end Go.Proofs.YtncoakokdajibaaW.PrintLast
