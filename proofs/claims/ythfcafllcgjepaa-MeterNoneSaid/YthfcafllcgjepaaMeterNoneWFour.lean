-- Cut by shake.py (ours) out of the words that print.sh lays: what this claim uses of them.
import Derived.Test.YthfcafllcgjepaaMeterNoneWTab
namespace Go.Proofs.YthfcafllcgjepaaW.PrintLast
section
variable {P : Program} {ops : Array Oper} {Q : Exit → Act → World → Prop} {md : Region.Mode} {S : World → Prop} {ds : List Nat} {T : Bool × List (List Nat × List Nat)}
end
end Go.Proofs.YthfcafllcgjepaaW.PrintLast
