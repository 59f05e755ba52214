-- Cut by shake.py (ours) out of the words that print.sh lays: what this claim uses of them.
import Derived.Test.YthfcafllcgjepaaMeterNoneWLast
import Derived.Test.YthfcafllcgjepaaMeterNoneWWords
namespace Go.Proofs.YthfcafllcgjepaaW.PrintLast
open Go.Proofs.YthfcafllcgjepaaW.PrintWords (Aside0)
section
variable {md : Region.Mode} {ops : Array Oper} {T : Bool × List (List Nat × List Nat)} {l l' li lj lk : Array Bool} {ds : List Nat} {i j k : Nat}
end
end Go.Proofs.YthfcafllcgjepaaW.PrintLast
