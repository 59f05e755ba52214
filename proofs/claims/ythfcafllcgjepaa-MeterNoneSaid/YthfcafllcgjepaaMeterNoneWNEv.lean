-- Cut by shake.py (ours) out of the words that print.sh lays: what this claim uses of them.
import Derived.Test.YthfcafllcgjepaaMeterNoneWN
namespace Go.Proofs.YthfcafllcgjepaaW.PrintWords
open Go.RowKit
namespace Kd
section
variable {α : Type} {d : Kd α} {e base n cap g : Nat} {ok ok' okp : Nat → Prop} {w w1 W : World} {v v1 : Value} {xs ys : List α}
end
section
variable {P : Program} {ops : Array Oper} {rest : List Oper} {o : Oper} {a : Act} {Q : Exit → Act → World → Prop} {Kc : Act → World → Prop} {α : Type}
end
end Kd
end Go.Proofs.YthfcafllcgjepaaW.PrintWords
