-- Cut by shake.py (ours) out of the words that print.sh lays: what this claim uses of them.
-- The print's words, changed by wq.py (ours): a row in a block that is marked behind its cells is told, too.
import Derived.Test.YthfcafllcgjepaaMeterNoneWWords
import Derived.Test.YthfcafllcgjepaaMeterNoneWLast
namespace Go.Proofs.YthfcafllcgjepaaW.PrintWords
open Go.RowKit
namespace Kd
section
variable {α : Type} {d : Kd α} {e base g o n cap : Nat} {ok okp : Nat → Prop} {w W : World} {v : Value} {xs : List α}
end
section
variable {α : Type} {enc : α → Value} {h1 : ∀ x, (enc x).oneCell' = true} {e base g o n cap : Nat} {ok : Nat → Prop} {W : World} {xs : List α}
end
end Kd
end Go.Proofs.YthfcafllcgjepaaW.PrintWords
