import Derived.Test.YthfcafllcgjepaaFeedbackReachWMore
import Derived.Scope
import Derived.Test.YthfcafllcgjepaaFeedbackReachWKept
import Derived.Test.YthfcafllcgjepaaFeedbackReachWWords
import Derived.Test.YthfcafllcgjepaaFeedbackReachWLast
import Derived.Test.YthfcafllcgjepaaFeedbackReachWApart
import Derived.Test.YthfcafllcgjepaaFeedbackReachWFoot
/- A row of the call's own with a mark behind it: the slice is one shorter than the row; the last element is the mark. -/
namespace Go.Proofs.YthfcafllcgjepaaW.PrintWords
open Go.RowKit Go.Proofs.YthfcafllcgjepaaW Go.Proofs.YthfcafllcgjepaaW.PrintWords Go.Proofs.YthfcafllcgjepaaW.PrintLast Go.Proofs.YthfcafllcgjepaaW.PrintMore
set_option linter.unusedVariables false
namespace Kd
def U {α : Type} (m : Kd α × α) (e : Nat) (w : World) (base : Nat) (ok : Nat → Prop) (v : Value) (xs : List α) : Prop :=
  ∃ A c, v = .slice A xs.length c ∧ m.1.R e w base ok (.slice A (xs.length + 1) c) (xs ++ [m.2])
section
variable {α β : Type} {m : Kd α × α} {d' : Kd β} {e e' : Nat} {w w1 W : World} {base base' N g : Nat} {ok ok' oku : Nat → Prop} {S : Nat → Prop} {v u : Value} {xs : List α} {ys : List β} {o : Obj} {ys' : List α}
end
section
variable {α : Type} {enc : α → Value} {h1 : ∀ x, (enc x).oneCell' = true} {e base g n cap : Nat} {ok : Nat → Prop} {W : World} {xs : List α} {z : α}
end
section
variable {α : Type} {m : Kd α × α} {e base g n cap : Nat} {ok okp : Nat → Prop} {W : World} {xs : List α}
end
end Kd
end Go.Proofs.YthfcafllcgjepaaW.PrintWords
