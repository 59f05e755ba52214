import Derived.Test.YtncoakokdajibaaMendOverWMore
import Derived.Scope
import Derived.Test.YtncoakokdajibaaMendOverWKept
import Derived.Test.YtncoakokdajibaaMendOverWQPut
import Derived.Test.YtncoakokdajibaaMendOverWApart
import Derived.Test.YtncoakokdajibaaMendOverWFoot
/- A row of the call's own with a mark behind it: the slice is one shorter than the row; the last element is the mark. -/
namespace Go.Proofs.YtncoakokdajibaaW.PrintWords
open Go.RowKit Go.Proofs.YtncoakokdajibaaW Go.Proofs.YtncoakokdajibaaW.PrintWords Go.Proofs.YtncoakokdajibaaW.PrintLast Go.Proofs.YtncoakokdajibaaW.PrintMore
set_option linter.unusedVariables false
namespace Kd
theorem ob (A : Option Addr) (n n' c c' : Nat) : (Value.slice A n c).ownBlock = (Value.slice A n' c').ownBlock := by cases A <;> rfl
section
variable {α β : Type} {m : Kd α × α} {d' : Kd β} {e e' : Nat} {w w1 W : World} {base base' N g : Nat} {ok ok' oku : Nat → Prop} {S : Nat → Prop} {v u : Value} {xs : List α} {ys : List β} {o : Obj} {ys' : List α}
end
section
variable {α : Type} {enc : α → Value} {h1 : ∀ x, (enc x).oneCell' = true} {e base g n cap : Nat} {ok : Nat → Prop} {W : World} {xs : List α} {z : α}
end
section
variable {α : Type} {m : Kd α × α} {e base g n cap : Nat} {ok okp : Nat → Prop} {W : World} {xs : List α}
end
end Kd
theorem scope_ {P : Program} {c : Code} {Q : Exit → Act → World → Prop} {a : Act} {w : World} (hQ : ∀ l a w, ¬ Q (.goto l) a w) (h : c.wp P Q a w) : (Code.scope c).wp P Q a w := by
  refine wp_scope_straight (wp_mono h fun e a w hq => ?_)
  cases e with
  | goto l => exact hQ l a w hq
  | _ => exact hq
end Go.Proofs.YtncoakokdajibaaW.PrintWords
