import Derived.Test.YtncoakokdajibaaMendManyWMore
import Derived.Scope
import Derived.Test.YtncoakokdajibaaMendManyWKept
import Derived.Test.YtncoakokdajibaaMendManyWQPut
import Derived.Test.YtncoakokdajibaaMendManyWApart
import Derived.Test.YtncoakokdajibaaMendManyWFoot
/- A row of the call's own with a mark behind it: the slice is one shorter than the row; the last element is the mark. -/
namespace Go.Proofs.YtncoakokdajibaaW.PrintWords
open Go.RowKit Go.Proofs.YtncoakokdajibaaW Go.Proofs.YtncoakokdajibaaW.PrintWords Go.Proofs.YtncoakokdajibaaW.PrintLast Go.Proofs.YtncoakokdajibaaW.PrintMore
set_option linter.unusedVariables false
namespace Kd
def U {α : Type} (m : Kd α × α) (e : Nat) (w : World) (base : Nat) (ok : Nat → Prop) (v : Value) (xs : List α) : Prop :=
  ∃ A c, v = .slice A xs.length c ∧ m.1.R e w base ok (.slice A (xs.length + 1) c) (xs ++ [m.2])
theorem ob (A : Option Addr) (n n' c c' : Nat) : (Value.slice A n c).ownBlock = (Value.slice A n' c').ownBlock := by cases A <;> rfl
section
variable {α β : Type} {m : Kd α × α} {d' : Kd β} {e e' : Nat} {w w1 W : World} {base base' N g : Nat} {ok ok' oku : Nat → Prop} {S : Nat → Prop} {v u : Value} {xs : List α} {ys : List β} {o : Obj} {ys' : List α}
theorem U_slice (h : U m e w base ok v xs) : ∃ A c, v = .slice A xs.length c := let ⟨A, c, e, _⟩ := h; ⟨A, c, e⟩
theorem U_mono (h : U m e w base ok v xs) (hok : ∀ k, ok k → ok' k) : U m e w base ok' v xs := let ⟨A, c, e, h⟩ := h; ⟨A, c, e, R_mono h hok⟩
theorem U_below (h : U m e w base ok v xs) (hb : Below w.heap.size w w1) : U m e w1 base ok v xs := let ⟨A, c, e, h⟩ := h; ⟨A, c, e, R_below h hb⟩
theorem U_lower (h : U m e w base ok v xs) (hb : base' ≤ base) : U m e w base' ok v xs := let ⟨A, c, e, h⟩ := h; ⟨A, c, e, R_lower h hb⟩
theorem U_grown (h : U m e w base ok v xs) {row : Option Nat} (hg : w.grownBy w1 row) (hok : ∀ k, ok k → some k ≠ row) : U m e w1 base ok v xs := let ⟨A, c, e, h⟩ := h; ⟨A, c, e, R_grown h hg hok⟩
theorem U_full {A : Option Addr} {n c : Nat} (h : U m e w base ok (.slice A n c) xs) : n = xs.length ∧ m.1.R e w base ok (.slice A (n + 1) c) (xs ++ [m.2]) := by
  obtain ⟨A', c', he, h⟩ := h
  injection he with h1 h2 h3
  subst h1; subst h2; subst h3
  exact ⟨rfl, h⟩
theorem U_reads' {A : Option Addr} {n c : Nat} (h : U m e w base ok (.slice A n c) xs) : n = xs.length ∧ n ≤ c ∧ m.1.C w A xs.length xs := by
  obtain ⟨rfl, h⟩ := U_full h
  obtain ⟨_, h2, h3⟩ := R_reads' h
  refine ⟨rfl, by omega, ?_⟩
  have h4 := C_take (m := xs.length) h3 (by rw [List.length_append]; omega)
  rwa [List.take_left] at h4
theorem U_R {A : Option Addr} {n c : Nat} (h : U m e w base ok (.slice A n c) xs) : m.1.R e w base ok (.slice A n c) xs := by
  obtain ⟨rfl, h⟩ := U_full h
  have := R_take (m := xs.length) h (by rw [List.length_append]; omega)
  rwa [List.take_left] at this
theorem U_of {A : Option Addr} {n c : Nat} {z : α} (h : m.1.R e w base ok (.slice A n c) xs) (hz : m.2 = z) (hx : xs = ys' ++ [z]) : U m e w base ok (.slice A ys'.length c) ys' := by
  obtain ⟨h1, _, _⟩ := R_reads' h
  subst hx
  subst hz
  rw [List.length_append] at h1
  simp only [List.length_cons, List.length_nil] at h1
  subst h1
  exact ⟨A, c, rfl, h⟩
end
section
variable {α : Type} {enc : α → Value} {h1 : ∀ x, (enc x).oneCell' = true} {e base g n cap : Nat} {ok : Nat → Prop} {W : World} {xs : List α} {z : α}
end
section
variable {α : Type} {m : Kd α × α} {e base g n cap : Nat} {ok okp : Nat → Prop} {W : World} {xs : List α}
end
end Kd
theorem cut_more {P : Program} (t e : TypeId) (kh : IntKind) {i : TypeInfo} (ht : P.underlying t = some (.slice e)) (hi : P.info? e = some i) (A : Option Addr) (n c : Nat) (j : Int) (h0 : 0 ≤ j) (hc : j ≤ c) :
    ∀ W : World, (Instr.slice t (.slice A n c) none (some (.int kh j)) none).run P W = .ok (.slice A j.toNat c) W := by
  intro W
  have hel : P.elem t = e := by simp [Program.elem, ht]
  have hu : P.underlying t = some (.slice (P.elem t)) := by rw [hel]; exact ht
  have ha : (A.map fun x => x.add 0) = A := by cases A <;> simp [Addr.add]
  rw [run_slice_h W t A n c hu kh j h0 hc, hel]
  simp [sizeOf, typeInfo, hi, sliced, Result.andThen, ha]
theorem scope_ {P : Program} {c : Code} {Q : Exit → Act → World → Prop} {a : Act} {w : World} (hQ : ∀ l a w, ¬ Q (.goto l) a w) (h : c.wp P Q a w) : (Code.scope c).wp P Q a w := by
  refine wp_scope_straight (wp_mono h fun e a w hq => ?_)
  cases e with
  | goto l => exact hQ l a w hq
  | _ => exact hq
end Go.Proofs.YtncoakokdajibaaW.PrintWords
