/-
  Of any two numbers: whether there are words of so many bytes for so many checks, and the generator of so many checks, are the document's answers; each generator lies in new memory. No condition.
-/
import Derived.Test.YtmdeldiocaofkaaQ4
import Derived.Test.YtmdeldiocaofkaaReed1
namespace Go.Proofs.Ytmdeldiocaofkaa.Pure
open Go.RowKit Go.Proofs.Ytmdeldiocaofkaa.Q Go.Proofs.YtmdeldiocaofkaaW.PrintWords Go.Proofs.YtmdeldiocaofkaaW.PrintLast Go.Proofs.Ytmdeldiocaofkaa.Gf Go.Proofs.Ytmdeldiocaofkaa.Sem

theorem ReedChecks_l0 (r : Int) (c : List Int) (g : List Int × Int) (hg : Ev (fun k => reed_Generator.f k r) g) (hl : g.1.length < 65536) (d : Nat) : ∀ (i : Nat) (x : List Int), i + d = x.length → x.length < 65536 → c = g.1 → 
    Ev (fun k => foghornlaw19_ReedChecks.l0 k r x g.1 c (i : Int)) true := by
  induction d with
  | zero =>
    intro i x hi hx hc
    refine Ev.stepTo _ (fun k _ => by rw [foghornlaw19_ReedChecks.l0, if_neg (by omega)]) ?_
    refine Ev.bind hg ?_
    subst hc
    refine Ev.bind (same _ (by omega)) ?_
    refine Ev.congr (fun k => by rw [if_pos rfl]) ?_
    exact Ev.bind (same _ (by omega)) (Ev.now _)
  | succ d ih =>
    intro i x hi hx hc
    refine Ev.stepTo _ (fun k _ => by rw [foghornlaw19_ReedChecks.l0, if_pos (by omega), if_pos (by omega), wrap_id _ (by omega) (by omega), show ((i : Int) + 1) = ((i + 1 : Nat) : Int) from by omega]) ?_
    exact ih (i + 1) _ (by rw [List.length_set]; omega) (by rw [List.length_set]; exact hx) hc
theorem ReedChecks_of (n r : Int) (g : List Int × Int) (hg : Ev (fun k => reed_Generator.f k r) g) (hh : Ev (fun k => foghornref19_Generator.f k r) g) (hl : g.1.length < 65536) :
    Ev (fun k => foghornlaw19_ReedChecks.f k n r) true := by
  refine Ev.congr (fun k => by rw [foghornlaw19_ReedChecks.f]) ?_
  refine Ev.bind hg ?_
  refine Ev.bind hh ?_
  refine Ev.bind hg ?_
  refine Ev.congr (fun k => by rw [check, rcheck, Option.bind_some, Option.bind_some, if_pos rfl]) ?_
  refine Ev.bind (same _ (by omega)) ?_
  refine Ev.congr (fun k => by rw [if_pos rfl]) ?_
  refine Ev.stepTo _ (fun k _ => by rw [foghornlaw19_ReedChecks.j0, if_neg (by simp)]) ?_
  exact ReedChecks_l0 r g.1 g hg hl g.1.length 0 g.1 (by omega) hl rfl
/-- The statement over numbers and lists. -/
theorem ReedChecks : foghornlaw19_ReedChecks.Pure := by
  intro n r _ hr
  cases h : isChecks r with
  | true =>
    have h2 := of_decide_eq_true h
    exact Ev.rounds (ReedChecks_of n r _ (generator_ev r h) (rgenerator_ev r h) (by show (L _).length < _; rw [L_length, gen_length]; omega))
  | false => exact Ev.rounds (ReedChecks_of n r ([], 1) ⟨0, fun k _ => generator_none r h k⟩ ⟨0, fun k _ => rgenerator_none r h k⟩ (by decide))
end Go.Proofs.Ytmdeldiocaofkaa.Pure
