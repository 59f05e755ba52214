import Derived.Test.YtncoakokdajibaaMendManyBase
import Derived.Test.YtncoakokdajibaaMendManyF1
/- What the printed product, the polynomial with given roots and the generators come to. -/
namespace Go.Proofs.Ytncoakokdajibaa.Sem
open Go.RowKit Go.Proofs.Ytncoakokdajibaa.Q Go.Proofs.YtncoakokdajibaaW.PrintWords Go.Proofs.YtncoakokdajibaaW.PrintLast Go.Proofs.Ytncoakokdajibaa.Gf
theorem Ev.stepTo {α : Type} {g : Nat → Option α} {r : α} (f : Nat → Option α) (h : ∀ k, 18 ≤ k → g (k + 1) = f k) (k : Ev f r) : Ev g r := by
  obtain ⟨K, k⟩ := k
  refine ⟨K + 19, fun n hn => ?_⟩
  obtain ⟨m, rfl⟩ : ∃ m, n = m + 1 := ⟨n - 1, by omega⟩
  rw [h m (by omega)]
  exact k m (by omega)
def pows (r : Nat) : List F := (List.range r).map (pow two)
theorem pows_length (r : Nat) : (pows r).length = r := by unfold pows; rw [List.length_map, List.length_range]
def gen (r : Nat) : List F := ofRoots (pows r)
theorem gen_length (r : Nat) : (gen r).length = r + 1 := by unfold gen; rw [ofRoots_length, pows_length]
theorem gen_top (r : Nat) : at_ (gen r) r = 1 := by have := ofRoots_top (pows r); rwa [pows_length] at this
def isChecks (r : Int) : Bool := decide (2 ≤ r ∧ r ≤ 64 ∧ Int.tmod r 2 = 0)
theorem checks (r : Int) : reed_checks.f r = some (isChecks r) := by
  unfold reed_checks.f isChecks
  by_cases h1 : r ≥ 2
  · rw [if_pos h1]
    by_cases h2 : r ≤ 64
    · rw [if_pos h2]
      congr 1
      by_cases h3 : Int.tmod r 2 = 0
      · rw [h3]; simp; omega
      · rw [decide_eq_false (fun h => h3 h.2.2)]; simpa using h3
    · rw [if_neg h2, decide_eq_false (by omega)]
  · rw [if_neg h1, decide_eq_false (by omega)]
end Go.Proofs.Ytncoakokdajibaa.Sem
namespace Go.Proofs.Ytncoakokdajibaa.Sem
open Go.RowKit Go.Proofs.Ytncoakokdajibaa.Q Go.Proofs.YtncoakokdajibaaW.PrintWords Go.Proofs.YtncoakokdajibaaW.PrintLast Go.Proofs.YtncoakokdajibaaW.PrintMore Go.Proofs.Ytncoakokdajibaa.Gf
end Go.Proofs.Ytncoakokdajibaa.Sem
