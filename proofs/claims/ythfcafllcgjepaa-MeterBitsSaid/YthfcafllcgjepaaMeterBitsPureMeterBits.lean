import Derived.Test.YthfcafllcgjepaaMeterBitsMeter1
import Derived.Test.YthfcafllcgjepaaMeterBitsF0
/- MeterBits: any two rows: what is wrong, and the runs. -/
namespace Go.Proofs.Ythfcafllcgjepaa.Met
open Go.RowKit Go.Proofs.Ythfcafllcgjepaa.Q Go.Proofs.YthfcafllcgjepaaW.PrintWords Go.Proofs.YthfcafllcgjepaaW.PrintLast Go.Proofs.YthfcafllcgjepaaW.PrintMore Go.Proofs.Ythfcafllcgjepaa.Feed
theorem bits_l0 (a b : List Bool) (gap : Int) (d : Nat) : ∀ (i : Nat) (l : List S49), i + d = l.length → l.length ≤ 32768 → Ev (fun k => foghornlaw30_MeterBits.l0 k gap a b l ((allRuns a b gap).1.map conv) (i : Int)) true := by
  induction d with
  | zero =>
    intro i l hi hl
    refine Ev.stepTo _ (fun k _ => by rw [foghornlaw30_MeterBits.l0, if_neg (by omega)]) ?_
    refine Ev.bind (runs_ev a b gap) ?_
    refine Ev.bind (same_runs _ (allRuns_len a b gap)) ?_
    exact Ev.congr (fun k => by rw [if_pos rfl]) (Ev.bind awake_ev (Ev.now _))
  | succ d ih =>
    intro i l hi hl
    exact Ev.stepTo _ (fun k _ => by rw [foghornlaw30_MeterBits.l0, if_pos (by omega), if_pos (by omega), wrap_id _ (by omega) (by omega), show ((i : Int) + 1) = ((i + 1 : Nat) : Int) from by omega]) (ih (i + 1) _ (by rw [List.length_set]; omega) (by rw [List.length_set]; exact hl))
end Go.Proofs.Ythfcafllcgjepaa.Met
namespace Go.Proofs.Ythfcafllcgjepaa.Pure
open Go.RowKit Go.Proofs.Ythfcafllcgjepaa.Q Go.Proofs.YthfcafllcgjepaaW.PrintWords Go.Proofs.YthfcafllcgjepaaW.PrintLast Go.Proofs.Ythfcafllcgjepaa.Met Go.Proofs.Ythfcafllcgjepaa.Feed
theorem MeterBits : foghornlaw30_MeterBits.Pure := by
  intro a b gap ha hb _
  have ha1 : a.length ≤ 140737488351232 := by have := ha.1; omega
  have hb1 : b.length ≤ 140737488351232 := by have := hb.1; omega
  refine Ev.rounds (g := fun k => foghornlaw30_MeterBits.f k a b gap) ?_
  refine Ev.congr (fun k => by rw [foghornlaw30_MeterBits.f, lent_f a ha1, Option.bind_some, lent_f b hb1, Option.bind_some]) ?_
  refine Ev.bind (errors_ev a b) (Ev.bind (ref_errors_ev a b ha1) (Ev.bind (runs_ev a b gap) (Ev.bind (ref_runs_ev a b gap ha1) ?_)))
  refine Ev.congr (fun k => by rw [if_pos rfl, if_pos rfl, if_pos rfl, if_pos rfl]) ?_
  refine Ev.bind (same_runs _ (allRuns_len a b gap)) ?_
  refine Ev.congr (fun k => by rw [if_pos rfl]) ?_
  refine Ev.bind (kept_ev a ha1) ?_
  refine Ev.congr (fun k => by rw [if_pos rfl]) ?_
  refine Ev.bind (kept_ev b hb1) ?_
  exact Ev.stepTo _ (fun k _ => by rw [foghornlaw30_MeterBits.j0, if_neg (by decide)]; rfl) (bits_l0 a b gap _ 0 _ (Nat.zero_add _) (allRuns_len a b gap))
end Go.Proofs.Ythfcafllcgjepaa.Pure
