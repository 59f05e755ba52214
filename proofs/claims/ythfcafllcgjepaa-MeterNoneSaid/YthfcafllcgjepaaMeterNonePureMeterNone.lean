import Derived.Test.YthfcafllcgjepaaMeterNoneMeter1
import Derived.Test.YthfcafllcgjepaaMeterNoneF0
/- MeterNone: no meter; the ends, closed. -/
namespace Go.Proofs.Ythfcafllcgjepaa.Met
open Go.RowKit Go.Proofs.Ythfcafllcgjepaa.Q Go.Proofs.YthfcafllcgjepaaW.PrintWords Go.Proofs.YthfcafllcgjepaaW.PrintLast Go.Proofs.YthfcafllcgjepaaW.PrintMore Go.Proofs.Ythfcafllcgjepaa.Feed
theorem errs_long (n : Nat) (h : n ≤ 32768) : (errs (List.replicate n false) (List.replicate n false)).2.2 = 0 := by
  unfold errs
  rw [if_pos ⟨by rw [List.length_replicate]; exact h, rfl⟩]
theorem errs_over (n : Nat) (h : 32768 < n) : (errs (List.replicate n false) (List.replicate n false)).2.2 = 1 := by
  unfold errs
  rw [if_neg (fun h2 => by rw [List.length_replicate] at h2; omega)]
theorem power_over (n : Nat) (h : 64 < n) (k : Nat) : meter_Power.f k (List.replicate n z101) = some (0, 0, 1) := by
  rw [meter_Power.f, if_pos (by rw [List.length_replicate]; omega)]
end Go.Proofs.Ythfcafllcgjepaa.Met
namespace Go.Proofs.Ythfcafllcgjepaa.Pure
open Go.RowKit Go.Proofs.Ythfcafllcgjepaa.Q Go.Proofs.YthfcafllcgjepaaW.PrintWords Go.Proofs.YthfcafllcgjepaaW.PrintLast Go.Proofs.Ythfcafllcgjepaa.Met Go.Proofs.Ythfcafllcgjepaa.Feed
theorem MeterNone : foghornlaw30_MeterNone.Pure := by
  refine Ev.rounds (g := fun k => foghornlaw30_MeterNone.f k) ?_
  refine Ev.congr (fun k => by rw [foghornlaw30_MeterNone.f]) ?_
  refine Ev.bind (errors_ev _ _) ?_
  refine Ev.bind (errors_ev _ _) ?_
  refine Ev.bind (errors_ev _ _) ?_
  refine Ev.bind (errors_ev _ _) ?_
  refine Ev.bind (runs_ev _ _ _) ?_
  refine Ev.bind (runs_ev _ _ _) ?_
  refine Ev.bind (Ev.of (fun k => meter_Nearest.mono _ _ k) (k := 100) (r := (0, 0, 0, 1)) (by decide +kernel)) ?_
  refine Ev.bind (Ev.of (fun k => meter_Nearest.mono _ _ k) (k := 100) (r := (0, 0, 0, 7)) (by decide +kernel)) ?_
  refine Ev.bind (show Ev (fun k => meter_Power.f k (List.replicate (65 : Int).toNat z101)) (0, 0, 1) from Ev.congr (fun k => power_over (65 : Int).toNat (by decide) k) (Ev.now _)) ?_
  refine Ev.bind (Ev.of (fun k => meter_Power.mono _ k) (k := 100) (r := (0, 0, 0)) (by decide +kernel)) ?_
  refine Ev.bind (Ev.of (fun k => meter_Open.mono _ _ k) (k := 100) (r := (0, 0, 6)) (by decide +kernel)) ?_
  refine Ev.bind (Ev.of (fun k => meter_Open.mono _ _ k) (k := 100) (r := (0, 0, 7)) (by decide +kernel)) ?_
  refine Ev.bind awake_ev ?_
  exact Ev.congr (fun k => if_pos ⟨⟨errs_long _ (by decide), errs_over _ (by decide), by decide +kernel, by decide +kernel⟩, ⟨by decide +kernel, by unfold allRuns; rw [if_pos ⟨⟨by decide, rfl⟩, by decide⟩]; rfl⟩, ⟨rfl, rfl⟩, ⟨rfl, rfl⟩, ⟨rfl, rfl⟩, rfl⟩) (Ev.now _)
end Go.Proofs.Ythfcafllcgjepaa.Pure
