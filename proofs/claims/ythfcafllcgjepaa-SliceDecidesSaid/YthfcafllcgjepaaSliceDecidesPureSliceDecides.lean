import Derived.Test.YthfcafllcgjepaaSliceDecidesSlice3
import Derived.Test.YthfcafllcgjepaaSliceDecidesF0
/- SliceDecides: any number, whatever it is, of any size. -/
namespace Go.Proofs.Ythfcafllcgjepaa.Pure
open Go.RowKit Go.Proofs.Ythfcafllcgjepaa.Q Go.Proofs.YthfcafllcgjepaaW.PrintWords Go.Proofs.YthfcafllcgjepaaW.PrintLast Go.Proofs.Ythfcafllcgjepaa.Slc Go.Proofs.Ythfcafllcgjepaa.Pt Go.Proofs.Ythfcafllcgjepaa.Flt
theorem SliceDecides : foghornlaw05_SliceDecides.Pure := by
  intro a0 a1 a2 h0 h1 _
  have b0 := u64_lt h0
  have b1 := u64_lt h1
  obtain ⟨z, hz⟩ : ∃ z : Nat × Nat, z = (a0.toNat, a1.toNat) := ⟨_, rfl⟩
  have hw : Wd z := by rw [hz]; exact ⟨b0, b1⟩
  refine Ev.rounds (g := fun k => foghornlaw05_SliceDecides.f k a0 a1 a2) ?_
  by_cases h : Six a2
  · obtain ⟨n, v, b, e1, e2, f1, f2⟩ := Decide_both h hw
    refine Ev.congr (fun k => by rw [foghornlaw05_SliceDecides.f, foghornlaw05_number.f, ← hz, Option.bind_some]) ?_
    refine Ev.bind e2 (Ev.bind (Ev.now z) (Ev.bind e1 (Ev.congr (fun k => ?_) (Ev.now true))))
    rw [if_pos rfl, alike_self f1 f2]; rfl
  · obtain ⟨e1, e2⟩ := Decide_no h z
    refine Ev.congr (fun k => ?_) (Ev.now true)
    rw [foghornlaw05_SliceDecides.f, foghornlaw05_number.f, ← hz, Option.bind_some, e2, Option.bind_some, Option.bind_some, e1, Option.bind_some, if_pos rfl, alike_self (is_zero 0).1 (is_zero 0).1]; rfl
end Go.Proofs.Ythfcafllcgjepaa.Pure
