import Derived.Test.YthfcafllcgjepaaFeedbackReachSlice2
import Derived.Test.YthfcafllcgjepaaFeedbackReachPts
import Derived.Test.YthfcafllcgjepaaFeedbackReachF1
/- SliceAxes: any float on any axis; any number cut to any box; its gap to any point. -/
namespace Go.Proofs.Ythfcafllcgjepaa.Slc
open Ieee Go.RowKit Go.Proofs.Ythfcafllcgjepaa.Q Go.Proofs.YthfcafllcgjepaaW.PrintWords Go.Proofs.YthfcafllcgjepaaW.PrintLast Go.Proofs.YthfcafllcgjepaaW.PrintMore Go.Proofs.Ythfcafllcgjepaa.Flt Go.Proofs.Ythfcafllcgjepaa.Feed Go.Proofs.Ythfcafllcgjepaa.Pt
theorem nan_no {x : Nat} (h : nn x) : (FloatKind.f64.format.order x x != some .eq) = false := by rw [bne, order_self h]; rfl
theorem nan_yes {x : Nat} (h : ¬ nn x) : (FloatKind.f64.format.order x x != some .eq) = true := by
  unfold nn at h
  have ⟨s, hs⟩ := Classical.not_forall.1 h
  have ⟨t, ht⟩ := Classical.not_forall.1 hs
  rw [order_dec, Decidable.not_not.1 ht]; rfl
theorem clamp {x : Nat} (hx : x < 2 ^ 64) (hn : nn x) (e : Int) (he : 1 ≤ e ∧ e ≤ 15) : ∃ c, foghornref05_cut.f x e = some c ∧ pickF false .gt (Op.negFloat .f64 (floatOfInt .f64 e)) (pickF true .lt x (floatOfInt .f64 e)) = c ∧ fin c := by
  obtain ⟨j, hj⟩ : ∃ j, j = 1074 := ⟨_, rfl⟩
  obtain ⟨c, h⟩ := clamp_ hx hn e he j hj _ rfl
  exact ⟨c, h.ref, h.pick, h.fin⟩
theorem cut_yes {s : Int} (h : Six s) {z : Nat × Nat} (h1 : z.1 < 2 ^ 64) (h2 : z.2 < 2 ^ 64) (n1 : nn z.1) (n2 : nn z.2) : ∃ c : Nat × Nat, slice_cut.f z (edge s) = some c ∧ slice_Cut.f s z = some (c, 0) ∧ Ev (fun k => foghornref05_Cut.f k s z) (c, 0) ∧ fin c.1 ∧ fin c.2 := by
  have he := edge_ h
  obtain ⟨c, a1, a2, a3⟩ := clamp h1 n1 (edge s) ⟨he.1, he.2.1⟩
  obtain ⟨d, b1, b2, b3⟩ := clamp h2 n2 (edge s) ⟨he.1, he.2.1⟩
  have hc : slice_cut.f z (edge s) = some (c, d) := by rw [slice_cut.f, math_Min.f, Option.bind_some, math_Max.f, Option.bind_some, math_Min.f, Option.bind_some, math_Max.f, Option.bind_some, a2, b2]
  refine ⟨(c, d), hc, ?_, ?_, a3, b3⟩
  · rw [slice_Cut.f, edge_yes h, Option.bind_some, if_pos rfl, slice_nan.f, math_IsNaN.f, nan_no n1, Option.bind_some, if_neg (by decide), math_IsNaN.f, nan_no n2, Option.bind_some, Option.bind_some, if_neg (by decide)]
    show (slice_cut.f z (edge s)).bind _ = _
    rw [hc]; rfl
  · refine Ev.congr (fun k => by rw [foghornref05_Cut.f, redge_yes h, Option.bind_some, if_pos rfl, nan_no n1, if_neg (by decide), nan_no n2]) (Ev.stepTo (fun _ => some ((c, d), 0)) (fun k _ => ?_) (Ev.now _))
    rw [foghornref05_Cut.j0, if_neg (by decide)]
    show (foghornref05_cut.f z.1 (edge s)).bind _ = _
    rw [a1, Option.bind_some]
    show (foghornref05_cut.f z.2 (edge s)).bind _ = _
    rw [b1]; rfl
theorem cut_no {s : Int} {z : Nat × Nat} (h : ¬ (Six s ∧ nn z.1 ∧ nn z.2)) : slice_Cut.f s z = some ((0, 0), 1) ∧ Ev (fun k => foghornref05_Cut.f k s z) ((0, 0), 1) := by
  have r : ∀ g : Nat → Option ((Nat × Nat) × Int), (∃ e, ∀ k, g k = foghornref05_Cut.j0 k z e true) → Ev g ((0, 0), 1) := fun g ⟨e, hg⟩ => Ev.congr hg (Ev.stepTo _ (fun k _ => by rw [foghornref05_Cut.j0, if_pos rfl]) (Ev.now _))
  by_cases c : Six s
  · by_cases c1 : nn z.1
    · have c2 : ¬ nn z.2 := fun c2 => h ⟨c, c1, c2⟩
      refine ⟨?_, r _ ⟨edge s, fun k => by rw [foghornref05_Cut.f, redge_yes c, Option.bind_some, if_pos rfl, nan_no c1, if_neg (by decide), nan_yes c2]⟩⟩
      rw [slice_Cut.f, edge_yes c, Option.bind_some, if_pos rfl, slice_nan.f, math_IsNaN.f, nan_no c1, Option.bind_some, if_neg (by decide), math_IsNaN.f, nan_yes c2, Option.bind_some, Option.bind_some, if_pos (by decide)]
    · refine ⟨?_, r _ ⟨edge s, fun k => by rw [foghornref05_Cut.f, redge_yes c, Option.bind_some, if_pos rfl, nan_yes c1, if_pos (by decide)]⟩⟩
      rw [slice_Cut.f, edge_yes c, Option.bind_some, if_pos rfl, slice_nan.f, math_IsNaN.f, nan_yes c1, Option.bind_some, if_pos (by decide), Option.bind_some, if_pos rfl]
  · refine ⟨?_, r _ ⟨0, fun k => by rw [foghornref05_Cut.f, redge_no c, Option.bind_some, if_neg (by decide)]⟩⟩
    rw [slice_Cut.f, edge_no c, Option.bind_some, if_neg (by decide)]
theorem cut_both (s : Int) {z : Nat × Nat} (h1 : z.1 < 2 ^ 64) (h2 : z.2 < 2 ^ 64) : ∃ c e, slice_Cut.f s z = some (c, e) ∧ Ev (fun k => foghornref05_Cut.f k s z) (c, e) ∧ fin c.1 ∧ fin c.2 := by
  by_cases h : Six s ∧ nn z.1 ∧ nn z.2
  · obtain ⟨c, _, a, b, d, e⟩ := cut_yes h.1 h1 h2 h.2.1 h.2.2
    exact ⟨c, 0, a, b, d, e⟩
  · obtain ⟨a, b⟩ := cut_no h
    exact ⟨(0, 0), 1, a, b, (is_zero 0).1, (is_zero 0).1⟩
theorem at_both (s l : Int) : ∃ p e, points_At.f s l = some (p, e) ∧ Ev (fun k => foghornref04_At.f k s l) (p, e) ∧ fin p.1 ∧ fin p.2 := by
  by_cases h : Six s
  · by_cases h2 : 0 ≤ l ∧ l < s
    · have := fin_pt h h2.1 h2.2
      exact ⟨_, 0, at_yes h h2.1 h2.2, rat_yes h h2.1 h2.2, this.1, this.2⟩
    · exact ⟨(0, 0), 1, at_out h (by omega), rat_out h (by omega), (is_zero 0).1, (is_zero 0).1⟩
  · exact ⟨(0, 0), 1, at_no h l, rat_no h l, (is_zero 0).1, (is_zero 0).1⟩
theorem gap_both (s l : Int) {z : Nat × Nat} (h1 : z.1 < 2 ^ 64) (h2 : z.2 < 2 ^ 64) : ∃ r e, slice_Gap.f s z l = some (r, e) ∧ Ev (fun k => foghornref05_Gap.f k s z l) (r, e) ∧ (FloatKind.f64.format.order r r == some .eq) = true := by
  obtain ⟨p, e, a1, a2, a3, a4⟩ := at_both s l
  obtain ⟨c, f, b1, b2, b3, b4⟩ := cut_both s h1 h2
  obtain ⟨r, c1, c2, c3⟩ := gap_some b3 b4 a3 a4
  have z0 : (FloatKind.f64.format.order 0 0 == some .eq) = true := by decide +kernel
  have hp : slice_Gap.f s z l = if e = 0 then (if f = 0 then (slice_gap.f c p).bind fun t => some (t, 0) else some (0, 1)) else some (0, 1) := by rw [slice_Gap.f, a1, Option.bind_some, b1]; rfl
  have hr : ∀ q, (if e = 0 then (if f = 0 then (foghornref05_gap.f c p).bind fun t => some (t, 0) else some (0, 1)) else some (0, 1)) = some q → Ev (fun k => foghornref05_Gap.f k s z l) q := fun q hq =>
    Ev.congr (fun k => by rw [foghornref05_Gap.f]) (Ev.bind a2 (Ev.bind b2 (Ev.congr (fun _ => hq) (Ev.now _))))
  by_cases he : e = 0
  · by_cases hf : f = 0
    · exact ⟨r, 0, by rw [hp, if_pos he, if_pos hf, c1]; rfl, hr _ (by rw [if_pos he, if_pos hf, c2]; rfl), c3⟩
    · exact ⟨0, 1, by rw [hp, if_pos he, if_neg hf], hr _ (by rw [if_pos he, if_neg hf]), z0⟩
  · exact ⟨0, 1, by rw [hp, if_neg he], hr _ (by rw [if_neg he]), z0⟩
theorem axis_any {x : Nat} (hx : x < 2 ^ 64) (e : Int) : ∃ r, Ev (fun k => slice_Axis.f k x e) r ∧ Ev (fun k => foghornref05_Axis.f k x e) r := by
  by_cases h : e < 1 ∨ e > 15 ∨ Int.tmod e 2 = 0 ∨ ¬ nn x
  · exact ⟨_, axis_no h⟩
  · have h1 : 1 ≤ e := by omega
    have h2 : e ≤ 15 := by omega
    have h3 : Int.tmod e 2 ≠ 0 := fun c => h (Or.inr (Or.inr (Or.inl c)))
    have h4 : nn x := Classical.byContradiction fun c => h (Or.inr (Or.inr (Or.inr c)))
    have tm : Int.tmod e 2 = e % 2 := Int.tmod_eq_emod_of_nonneg (by omega)
    obtain ⟨j, hj⟩ : ∃ j, j = 1074 := ⟨_, rfl⟩
    obtain ⟨c, hc⟩ := clamp_ hx h4 e ⟨h1, h2⟩ j hj _ rfl
    obtain ⟨a, p, q, _⟩ := axis_both h4 e ⟨h1, h2⟩ (by omega) j hj _ rfl hc
    exact ⟨_, p, q⟩
theorem u64_lt {n : Int} (h : (Lit.int .u64 n).wf = true) : n.toNat < 2 ^ 64 := by
  have : 0 ≤ n ∧ n ≤ 18446744073709551615 := by simpa [Lit.wf, IntKind.min, IntKind.max, IntKind.signed, IntKind.bits] using h
  omega
end Go.Proofs.Ythfcafllcgjepaa.Slc
namespace Go.Proofs.Ythfcafllcgjepaa.Pure
open Go.RowKit Go.Proofs.Ythfcafllcgjepaa.Q Go.Proofs.YthfcafllcgjepaaW.PrintWords Go.Proofs.YthfcafllcgjepaaW.PrintLast Go.Proofs.Ythfcafllcgjepaa.Slc Go.Proofs.Ythfcafllcgjepaa.Flt Go.Proofs.Ythfcafllcgjepaa.Feed
theorem SliceAxes : foghornlaw05_SliceAxes.Pure := by
  intro a0 a1 a2 a3 a4 h0 h1 _ _ _
  have b0 := u64_lt h0
  have b1 := u64_lt h1
  obtain ⟨z, hz⟩ : ∃ z : Nat × Nat, z = (a0.toNat, a1.toNat) := ⟨_, rfl⟩
  have z1 : z.1 < 2 ^ 64 := by rw [hz]; exact b0
  have z2 : z.2 < 2 ^ 64 := by rw [hz]; exact b1
  obtain ⟨r, p1, q1⟩ := axis_any z1 a2
  obtain ⟨c, e, p2, q2, f1, f2⟩ := cut_both a3 z1 z2
  obtain ⟨g, f, p3, q3, s3⟩ := gap_both a3 a4 z1 z2
  have e1 : (FloatKind.f64.format.order c.1 c.1 == some .eq) = true := order_self (fin_nn f1)
  have e2 : (FloatKind.f64.format.order c.2 c.2 == some .eq) = true := order_self (fin_nn f2)
  refine Ev.rounds (g := fun k => foghornlaw05_SliceAxes.f k a0 a1 a2 a3 a4) ?_
  refine Ev.congr (fun k => by rw [foghornlaw05_SliceAxes.f, foghornlaw05_number.f, ← hz, Option.bind_some]) ?_
  refine Ev.bind q1 (Ev.bind p1 (Ev.bind q2 ?_))
  refine Ev.congr (fun k => by rw [p2, Option.bind_some]) ?_
  refine Ev.bind q3 ?_
  refine Ev.congr (fun k => ?_) (Ev.now true)
  rw [p3, Option.bind_some, if_pos rfl, if_pos rfl, e1, e2, if_pos (by decide), if_pos rfl, s3, if_pos rfl, beq_self_eq_true]
end Go.Proofs.Ythfcafllcgjepaa.Pure
