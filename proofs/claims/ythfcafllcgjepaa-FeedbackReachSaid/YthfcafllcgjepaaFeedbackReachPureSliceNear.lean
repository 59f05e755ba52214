import Derived.Test.YthfcafllcgjepaaFeedbackReachSlice5
import Derived.Test.YthfcafllcgjepaaFeedbackReachF1
/- SliceNear: a point, and something below 1 in both parts, are taken for that point. -/
namespace Go.Proofs.Ythfcafllcgjepaa.Slc
open Ieee Go.RowKit Go.Proofs.Ythfcafllcgjepaa.Q Go.Proofs.YthfcafllcgjepaaW.PrintWords Go.Proofs.YthfcafllcgjepaaW.PrintLast Go.Proofs.YthfcafllcgjepaaW.PrintMore Go.Proofs.Ythfcafllcgjepaa.Flt Go.Proofs.Ythfcafllcgjepaa.Feed Go.Proofs.Ythfcafllcgjepaa.Pt
theorem sq_lt {a b : Int} (h : a.natAbs < b.natAbs) : a * a < b * b := by
  rw [← Int.natAbs_mul_self, ← Int.natAbs_mul_self (a := b)]
  exact Int.ofNat_lt.2 (Nat.mul_lt_mul'' h h)
theorem cl_near {n e p : Int} (h1 : -e ≤ p) (h2 : p ≤ e) (h : (n - p * 16384).natAbs < 16384) : (clI n e - p * 16384).natAbs < 16384 := by
  unfold clI
  split
  · omega
  · split <;> omega
theorem part_lt {c p q : Int} (hp : p % 2 = 1) (hq : q % 2 = 1) (h : (c - p * 16384).natAbs < 16384) : (p = q ∨ (c - p * 16384).natAbs < (c - q * 16384).natAbs) ∧ (c - p * 16384).natAbs ≤ (c - q * 16384).natAbs := by
  rcases Int.lt_trichotomy p q with g | g | g
  · have : q ≥ p + 2 := by omega
    omega
  · subst g; exact ⟨Or.inl rfl, Nat.le_refl _⟩
  · have : q ≤ p - 2 := by omega
    omega
theorem near_strict {s L m : Int} (h : Six s) (h0 : 0 ≤ L) (h1 : L < s) (g0 : 0 ≤ m) (g1 : m < s) (hne : m ≠ L) {n : Int × Int} (d1 : (n.1 - (pt s L).1 * 16384).natAbs < 16384) (d2 : (n.2 - (pt s L).2 * 16384).natAbs < 16384) : gapI (clP s n) (pt s L) < gapI (clP s n) (pt s m) := by
  have a := mem_ h (pt_mem h h0 h1)
  have b := mem_ h (pt_mem h g0 g1)
  have c1 := cl_near a.2.2.1 a.2.2.2.1 d1
  have c2 := cl_near a.2.2.2.2.1 a.2.2.2.2.2 d2
  have e1 := part_lt a.1 b.1 c1
  have e2 := part_lt a.2.1 b.2.1 c2
  have hne' : pt s L ≠ pt s m := fun e => hne (pt_inj h h0 h1 g0 g1 e).symm
  show (clI n.1 (edge s) - (pt s L).1 * 16384) * (clI n.1 (edge s) - (pt s L).1 * 16384) + (clI n.2 (edge s) - (pt s L).2 * 16384) * (clI n.2 (edge s) - (pt s L).2 * 16384) < (clI n.1 (edge s) - (pt s m).1 * 16384) * (clI n.1 (edge s) - (pt s m).1 * 16384) + (clI n.2 (edge s) - (pt s m).2 * 16384) * (clI n.2 (edge s) - (pt s m).2 * 16384)
  rcases e1.1 with q1 | q1
  · rcases e2.1 with q2 | q2
    · exact absurd (Prod.ext q1 q2) hne'
    · have := sq_lt q2
      have := sq_mono e1.2
      omega
  · have := sq_lt q1
    have := sq_mono e2.2
    omega
theorem decide_near {s L : Int} (h : Six s) (h0 : 0 ≤ L) (h1 : L < s) {z : Nat × Nat} {n : Int × Int} (hz : Wd z) (i1 : Is z.1 n.1 14) (i2 : Is z.2 n.2 14) (d1 : (n.1 - (pt s L).1 * 16384).natAbs < 16384) (d2 : (n.2 - (pt s L).2 * 16384).natAbs < 16384) : Ev (fun k => slice_Decide.f k s z) (L, toC (pt s L), false, 0) := by
  obtain ⟨l, l0, l1, l2, l3⟩ := decideI h hz i1 i2
  by_cases e : l = L
  · rw [e] at l2; exact l2
  · have := near_strict h h0 h1 l0 l1 e d1 d2
    have := l3 L h0 h1
    omega
theorem d16384 : dec 4670232813583204352 = .number false (2 ^ 52) (((14 : Nat) : Int) - 52) := by decide +kernel
theorem Wd_toC (p : Int × Int) : Wd (toC p) := ⟨ofInt_lt p.1, ofInt_lt p.2⟩
theorem add_word {x y r : Nat} (h : floatBits .add .f64 x y = some r) : r < 2 ^ 64 := Format.add_lt double h
theorem i16_bounds {n : Int} (h : (Lit.int .i16 n).wf = true) : -32768 ≤ n ∧ n ≤ 32767 := by
  unfold Lit.wf at h
  rw [Bool.and_eq_true, decide_eq_true_iff, decide_eq_true_iff, show IntKind.i16.min = -32768 from by decide, show IntKind.i16.max = 32767 from by decide] at h
  exact h
end Go.Proofs.Ythfcafllcgjepaa.Slc
namespace Go.Proofs.Ythfcafllcgjepaa.Pure
open Go.RowKit Go.Proofs.Ythfcafllcgjepaa.Q Go.Proofs.YthfcafllcgjepaaW.PrintWords Go.Proofs.YthfcafllcgjepaaW.PrintLast Go.Proofs.Ythfcafllcgjepaa.Slc Go.Proofs.Ythfcafllcgjepaa.Pt Go.Proofs.Ythfcafllcgjepaa.Flt Go.Proofs.Ythfcafllcgjepaa.Feed
theorem SliceNear : foghornlaw05_SliceNear.Pure := by
  intro a0 a1 a2 a3 _ _ h2 h3
  have c2 := i16_bounds h2
  have c3 := i16_bounds h3
  obtain ⟨s, hs, six⟩ := size_f a0
  have hl := len_ six
  have s4 : 4 ≤ s ∧ s ≤ 256 := by rcases six with rfl | rfl | rfl | rfl | rfl | rfl <;> decide
  obtain ⟨L, hL, L0, L1⟩ : ∃ L : Int, Int.tmod (wrap64 (Int.tmod a1 s + s)) s = L ∧ 0 ≤ L ∧ L < s := by
    have b1 := Int.tmod_lt_of_pos a1 (b := s) (by omega)
    have b2 := Int.lt_tmod_of_pos a1 (b := s) (by omega)
    refine ⟨_, rfl, ?_, ?_⟩
    · rw [wrap_id _ (by omega) (by omega)]; exact Int.tmod_nonneg _ (by omega)
    · rw [wrap_id _ (by omega) (by omega)]; exact Int.tmod_lt_of_pos _ (by omega)
  have hp := pt_box six L0 L1
  have small : ∀ n : Int, -32768 ≤ n ∧ n ≤ 32767 → ∃ r : Int, Int.tmod (wrap64 n) 16384 = r ∧ r.natAbs < 16384 := fun n hn => by
    refine ⟨_, rfl, ?_⟩
    rw [wrap_id _ (by omega) (by omega)]
    have b1 := Int.tmod_lt_of_pos n (b := 16384) (by decide)
    have b2 := Int.lt_tmod_of_pos n (b := 16384) (by decide)
    omega
  obtain ⟨r, hr, r1⟩ := small a2 c2
  obtain ⟨t, ht, t1⟩ := small a3 c3
  obtain ⟨x, hx, ix⟩ := (Is.ofInt r (by omega)).quo d16384 (by decide) (by omega)
  obtain ⟨y, hy, iy⟩ := (Is.ofInt t (by omega)).quo d16384 (by decide) (by omega)
  rw [Nat.zero_add] at ix iy
  obtain ⟨u, hu, iu⟩ := (toC_Is hp.1).add ix (by omega)
  obtain ⟨v, hv, iv⟩ := (toC_Is hp.2).add iy (by omega)
  have e1 := decide_near six L0 L1 (z := (u, v)) (n := ((pt s L).1 * 16384 + r, (pt s L).2 * 16384 + t)) ⟨add_word hu, add_word hv⟩ iu iv (by show ((pt s L).1 * 16384 + r - (pt s L).1 * 16384).natAbs < 16384; omega) (by show ((pt s L).2 * 16384 + t - (pt s L).2 * 16384).natAbs < 16384; omega)
  have e2 := decide_near six L0 L1 (z := toC (pt s L)) (n := ((pt s L).1 * 16384, (pt s L).2 * 16384)) (Wd_toC _) (toC_Is hp.1) (toC_Is hp.2) (by show ((pt s L).1 * 16384 - (pt s L).1 * 16384).natAbs < 16384; omega) (by show ((pt s L).2 * 16384 - (pt s L).2 * 16384).natAbs < 16384; omega)
  have f := fin_pt six L0 L1
  refine Ev.rounds (g := fun k => foghornlaw05_SliceNear.f k a0 a1 a2 a3) ?_
  refine Ev.congr (fun k => by rw [foghornlaw05_SliceNear.f]) (Ev.bind awake_ev ?_)
  refine Ev.congr (fun k => by rw [if_pos rfl, hs, Option.bind_some, if_neg (by omega), hL]) ?_
  refine Ev.bind (rat_yes six L0 L1) ?_
  refine Ev.congr (fun k => by rw [if_pos rfl, hr, ht, hx, Option.bind_some, hy, Option.bind_some]) ?_
  refine Ev.congr (f := fun k => (slice_Decide.f k s (u, v)).bind fun bt690 => ((slice_Decide.f k s bt690.2.1).bind fun bt695 => (if bt690.2.2.2 = 0 then (if bt695.2.2.2 = 0 then (if bt690.1 = L then (if ((FloatKind.f64.format.order bt690.2.1.1 (toC (pt s L)).1 == some .eq) && (FloatKind.f64.format.order bt690.2.1.2 (toC (pt s L)).2 == some .eq)) = true then (if bt690.2.2.1 = true then (some false) else (some (bt695.1 == bt690.1 && (((FloatKind.f64.format.order bt695.2.1.1 bt690.2.1.1 == some .eq) && (FloatKind.f64.format.order bt695.2.1.2 bt690.2.1.2 == some .eq)) && (bt695.2.2.1 == bt690.2.2.1))))) else (some false)) else (some false)) else (some false)) else (some false)))) (fun k => ?_) ?_
  · show (floatBits .add .f64 (floatOfInt .f64 (pt s L).1) x).bind _ = _
    rw [hu, Option.bind_some]
    show (floatBits .add .f64 (floatOfInt .f64 (pt s L).2) y).bind _ = _
    rw [hv, Option.bind_some]
  · refine Ev.bind e1 (Ev.bind e2 (Ev.congr (fun k => ?_) (Ev.now true)))
    rw [if_pos rfl, if_pos rfl, if_pos rfl, eqv f.1, eqv f.2, if_pos (by decide), if_neg Bool.false_ne_true, beq_self_eq_true]
    rfl
end Go.Proofs.Ythfcafllcgjepaa.Pure
