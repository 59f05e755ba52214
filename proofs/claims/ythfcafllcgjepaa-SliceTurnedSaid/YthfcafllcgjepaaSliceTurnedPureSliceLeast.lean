import Derived.Test.YthfcafllcgjepaaSliceTurnedPureSliceNear
import Derived.Test.YthfcafllcgjepaaSliceTurnedF0
/- SliceLeast: no point has a lesser gap than the one that is told; Axis does not fall. -/
namespace Go.Proofs.Ythfcafllcgjepaa.Slc
open Ieee Go.RowKit Go.Proofs.Ythfcafllcgjepaa.Q Go.Proofs.YthfcafllcgjepaaW.PrintWords Go.Proofs.YthfcafllcgjepaaW.PrintLast Go.Proofs.YthfcafllcgjepaaW.PrintMore Go.Proofs.Ythfcafllcgjepaa.Flt Go.Proofs.Ythfcafllcgjepaa.Feed Go.Proofs.Ythfcafllcgjepaa.Pt
theorem Ax.mono {c d : Nat} {e a b P : Int} (hP0 : 0 < P) (h : V c ≤ V d) (ha : Ax c e a P) (hb : Ax d e b P) : a ≤ b := by
  have lt_of : ∀ a b : Int, a * P < b * P → a < b := fun a b h => Int.lt_of_mul_lt_mul_right h (Int.le_of_lt hP0)
  rcases Int.lt_or_le b a with q | q
  · exfalso
    have := ha.odd
    have := hb.odd
    have := hb.lo
    have := ha.hi
    have u : V d ≤ b * P + P := by rcases hb.up with u | u; exact u; omega
    have w : a * P - P < V c := by rcases ha.dn with u | u; exact u; omega
    have : (a - 1) * P < (b + 1) * P := by rw [Int.sub_mul, Int.add_mul, Int.one_mul]; omega
    have := lt_of _ _ this
    omega
  · exact q
theorem clI_mono {n m e : Int} (h : n ≤ m) (he : 0 ≤ e) : clI n e ≤ clI m e := by
  unfold clI
  split <;> split <;> (try split) <;> (try split) <;> omega
theorem axis_mono {s : Int} (h : Six s) {x y : Nat} {n m : Int} (hx : x < 2 ^ 64) (hy : y < 2 ^ 64) (ix : Is x n 14) (iy : Is y m 14) (hnm : n ≤ m) : ∃ a b : Int, Ev (fun k => slice_Axis.f k x (edge s)) (a, 0) ∧ Ev (fun k => slice_Axis.f k y (edge s)) (b, 0) ∧ a ≤ b ∧ a % 2 = 1 ∧ -edge s ≤ a ∧ b ≤ edge s := by
  have he := edge_ h
  obtain ⟨j, hj⟩ : ∃ j, j = 1074 := ⟨_, rfl⟩
  obtain ⟨ca, ha⟩ := clamp_ hx (fin_nn ix.1) (edge s) ⟨he.1, he.2.1⟩ j hj _ rfl
  obtain ⟨cb, hb⟩ := clamp_ hy (fin_nn iy.1) (edge s) ⟨he.1, he.2.1⟩ j hj _ rfl
  obtain ⟨a, p1, _, p3⟩ := axis_both (fin_nn ix.1) (edge s) ⟨he.1, he.2.1⟩ he.2.2 j hj _ rfl ha
  obtain ⟨b, r1, _, r3⟩ := axis_both (fin_nn iy.1) (edge s) ⟨he.1, he.2.1⟩ he.2.2 j hj _ rfl hb
  have ia := cl_Is ix _ ca j hj _ rfl ha
  have ib := cl_Is iy _ cb j hj _ rfl hb
  refine ⟨a, b, p1, r1, Ax.mono (int_pow_pos j) ?_ p3 r3, p3.odd, p3.lo, r3.hi⟩
  rw [ia.2, ib.2]
  exact Int.mul_le_mul_of_nonneg_right (clI_mono hnm (by omega)) (Int.le_of_lt (int_pow_pos _))
theorem i32_b {n : Int} (h : (Lit.int .i32 n).wf = true) : -2147483648 ≤ n ∧ n ≤ 2147483647 := by
  unfold Lit.wf at h
  rw [Bool.and_eq_true, decide_eq_true_iff, decide_eq_true_iff, show IntKind.i32.min = -2147483648 from by decide, show IntKind.i32.max = 2147483647 from by decide] at h
  exact h
end Go.Proofs.Ythfcafllcgjepaa.Slc
namespace Go.Proofs.Ythfcafllcgjepaa.Pure
open Go.RowKit Go.Proofs.Ythfcafllcgjepaa.Q Go.Proofs.YthfcafllcgjepaaW.PrintWords Go.Proofs.YthfcafllcgjepaaW.PrintLast Go.Proofs.Ythfcafllcgjepaa.Slc Go.Proofs.Ythfcafllcgjepaa.Pt Go.Proofs.Ythfcafllcgjepaa.Flt Go.Proofs.Ythfcafllcgjepaa.Feed
theorem SliceLeast : foghornlaw05_SliceLeast.Pure := by
  intro a0 a1 a2 a3 _ h1 h2 h3
  have c1 := i32_b h1
  have c2 := i32_b h2
  have c3 := i32_b h3
  obtain ⟨s, hs, six⟩ := size_f a0
  have hl := len_ six
  have s4 : 4 ≤ s ∧ s ≤ 256 := by rcases six with rfl | rfl | rfl | rfl | rfl | rfl <;> decide
  have he := edge_ six
  obtain ⟨x, hx, ix⟩ := (Is.ofInt a1 (by omega)).quo d16384 (by decide) (by omega)
  obtain ⟨y, hy, iy⟩ := (Is.ofInt a2 (by omega)).quo d16384 (by decide) (by omega)
  rw [Nat.zero_add] at ix iy
  have hw : Wd (x, y) := ⟨div_word hx, div_word hy⟩
  obtain ⟨l, l0, l1, l2, l3⟩ := decideI six (z := (x, y)) (n := (a1, a2)) hw ix iy
  obtain ⟨g, hg, ig⟩ := Gap_Is six (z := (x, y)) (n := (a1, a2)) hw ix iy l0 l1
  have f := fin_pt six l0 l1
  -- the axis, and further up
  obtain ⟨m, hm, m0, m1⟩ : ∃ m : Int, ((a3 % 4294967296) % 100000) = m ∧ 0 ≤ m ∧ m < 100000 := ⟨_, rfl, Int.emod_nonneg _ (by decide), Int.emod_lt_of_pos _ (by decide)⟩
  obtain ⟨q, hq, iq⟩ := (Is.ofInt m (by omega)).quo d16384 (by decide) (by omega)
  rw [Nat.zero_add] at iq
  obtain ⟨w, hw2, iw⟩ := ix.add iq (by omega)
  obtain ⟨a, b, e1, e2, e3, e4, e5, e6⟩ := axis_mono six hw.1 (add_word hw2) ix iw (by omega)
  have fin_ : Ev (fun k => (foghornref04_Edge.f s).bind fun bt715 => ((slice_Axis.f k (x, y).1 bt715.1).bind fun bt717 => ((floatBits .quo .f64 (floatOfInt .f64 (((a3) % 4294967296) % 100000)) 4670232813583204352).bind fun t719 => ((floatBits .add .f64 (x, y).1 t719).bind fun t720 => ((slice_Axis.f k t720 bt715.1).bind fun bt721 => (if bt717.2 = 0 then (if bt721.2 = 0 then (if bt717.1 ≤ bt721.1 then (if (Int.tmod bt717.1 2) = 0 then (some false) else (if bt717.1 ≥ (wrap64 (-bt715.1)) then (some (decide (bt721.1 ≤ bt715.1))) else (some false))) else (some false)) else (some false)) else (some false))))))) true := by
    refine Ev.congr (fun k => by rw [redge_yes six, Option.bind_some]) ?_
    refine Ev.bind e1 ?_
    refine Ev.congr (f := fun k => (slice_Axis.f k w (edge s)).bind fun bt721 => (if bt721.2 = 0 then (if a ≤ bt721.1 then (if (Int.tmod a 2) = 0 then (some false) else (if a ≥ (wrap64 (-edge s)) then (some (decide (bt721.1 ≤ edge s))) else (some false))) else (some false)) else (some false))) (fun k => ?_) ?_
    · rw [hm, hq, Option.bind_some]
      show (floatBits .add .f64 x q).bind _ = _
      rw [hw2, Option.bind_some]
      rfl
    · refine Ev.bind e2 (Ev.congr (fun k => ?_) (Ev.now true))
      have t0 : ¬ Int.tmod a 2 = 0 := fun h => by have := Int.dvd_of_tmod_eq_zero h; omega
      rw [if_pos rfl, if_pos e3, if_neg t0, if_pos (by rw [wrap_id _ (by omega) (by omega)]; omega), decide_eq_true e6]
  have loop : ∀ (d i : Nat), (i : Int) + d = s → Ev (fun k => foghornlaw05_SliceLeast.l0 k a3 s (x, y) g 0 (i : Int)) true := by
    intro d
    induction d with
    | zero =>
      intro i hi
      exact Ev.stepTo _ (fun k _ => by rw [foghornlaw05_SliceLeast.l0, if_neg (by omega)]) fin_
    | succ d ih =>
      intro i hi
      obtain ⟨r, hr, ir⟩ := Gap_Is six (z := (x, y)) (n := (a1, a2)) hw ix iy (l := (i : Int)) (by omega) (by omega)
      have hlt := ir.lt ig
      rw [decide_eq_false (by have := l3 (i : Int) (by omega) (by omega); omega)] at hlt
      exact Ev.stepTo _ (fun k _ => by rw [foghornlaw05_SliceLeast.l0, if_pos (by omega), hr, Option.bind_some, if_pos rfl, if_pos rfl, if_neg (by rw [hlt]; exact Bool.false_ne_true), wrap_id _ (by omega) (by omega), show ((i : Int) + 1) = ((i + 1 : Nat) : Int) from by omega]) (ih (i + 1) (by omega))
  refine Ev.rounds (g := fun k => foghornlaw05_SliceLeast.f k a0 a1 a2 a3) ?_
  refine Ev.congr (fun k => by rw [foghornlaw05_SliceLeast.f]) (Ev.bind awake_ev ?_)
  refine Ev.congr (fun k => by rw [if_pos rfl, hs, Option.bind_some, hx, Option.bind_some, hy, Option.bind_some]) ?_
  refine Ev.bind l2 (Ev.bind (rat_yes six l0 l1) ?_)
  refine Ev.congr (fun k => by rw [if_pos rfl, if_pos rfl, if_neg Bool.false_ne_true, eqv f.1, eqv f.2]) ?_
  refine Ev.stepTo _ (fun k _ => by rw [foghornlaw05_SliceLeast.j0, if_neg (by decide), hg, Option.bind_some]) ?_
  exact loop s.toNat 0 (by omega)
end Go.Proofs.Ythfcafllcgjepaa.Pure
