import Derived.Test.YthfcafllcgjepaaSliceTurnedPureSliceLeast
import Derived.Test.YthfcafllcgjepaaSliceTurnedF0
/- SliceTurned: a number that is turned by a quarter is taken for the turned point. -/
namespace Go.Proofs.Ythfcafllcgjepaa.Slc
open Ieee Go.RowKit Go.Proofs.Ythfcafllcgjepaa.Q Go.Proofs.YthfcafllcgjepaaW.PrintWords Go.Proofs.YthfcafllcgjepaaW.PrintLast Go.Proofs.YthfcafllcgjepaaW.PrintMore Go.Proofs.Ythfcafllcgjepaa.Flt Go.Proofs.Ythfcafllcgjepaa.Feed Go.Proofs.Ythfcafllcgjepaa.Pt
theorem clI_neg (n e : Int) (he : 0 ≤ e) : clI (-n) e = - clI n e := by
  unfold clI
  split <;> split <;> (try split) <;> (try split) <;> omega
theorem gap_turn (c p : Int × Int) : gapI (-c.2, c.1) (turnP p) = gapI c p := by
  unfold gapI turnP
  show (-c.2 - -p.2 * 16384) * (-c.2 - -p.2 * 16384) + (c.1 - p.1 * 16384) * (c.1 - p.1 * 16384) = _
  have : (-c.2 - -p.2 * 16384) = -(c.2 - p.2 * 16384) := by omega
  rw [this, Int.neg_mul_neg, Int.add_comm]
theorem turn4 (p : Int × Int) : turnP (turnP (turnP (turnP p))) = p := by
  unfold turnP
  simp
/-- Of a unique nearest point: what is told of the turned number is the turned point. -/
theorem turned_pt {s l t : Int} (h : Six s) (l0 : 0 ≤ l) (l1 : l < s) (t0 : 0 ≤ t) (t1 : t < s) {n : Int × Int} (uniq : ∀ m : Int, 0 ≤ m → m < s → m ≠ l → gapI (clP s n) (pt s l) < gapI (clP s n) (pt s m)) (least : ∀ m : Int, 0 ≤ m → m < s → gapI (clP s (-n.2, n.1)) (pt s t) ≤ gapI (clP s (-n.2, n.1)) (pt s m)) : pt s t = turnP (pt s l) := by
  have he := edge_ h
  have ec : clP s (-n.2, n.1) = (-(clP s n).2, (clP s n).1) := by
    unfold clP
    rw [clI_neg _ _ (by omega)]
  rw [ec] at least
  -- back by a quarter
  have hq := turn_mem h (turn_mem h (turn_mem h (pt_mem h t0 t1)))
  obtain ⟨q, q0, q1, q2⟩ := pt_of_mem h hq
  have e1 : turnP (pt s q) = pt s t := by rw [q2, turn4]
  obtain ⟨w, w0, w1, w2⟩ := pt_of_mem h (turn_mem h (pt_mem h l0 l1))
  have k := least w w0 w1
  rw [w2, ← e1, gap_turn, gap_turn] at k
  by_cases c : q = l
  · rw [← e1, c]
  · have := uniq q q0 q1 c
    omega
/-- A number that is no even number has one nearest odd number. -/
theorem part_one {n e a b : Int} (ha : a % 2 = 1) (hb : b % 2 = 1) (a1 : -e ≤ a) (a2 : a ≤ e) (b1 : -e ≤ b) (b2 : b ≤ e) (hn : n % 32768 ≠ 0) (he : e % 2 = 1) (h : ∀ b : Int, b % 2 = 1 → -e ≤ b → b ≤ e → (clI n e - a * 16384).natAbs ≤ (clI n e - b * 16384).natAbs) : a = b ∨ (clI n e - a * 16384).natAbs < (clI n e - b * 16384).natAbs := by
  have hc : clI n e % 32768 ≠ 0 := by
    unfold clI
    split
    · omega
    · split <;> omega
  generalize clI n e = c at *
  have h0 := h b hb b1 b2
  rcases Int.lt_trichotomy a b with q | q | q
  · have h1 := h (a + 2) (by omega) (by omega) (by omega)
    clear h hn
    omega
  · exact Or.inl q
  · have h1 := h (a - 2) (by omega) (by omega) (by omega)
    clear h hn
    omega
/-- Squares: one point is nearest, where no part is an even number. -/
theorem squares_one {s l m : Int} (h : Six s) (hs : s = 4 ∨ s = 16 ∨ s = 64 ∨ s = 256) (l0 : 0 ≤ l) (l1 : l < s) (m0 : 0 ≤ m) (m1 : m < s) (hne : m ≠ l) {n : Int × Int} (n1 : n.1 % 32768 ≠ 0) (n2 : n.2 % 32768 ≠ 0) (least : ∀ m : Int, 0 ≤ m → m < s → gapI (clP s n) (pt s l) ≤ gapI (clP s n) (pt s m)) : gapI (clP s n) (pt s l) < gapI (clP s n) (pt s m) := by
  have he := edge_ h
  have a := mem_ h (pt_mem h l0 l1)
  have b := mem_ h (pt_mem h m0 m1)
  -- each part by itself
  have sq_le_of : ∀ x y : Int, x * x ≤ y * y → x.natAbs ≤ y.natAbs := fun x y h => by
    rcases Nat.lt_or_ge y.natAbs x.natAbs with c | c
    · have := sq_lt c; omega
    · exact c
  have g : ∀ x y : Int, gapI (clP s n) (x, y) = (clI n.1 (edge s) - x * 16384) * (clI n.1 (edge s) - x * 16384) + (clI n.2 (edge s) - y * 16384) * (clI n.2 (edge s) - y * 16384) := fun x y => rfl
  have p1 : ∀ b : Int, b % 2 = 1 → -edge s ≤ b → b ≤ edge s → (clI n.1 (edge s) - (pt s l).1 * 16384).natAbs ≤ (clI n.1 (edge s) - b * 16384).natAbs := fun b hb b1 b2 => by
    obtain ⟨w, w0, w1, w2⟩ := pt_of_mem h (full_mem hs hb a.2.1 b1 b2 a.2.2.2.2.1 a.2.2.2.2.2)
    have := least w w0 w1
    rw [w2, g, g] at this
    exact sq_le_of _ _ (Int.le_of_add_le_add_right this)
  have p2 : ∀ b : Int, b % 2 = 1 → -edge s ≤ b → b ≤ edge s → (clI n.2 (edge s) - (pt s l).2 * 16384).natAbs ≤ (clI n.2 (edge s) - b * 16384).natAbs := fun b hb b1 b2 => by
    obtain ⟨w, w0, w1, w2⟩ := pt_of_mem h (full_mem hs a.1 hb a.2.2.1 a.2.2.2.1 b1 b2)
    have := least w w0 w1
    rw [w2, g, g] at this
    exact sq_le_of _ _ (Int.le_of_add_le_add_left this)
  have q1 := part_one a.1 b.1 a.2.2.1 a.2.2.2.1 b.2.2.1 b.2.2.2.1 n1 he.2.2 p1
  have q2 := part_one a.2.1 b.2.1 a.2.2.2.2.1 a.2.2.2.2.2 b.2.2.2.2.1 b.2.2.2.2.2 n2 he.2.2 p2
  have p1 := p1 _ b.1 b.2.2.1 b.2.2.2.1
  have p2 := p2 _ b.2.1 b.2.2.2.2.1 b.2.2.2.2.2
  show (clI n.1 (edge s) - (pt s l).1 * 16384) * (clI n.1 (edge s) - (pt s l).1 * 16384) + (clI n.2 (edge s) - (pt s l).2 * 16384) * (clI n.2 (edge s) - (pt s l).2 * 16384) < (clI n.1 (edge s) - (pt s m).1 * 16384) * (clI n.1 (edge s) - (pt s m).1 * 16384) + (clI n.2 (edge s) - (pt s m).2 * 16384) * (clI n.2 (edge s) - (pt s m).2 * 16384)
  rcases q1 with q1 | q1
  · rcases q2 with q2 | q2
    · exact absurd (pt_inj h l0 l1 m0 m1 (Prod.ext q1 q2)).symm hne
    · have := sq_lt q2
      have := sq_mono p1
      omega
  · have := sq_lt q1
    have := sq_mono p2
    omega
theorem turned_loop {s : Int} {z : Nat × Nat} {g : Nat} {l t : Int} {v u : Nat × Nat} (G : Int → Int) (hs : s ≤ 256) (hG : ∀ i : Nat, (i : Int) < s → ∃ r, slice_Gap.f s z (i : Int) = some (r, 0) ∧ (FloatKind.f64.format.order r g == some .eq) = decide (G i = G l)) (hmin : ∀ m : Int, 0 ≤ m → m < s → G l ≤ G m)
    (hend : (∀ m : Int, 0 ≤ m → m < s → m ≠ l → G l < G m) → ((floatBits .sub .f64 0 v.2).bind fun t742 => (some ((FloatKind.f64.format.order u.1 t742 == some .eq) && (FloatKind.f64.format.order u.2 v.1 == some .eq)))) = some true) (d : Nat) : ∀ (i : Nat), (i : Int) + d = s → (∀ m : Int, 0 ≤ m → m < i → m ≠ l → G l < G m) → Ev (fun k => foghornlaw05_SliceTurned.l0 k s z g (i : Int) l v false t u false) true := by
  induction d with
  | zero =>
    intro i hi hu
    exact Ev.stepTo _ (fun k _ => by rw [foghornlaw05_SliceTurned.l0, if_neg (by omega), hend (fun m m0 m1 => hu m m0 (by omega))]) (Ev.now _)
  | succ d ih =>
    intro i hi hu
    obtain ⟨r, hr, heq⟩ := hG i (by omega)
    have hw3 : wrap64 ((i : Int) + 1) = ((i + 1 : Nat) : Int) := by rw [wrap_id _ (by omega) (by omega)]; omega
    by_cases q : (i : Int) = l
    · exact Ev.stepTo _ (fun k _ => by rw [foghornlaw05_SliceTurned.l0, if_pos (by omega), hr, Option.bind_some, if_pos q, hw3]) (ih (i + 1) (by omega) (fun m m0 m1 m2 => hu m m0 (by omega) m2))
    · by_cases w : G (i : Int) = G l
      · rw [decide_eq_true w] at heq
        exact Ev.stepTo _ (fun k _ => by rw [foghornlaw05_SliceTurned.l0, if_pos (by omega), hr, Option.bind_some, if_neg q, if_pos heq]) (Ev.now _)
      · rw [decide_eq_false w] at heq
        refine Ev.stepTo _ (fun k _ => by rw [foghornlaw05_SliceTurned.l0, if_pos (by omega), hr, Option.bind_some, if_neg q, if_neg (by rw [heq]; exact Bool.false_ne_true), hw3]) (ih (i + 1) (by omega) (fun m m0 m1 m2 => ?_))
        by_cases e : m = (i : Int)
        · have := hmin m m0 (by omega)
          rw [e] at this ⊢
          omega
        · exact hu m m0 (by omega) m2
theorem sub_word {x y r : Nat} (h : floatBits .sub .f64 x y = some r) : r < 2 ^ 64 := Format.sub_lt double h
end Go.Proofs.Ythfcafllcgjepaa.Slc
namespace Go.Proofs.Ythfcafllcgjepaa.Pure
open Go.RowKit Go.Proofs.Ythfcafllcgjepaa.Q Go.Proofs.YthfcafllcgjepaaW.PrintWords Go.Proofs.YthfcafllcgjepaaW.PrintLast Go.Proofs.Ythfcafllcgjepaa.Slc Go.Proofs.Ythfcafllcgjepaa.Pt Go.Proofs.Ythfcafllcgjepaa.Flt Go.Proofs.Ythfcafllcgjepaa.Feed
theorem SliceTurned : foghornlaw05_SliceTurned.Pure := by
  intro a0 a1 a2 _ h1 h2
  have c1 := i32_b h1
  have c2 := i32_b h2
  obtain ⟨s, hs, six⟩ := size_f a0
  have hl := len_ six
  have s4 : 4 ≤ s ∧ s ≤ 256 := by rcases six with rfl | rfl | rfl | rfl | rfl | rfl <;> decide
  obtain ⟨x, hx, ix⟩ := (Is.ofInt a1 (by omega)).quo d16384 (by decide) (by omega)
  obtain ⟨y, hy, iy⟩ := (Is.ofInt a2 (by omega)).quo d16384 (by decide) (by omega)
  rw [Nat.zero_add] at ix iy
  have hw : Wd (x, y) := ⟨div_word hx, div_word hy⟩
  refine Ev.rounds (g := fun k => foghornlaw05_SliceTurned.f k a0 a1 a2) ?_
  refine Ev.congr (fun k => by rw [foghornlaw05_SliceTurned.f]) (Ev.bind awake_ev ?_)
  refine Ev.congr (fun k => by rw [if_pos rfl, hs, Option.bind_some, hx, Option.bind_some, hy, Option.bind_some]) ?_
  have yes : Ev (fun k => foghornlaw05_SliceTurned.j0 k s (x, y) true) true := Ev.stepTo _ (fun k _ => by rw [foghornlaw05_SliceTurned.j0, if_pos rfl]) (Ev.now _)
  by_cases e1 : Int.tmod a1 32768 = 0
  · exact Ev.congr (fun k => by rw [if_pos e1]) yes
  by_cases e2 : Int.tmod a2 32768 = 0
  · exact Ev.congr (fun k => by rw [if_neg e1, e2]; rfl) yes
  have m1 : a1 % 32768 ≠ 0 := fun h => e1 (Int.tmod_eq_zero_of_dvd (Int.dvd_of_emod_eq_zero h))
  have m2 : a2 % 32768 ≠ 0 := fun h => e2 (Int.tmod_eq_zero_of_dvd (Int.dvd_of_emod_eq_zero h))
  refine Ev.congr (fun k => by rw [if_neg e1, beq_eq_false_iff_ne.2 e2]) ?_
  obtain ⟨l, l0, l1, l2, l3⟩ := decideI six (z := (x, y)) (n := (a1, a2)) hw ix iy
  obtain ⟨v, hv, iv⟩ := (is_zero 14).sub iy (by omega)
  rw [Int.zero_sub] at iv
  obtain ⟨t, t0, t1, t2, t3⟩ := decideI six (z := (v, x)) (n := (-a2, a1)) ⟨sub_word hv, hw.1⟩ iv ix
  refine Ev.stepTo _ (fun k _ => by rw [foghornlaw05_SliceTurned.j0, if_neg (by decide)]) ?_
  refine Ev.bind l2 ?_
  refine Ev.congr (f := fun k => (slice_Decide.f k s (v, x)).bind fun bt733 => foghornlaw05_SliceTurned.j1 k s (x, y) (bt733.2.2.2 != 0) l (toC (pt s l)) false bt733.1 bt733.2.1 bt733.2.2.1) (fun k => ?_) ?_
  · show (floatBits .sub .f64 0 y).bind _ = _
    rw [hv, Option.bind_some]
    rfl
  refine Ev.bind t2 ?_
  -- the end
  have hp := pt_box six l0 l1
  have hq := pt_box six t0 t1
  obtain ⟨z, hz, iz⟩ := (is_zero 0).sub (Is.ofInt (pt s l).2 (by omega)) (by omega)
  have fin_ : (∀ m : Int, 0 ≤ m → m < s → m ≠ l → gapI (clP s (a1, a2)) (pt s l) < gapI (clP s (a1, a2)) (pt s m)) → ((floatBits .sub .f64 0 (toC (pt s l)).2).bind fun t743 => (some ((FloatKind.f64.format.order (toC (pt s t)).1 t743 == some .eq) && (FloatKind.f64.format.order (toC (pt s t)).2 (toC (pt s l)).1 == some .eq)))) = some true := fun uniq => by
    have e := turned_pt six l0 l1 t0 t1 (n := (a1, a2)) uniq t3
    show (floatBits .sub .f64 0 (floatOfInt .f64 (pt s l).2)).bind _ = _
    rw [hz, Option.bind_some]
    have q1 : (FloatKind.f64.format.order (toC (pt s t)).1 z == some .eq) = true := by
      have := (Is.ofInt (pt s t).1 (by omega)).eq iz
      rw [decide_eq_true (by rw [e]; show -(pt s l).2 = 0 - (pt s l).2; omega)] at this
      exact this
    have q2 : (FloatKind.f64.format.order (toC (pt s t)).2 (toC (pt s l)).1 == some .eq) = true := by
      have := (Is.ofInt (pt s t).2 (by omega)).eq (Is.ofInt (pt s l).1 (by omega))
      rw [decide_eq_true (by rw [e]; rfl)] at this
      exact this
    rw [q1, q2]
    rfl
  refine Ev.stepTo (fun k => foghornlaw05_SliceTurned.j2 k s (x, y) (decide (s = 32 ∨ s = 128)) l (toC (pt s l)) false t (toC (pt s t)) false) (fun k _ => ?_) ?_
  · rw [foghornlaw05_SliceTurned.j1, if_neg (show ¬ ((0 : Int) != 0) = true by decide)]
    by_cases c : s = 32
    · rw [if_pos c, decide_eq_true (Or.inl c)]
    · rw [if_neg c]
      congr 1
      by_cases c' : s = 128
      · rw [decide_eq_true (Or.inr c'), c']; rfl
      · rw [decide_eq_false (fun h => h.elim c c')]; exact beq_eq_false_iff_ne.2 c'
  by_cases c : s = 32 ∨ s = 128
  · obtain ⟨g, hg, ig⟩ := Gap_Is six (z := (x, y)) (n := (a1, a2)) hw ix iy l0 l1
    have loop := turned_loop (s := s) (z := (x, y)) (g := g) (l := l) (t := t) (v := toC (pt s l)) (u := toC (pt s t)) (fun m => gapI (clP s (a1, a2)) (pt s m)) s4.2 (fun i hi => by
      obtain ⟨r, hr, ir⟩ := Gap_Is six (z := (x, y)) (n := (a1, a2)) hw ix iy (l := (i : Int)) (by omega) hi
      exact ⟨r, hr, ir.eq ig⟩) l3 fin_
    refine Ev.stepTo _ (fun k _ => by rw [foghornlaw05_SliceTurned.j2, decide_eq_true c, if_pos rfl, hg, Option.bind_some]) ?_
    exact loop s.toNat 0 (by omega) (fun m m0 m1 => by omega)
  · have hsq : s = 4 ∨ s = 16 ∨ s = 64 ∨ s = 256 := by unfold Six at six; omega
    refine Ev.stepTo _ (fun k _ => by rw [foghornlaw05_SliceTurned.j2, decide_eq_false c, if_neg (by decide), fin_ (fun m m0 m1' hne => squares_one six hsq l0 l1 m0 m1' hne m1 m2 l3)]) (Ev.now _)
end Go.Proofs.Ythfcafllcgjepaa.Pure
