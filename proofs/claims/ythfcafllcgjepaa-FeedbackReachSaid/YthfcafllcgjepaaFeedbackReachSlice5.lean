import Derived.Test.YthfcafllcgjepaaFeedbackReachSlice3
import Derived.Test.YthfcafllcgjepaaFeedbackReachPts2
import Derived.Test.YthfcafllcgjepaaFeedbackReachF1
/- Layer 5, in whole numbers: a number by steps of 2^-14: no point is nearer than the one that is told. -/
namespace Go.Proofs.Ythfcafllcgjepaa.Slc
open Ieee Go.RowKit Go.Proofs.Ythfcafllcgjepaa.Q Go.Proofs.YthfcafllcgjepaaW.PrintWords Go.Proofs.YthfcafllcgjepaaW.PrintLast Go.Proofs.YthfcafllcgjepaaW.PrintMore Go.Proofs.Ythfcafllcgjepaa.Flt Go.Proofs.Ythfcafllcgjepaa.Feed Go.Proofs.Ythfcafllcgjepaa.Pt
def clI (n e : Int) : Int := if n < -e * 16384 then -e * 16384 else if e * 16384 < n then e * 16384 else n
theorem clI_box (n e : Int) (he : 0 ≤ e) : -e * 16384 ≤ clI n e ∧ clI n e ≤ e * 16384 := by unfold clI; split <;> (try split) <;> omega
def gapI (c : Int × Int) (p : Int × Int) : Int := (c.1 - p.1 * 16384) * (c.1 - p.1 * 16384) + (c.2 - p.2 * 16384) * (c.2 - p.2 * 16384)
theorem cl_Is {x : Nat} {n : Int} (h : Is x n 14) (e : Int) (c : Nat) (j : Nat) (hj : j = 1074) (P : Int) (hP : P = 2 ^ j) (hc : Cl x e c P) : Is c (clI n e) 14 := by
  have hv := hc.val h.1
  obtain ⟨i, hi⟩ : ∃ i, i = 1074 - 14 := ⟨_, rfl⟩
  have hV := h.2
  unfold Is
  rw [← hi] at hV ⊢
  have hPP : P = 16384 * 2 ^ i := by
    rw [hP, show j = 14 + i by omega, Int.pow_add]
    rfl
  have hpos : (0 : Int) < 2 ^ i := int_pow_pos i
  refine ⟨hc.fin, ?_⟩
  rw [hv, hV, hPP]
  generalize (2 : Int) ^ i = Q at *
  unfold clI
  rw [← Int.mul_assoc, ← Int.mul_assoc]
  have m1 : n * Q < -e * 16384 * Q ↔ n < -e * 16384 := ⟨fun h => Int.lt_of_mul_lt_mul_right h (Int.le_of_lt hpos), fun h => Int.mul_lt_mul_of_pos_right h hpos⟩
  have m2 : e * 16384 * Q < n * Q ↔ e * 16384 < n := ⟨fun h => Int.lt_of_mul_lt_mul_right h (Int.le_of_lt hpos), fun h => Int.mul_lt_mul_of_pos_right h hpos⟩
  by_cases q1 : n < -e * 16384
  · rw [if_pos (m1.2 q1), if_pos q1]
  · rw [if_neg (fun h => q1 (m1.1 h)), if_neg q1]
    by_cases q2 : e * 16384 < n
    · rw [if_pos (m2.2 q2), if_pos q2]
    · rw [if_neg (fun h => q2 (m2.1 h)), if_neg q2]
theorem toC_Is {p : Int} (hp : p.natAbs ≤ 15) : Is (floatOfInt .f64 p) (p * 16384) 14 := by
  have h := (Is.ofInt p (by omega)).raise 14 (by decide)
  rw [Nat.zero_add] at h
  exact h
theorem nabs_mul' {p q : Int} {a b : Nat} (hp : p.natAbs ≤ a) (hq : q.natAbs ≤ b) : (p * q).natAbs ≤ a * b := by
  rw [Int.natAbs_mul]
  exact Nat.mul_le_mul hp hq
theorem sq_le {a : Int} {b : Nat} (h : a.natAbs ≤ b) : (a * a).natAbs ≤ b * b := nabs_mul' h h
theorem gap_Is {c : Nat × Nat} {m : Int × Int} {p : Int × Int} (h1 : Is c.1 m.1 14) (h2 : Is c.2 m.2 14) (b1 : m.1.natAbs ≤ 245760) (b2 : m.2.natAbs ≤ 245760) (p1 : p.1.natAbs ≤ 15) (p2 : p.2.natAbs ≤ 15) : ∃ r, slice_gap.f c (toC p) = some r ∧ Is r (gapI m p) 28 := by
  obtain ⟨a, ha, ia⟩ := h1.sub (toC_Is p1) (by omega)
  obtain ⟨b, hb, ib⟩ := h2.sub (toC_Is p2) (by omega)
  have k1 := sq_le (a := m.1 - p.1 * 16384) (b := 491520) (by omega)
  have k2 := sq_le (a := m.2 - p.2 * 16384) (b := 491520) (by omega)
  obtain ⟨u, hu, iu⟩ := ia.mul ia (by omega) (by decide)
  obtain ⟨v, hv, iv⟩ := ib.mul ib (by omega) (by decide)
  obtain ⟨r, hr, ir⟩ := iu.add iv (by omega)
  refine ⟨r, ?_, ir⟩
  rw [slice_gap.f]
  show (floatBits .sub .f64 c.1 (floatOfInt .f64 p.1)).bind _ = _
  rw [ha, Option.bind_some]
  show (floatBits .sub .f64 c.2 (floatOfInt .f64 p.2)).bind _ = _
  rw [hb, Option.bind_some, hu, hv, Option.bind_some, Option.bind_some, hr]
  rfl
theorem cut_Is {s : Int} (h : Six s) {z : Nat × Nat} {n : Int × Int} (hz : Wd z) (h1 : Is z.1 n.1 14) (h2 : Is z.2 n.2 14) : ∃ c : Nat × Nat, slice_cut.f z (edge s) = some c ∧ slice_Cut.f s z = some (c, 0) ∧ Is c.1 (clI n.1 (edge s)) 14 ∧ Is c.2 (clI n.2 (edge s)) 14 := by
  have he := edge_ h
  obtain ⟨c, q1, q2, _, _, _⟩ := cut_yes h hz.1 hz.2 (fin_nn h1.1) (fin_nn h2.1)
  have q1' := q1
  rw [slice_cut.f, math_Min.f, Option.bind_some, math_Max.f, Option.bind_some, math_Min.f, Option.bind_some, math_Max.f, Option.bind_some] at q1'
  obtain ⟨j, hj⟩ : ∃ j, j = 1074 := ⟨_, rfl⟩
  obtain ⟨x, hx⟩ := clamp_ hz.1 (fin_nn h1.1) (edge s) ⟨he.1, he.2.1⟩ j hj _ rfl
  obtain ⟨y, hy⟩ := clamp_ hz.2 (fin_nn h2.1) (edge s) ⟨he.1, he.2.1⟩ j hj _ rfl
  rw [hx.pick, hy.pick] at q1'
  obtain rfl := Option.some.inj q1'
  exact ⟨(x, y), q1, q2, cl_Is h1 _ x j hj _ rfl hx, cl_Is h2 _ y j hj _ rfl hy⟩
def clP (s : Int) (n : Int × Int) : Int × Int := (clI n.1 (edge s), clI n.2 (edge s))
theorem clP_box {s : Int} (h : Six s) (n : Int × Int) : (clP s n).1.natAbs ≤ 245760 ∧ (clP s n).2.natAbs ≤ 245760 := by
  have he := edge_ h
  have a := clI_box n.1 (edge s) (by omega)
  have b := clI_box n.2 (edge s) (by omega)
  unfold clP
  constructor
  · show (clI n.1 (edge s)).natAbs ≤ _; omega
  · show (clI n.2 (edge s)).natAbs ≤ _; omega
theorem pt_box {s l : Int} (h : Six s) (h0 : 0 ≤ l) (h1 : l < s) : (pt s l).1.natAbs ≤ 15 ∧ (pt s l).2.natAbs ≤ 15 := by
  have := mem_ h (pt_mem h h0 h1)
  have := edge_ h
  omega
theorem least_l0 {s : Int} (h : Six s) {c : Nat × Nat} {m : Int × Int} (i1 : Is c.1 m.1 14) (i2 : Is c.2 m.2 14) (b1 : m.1.natAbs ≤ 245760) (b2 : m.2.natAbs ≤ 245760) (d : Nat) : ∀ (i b : Nat) (g : Nat), i + d = (pts s).length → b < i → Is g (gapI m (pt s b)) 28 → (∀ j : Nat, j < i → gapI m (pt s b) ≤ gapI m (pt s j)) →
    ∃ l : Nat, l < (pts s).length ∧ Ev (fun k => slice_nearest.l0 k c g ((pts s).map toC) (((pts s).map toC).length : Int) (i : Int) (b : Int) (toC (pt s b)) false) ((l : Int), toC (pt s l), false) ∧ ∀ j : Nat, j < (pts s).length → gapI m (pt s l) ≤ gapI m (pt s j) := by
  have hl := len_ h
  have hs : s ≤ 256 := by rcases h with rfl | rfl | rfl | rfl | rfl | rfl <;> decide
  induction d with
  | zero =>
    intro i b g hi hb hg hm
    exact ⟨b, by omega, Ev.stepTo _ (fun k _ => by rw [slice_nearest.l0, List.length_map, if_neg (by omega)]) (Ev.now _), fun j hj => hm j (by omega)⟩
  | succ d ih =>
    intro i b g hi hb hg hm
    have hw : wrap64 ((i : Int) + 1) = ((i + 1 : Nat) : Int) := by rw [wrap_id _ (by omega) (by omega)]; omega
    have hrd := rd_toC h (l := (i : Int)) (by omega) (by omega)
    have hp := pt_box h (l := (i : Int)) (by omega) (by omega)
    obtain ⟨r, hr, ir⟩ := gap_Is i1 i2 b1 b2 hp.1 hp.2
    have hlt := ir.lt hg
    by_cases q : gapI m (pt s i) < gapI m (pt s b)
    · rw [decide_eq_true q] at hlt
      obtain ⟨l, l1, l2, l3⟩ := ih (i + 1) i r (by omega) (by omega) ir (fun j hj => by
        rcases Nat.lt_or_ge j i with c | c
        · have := hm j c; omega
        · rw [show j = i by omega]; exact Int.le_refl _)
      exact ⟨l, l1, Ev.stepTo _ (fun k _ => by rw [slice_nearest.l0, List.length_map, if_pos (by omega), if_pos (by omega), if_pos (by omega), hrd, hr, Option.bind_some, if_pos hlt, hw]) l2, l3⟩
    · rw [decide_eq_false q] at hlt
      obtain ⟨l, l1, l2, l3⟩ := ih (i + 1) b g (by omega) (by omega) hg (fun j hj => by
        rcases Nat.lt_or_ge j i with c | c
        · exact hm j c
        · rw [show j = i by omega]; omega)
      exact ⟨l, l1, Ev.stepTo _ (fun k _ => by rw [slice_nearest.l0, List.length_map, if_pos (by omega), if_pos (by omega), if_pos (by omega), hrd, hr, Option.bind_some, if_neg (by rw [hlt]; decide), hw]) l2, l3⟩
theorem label_of {s l : Int} (h : Six s) (h0 : 0 ≤ l) (h1 : l < s) : Ev (fun k => points_Label.f k s (toC (pt s l))) (l, 0) := by
  have hl := len_ h
  have hs : s ≤ 256 := by rcases h with rfl | rfl | rfl | rfl | rfl | rfl <;> decide
  have hp := pt_box h h0 h1
  have go : ∀ (d i : Nat), i + d = (pts s).length → (i : Int) ≤ l → Ev (fun k => points_Label.l0 k (toC (pt s l)) ((pts s).map toC) (((pts s).map toC).length : Int) (i : Int)) (l, 0) := by
    intro d
    induction d with
    | zero => intro i hi hil; omega
    | succ d ih =>
      intro i hi hil
      have hq := pt_box h (l := (i : Int)) (by omega) (by omega)
      have hrd := rd_toC h (l := (i : Int)) (by omega) (by omega)
      have e1 : (FloatKind.f64.format.order (toC (pt s i)).1 (toC (pt s l)).1 == some .eq) = decide ((pt s i).1 = (pt s l).1) := (Is.ofInt _ (by omega)).eq (Is.ofInt _ (by omega))
      have e2 : (FloatKind.f64.format.order (toC (pt s i)).2 (toC (pt s l)).2 == some .eq) = decide ((pt s i).2 = (pt s l).2) := (Is.ofInt _ (by omega)).eq (Is.ofInt _ (by omega))
      by_cases c : (i : Int) = l
      · subst c
        exact Ev.stepTo _ (fun k _ => by rw [points_Label.l0, List.length_map, if_pos (by omega), if_pos (by omega), if_pos (by omega), hrd, e1, e2, if_pos (by simp)]) (Ev.now _)
      · have hne : ¬ (decide ((pt s i).1 = (pt s l).1) && decide ((pt s i).2 = (pt s l).2)) = true := by
          rw [Bool.and_eq_true, decide_eq_true_iff, decide_eq_true_iff]
          exact fun e => c (pt_inj h (by omega) (by omega) h0 h1 (Prod.ext e.1 e.2))
        exact Ev.stepTo _ (fun k _ => by rw [points_Label.l0, List.length_map, if_pos (by omega), if_pos (by omega), if_pos (by omega), hrd, e1, e2, if_neg hne, wrap_id _ (by omega) (by omega), show ((i : Int) + 1) = ((i + 1 : Nat) : Int) from by omega]) (ih (i + 1) (by omega) (by omega))
  exact Ev.congr (fun k => by rw [points_Label.f, all_ h, Option.bind_some, if_pos rfl]; rfl) (go _ 0 (Nat.zero_add _) (by omega))
theorem ax_near {c : Nat} {n e a : Int} {j : Nat} (hj : j = 1074) {P : Int} (hP : P = 2 ^ j) (hc : Is c n 14) (hx : Ax c e a P) (b : Int) (hb : b % 2 = 1) (b1 : -e ≤ b) (b2 : b ≤ e) (hn1 : -e * 16384 ≤ n) (hn2 : n ≤ e * 16384) : (n - a * 16384).natAbs ≤ (n - b * 16384).natAbs := by
  obtain ⟨i, hi⟩ : ∃ i, i = 1074 - 14 := ⟨_, rfl⟩
  have hV := hc.2
  rw [← hi] at hV
  have hPP : P = 16384 * 2 ^ i := by
    rw [hP, show j = 14 + i by omega, Int.pow_add]
    rfl
  have hpos : (0 : Int) < 2 ^ i := int_pow_pos i
  have up := hx.up
  have dn := hx.dn
  have := hx.odd
  have := hx.lo
  have := hx.hi
  rw [hV, hPP] at up dn
  generalize (2 : Int) ^ i = Q at *
  have u1 : n ≤ (a + 1) * 16384 ∨ a = e := by
    rcases up with u | u
    · left
      have : n * Q ≤ (a + 1) * 16384 * Q := by rw [Int.add_mul, Int.add_mul, Int.one_mul, Int.mul_assoc]; exact u
      exact Int.le_of_mul_le_mul_right this hpos
    · exact Or.inr u
  have d1 : (a - 1) * 16384 < n ∨ a = -e := by
    rcases dn with u | u
    · left
      have : (a - 1) * 16384 * Q < n * Q := by rw [Int.sub_mul, Int.sub_mul, Int.one_mul, Int.mul_assoc]; exact u
      exact Int.lt_of_mul_lt_mul_right this (Int.le_of_lt hpos)
    · exact Or.inr u
  rcases Int.lt_trichotomy a b with q | q | q
  · have : b ≥ a + 2 := by omega
    have : n ≤ (a + 1) * 16384 := by rcases u1 with u | u; exact u; omega
    rcases d1 with u | u <;> omega
  · subst q; exact Nat.le_refl _
  · have : b ≤ a - 2 := by omega
    have : (a - 1) * 16384 < n := by rcases d1 with u | u; exact u; omega
    rcases u1 with u | u <;> omega
theorem sq_mono {a b : Int} (h : a.natAbs ≤ b.natAbs) : a * a ≤ b * b := by
  rw [← Int.natAbs_mul_self, ← Int.natAbs_mul_self (a := b)]
  exact Int.ofNat_le.2 (Nat.mul_le_mul h h)
theorem decideI {s : Int} (h : Six s) {z : Nat × Nat} {n : Int × Int} (hz : Wd z) (h1 : Is z.1 n.1 14) (h2 : Is z.2 n.2 14) :
    ∃ l : Int, 0 ≤ l ∧ l < s ∧ Ev (fun k => slice_Decide.f k s z) (l, toC (pt s l), false, 0) ∧ ∀ m : Int, 0 ≤ m → m < s → gapI (clP s n) (pt s l) ≤ gapI (clP s n) (pt s m) := by
  have he := edge_ h
  have hl := len_ h
  have hbox := clP_box h n
  obtain ⟨x1, x2, x3⟩ := fin_yes hz.1 h1.1
  obtain ⟨y1, y2, y3⟩ := fin_yes hz.2 h2.1
  have hnan : slice_nan.f z = some false := by rw [slice_nan.f, x3, Option.bind_some, if_neg (by decide), y3]; rfl
  have hS : ∀ r : Int × (Nat × Nat) × Bool, Ev (fun k => if s = 32 ∨ s = 128 then slice_nearest.f k s (edge s) z else if s = 4 ∨ s = 16 ∨ s = 64 ∨ s = 256 then slice_axes.f k s (edge s) z else none) r → Ev (fun k => slice_Decide.f k s z) (r.1, r.2.1, r.2.2, 0) := fun r hr =>
    Ev.congr (fun k => by rw [slice_Decide.f, edge_yes h, Option.bind_some, if_pos rfl]) (Ev.bind (Ev.congr (fun k => by rw [slice_decide.f, hnan, Option.bind_some, if_neg (by decide), x2, Option.bind_some, if_neg (by decide), y2, Option.bind_some, if_neg (by decide)]) hr) (Ev.now _))
  by_cases c : s = 32 ∨ s = 128
  · have hs : 32 ≤ s ∧ s ≤ 128 := by rcases c with rfl | rfl <;> decide
    obtain ⟨cc, q1, q2, q3, q4⟩ := cut_Is h hz h1 h2
    have hp := pt_box h (l := ((0 : Nat) : Int)) (by omega) (by omega)
    obtain ⟨g, hg, ig⟩ := gap_Is (m := clP s n) q3 q4 hbox.1 hbox.2 hp.1 hp.2
    obtain ⟨l, l1, l2, l3⟩ := least_l0 h (m := clP s n) q3 q4 hbox.1 hbox.2 ((pts s).length - 1) 1 0 g (by omega) (by omega) ig (fun j hj => by rw [show j = 0 by omega]; exact Int.le_refl _)
    refine ⟨l, by omega, by omega, ?_, fun m m0 m1 => ?_⟩
    · refine hS (l, toC (pt s l), false) (Ev.congr (f := fun k => slice_nearest.l0 k cc 9218868437227405312 ((pts s).map toC) (((pts s).map toC).length : Int) 0 0 (0, 0) false) (fun k => by rw [if_pos c, slice_nearest.f, all_ h, Option.bind_some, q1, Option.bind_some, math_Inf.f, if_pos (by decide), Option.bind_some]) (Ev.stepTo _ (fun k _ => ?_) l2))
      have hinf : (FloatKind.f64.format.order g 9218868437227405312 == some .lt) = true := by
        obtain ⟨a, b, i, hd⟩ := fin_iff.1 ig.1
        rw [order_dec, hd, show dec 9218868437227405312 = .infinity false by decide +kernel]
        rfl
      have r0 : rdOf (0, 0) ((pts s).map toC) 0 = toC (pt s ((0 : Nat) : Int)) := rd_toC h (l := ((0 : Nat) : Int)) (by omega) (by omega)
      rw [slice_nearest.l0, List.length_map, if_pos (by omega), if_pos (by decide), if_pos (by omega), r0, hg, Option.bind_some, if_pos hinf, wrap_id _ (by omega) (by omega)]
      rfl
    · have := l3 m.toNat (by omega)
      rw [show ((m.toNat : Nat) : Int) = m by omega] at this
      exact this
  · have c2 : s = 4 ∨ s = 16 ∨ s = 64 ∨ s = 256 := by unfold Six at h; omega
    obtain ⟨j, hj⟩ : ∃ j, j = 1074 := ⟨_, rfl⟩
    obtain ⟨ca, ha⟩ := clamp_ hz.1 (fin_nn h1.1) (edge s) ⟨he.1, he.2.1⟩ j hj _ rfl
    obtain ⟨cb, hb⟩ := clamp_ hz.2 (fin_nn h2.1) (edge s) ⟨he.1, he.2.1⟩ j hj _ rfl
    obtain ⟨a, p1, p2, p3⟩ := axis_both (fin_nn h1.1) (edge s) ⟨he.1, he.2.1⟩ he.2.2 j hj _ rfl ha
    obtain ⟨b, r1, r2, r3⟩ := axis_both (fin_nn h2.1) (edge s) ⟨he.1, he.2.1⟩ he.2.2 j hj _ rfl hb
    have ia := cl_Is h1 _ ca j hj _ rfl ha
    have ib := cl_Is h2 _ cb j hj _ rfl hb
    obtain ⟨l, l0, l1, l2⟩ := pt_of_mem h (full_mem c2 p3.odd r3.odd p3.lo p3.hi r3.lo r3.hi)
    refine ⟨l, l0, l1, hS (l, toC (pt s l), false) ?_, fun m m0 m1 => ?_⟩
    · have hlab := label_of h l0 l1
      rw [l2] at hlab ⊢
      exact Ev.congr (fun k => by rw [if_neg c, if_pos c2, slice_axes.f]) (Ev.bind p1 (Ev.bind r1 (Ev.bind hlab (Ev.congr (fun _ => rfl) (Ev.now (l, (floatOfInt .f64 a, floatOfInt .f64 b), false))))))
    · rw [l2]
      have hq := mem_ h (pt_mem h m0 m1)
      have k1 := clI_box n.1 (edge s) (by omega)
      have k2 := clI_box n.2 (edge s) (by omega)
      have n1 := ax_near hj rfl ia p3 (pt s m).1 hq.1 hq.2.2.1 hq.2.2.2.1 k1.1 k1.2
      have n2 := ax_near hj rfl ib r3 (pt s m).2 hq.2.1 hq.2.2.2.2.1 hq.2.2.2.2.2 k2.1 k2.2
      exact Int.add_le_add (sq_mono n1) (sq_mono n2)
theorem size_f (n : Int) : ∃ s, foghornlaw05_size.f n = some s ∧ Six s := by
  obtain ⟨i, hi, h0, h1⟩ : ∃ i : Int, Int.tmod (wrap64 (Int.tmod n 6 + 6)) 6 = i ∧ 0 ≤ i ∧ i < 6 := by
    have a1 := Int.tmod_lt_of_pos n (b := 6) (by decide)
    have a2 : -6 < Int.tmod n 6 := by
      have := Int.lt_tmod_of_pos n (b := 6) (by decide)
      exact this
    refine ⟨_, rfl, ?_, ?_⟩
    · rw [wrap_id _ (by omega) (by omega)]; exact Int.tmod_nonneg _ (by omega)
    · rw [wrap_id _ (by omega) (by omega)]; exact Int.tmod_lt_of_pos _ (by decide)
  have hf : foghornlaw05_size.f n = if 0 ≤ i then (if i < 6 then some (rd [4, 16, 32, 64, 128, 256] i) else none) else none := by
    rw [foghornlaw05_size.f, Option.bind_some, hi]; rfl
  rw [if_pos h0, if_pos h1] at hf
  refine ⟨_, hf, ?_⟩
  rcases (show i = 0 ∨ i = 1 ∨ i = 2 ∨ i = 3 ∨ i = 4 ∨ i = 5 by omega) with rfl | rfl | rfl | rfl | rfl | rfl <;> decide
theorem awake_ev : Ev (fun k => foghornlaw05_awake.f k) true := Ev.of (fun k => foghornlaw05_awake.mono k) (k := 300) (by decide +kernel)
end Go.Proofs.Ythfcafllcgjepaa.Slc
