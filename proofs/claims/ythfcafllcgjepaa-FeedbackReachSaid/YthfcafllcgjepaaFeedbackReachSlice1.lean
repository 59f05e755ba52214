import Derived.Test.YthfcafllcgjepaaFeedbackReachFeed1
import Derived.Test.YthfcafllcgjepaaFeedbackReachF1
/- Layer 5: a part brought to an edge, the odd number that is nearest, gaps: the program and the document alike. -/
namespace Go.Proofs.Ythfcafllcgjepaa.Slc
open Ieee Go.RowKit Go.Proofs.Ythfcafllcgjepaa.Q Go.Proofs.YthfcafllcgjepaaW.PrintWords Go.Proofs.YthfcafllcgjepaaW.PrintLast Go.Proofs.YthfcafllcgjepaaW.PrintMore Go.Proofs.Ythfcafllcgjepaa.Flt Go.Proofs.Ythfcafllcgjepaa.Feed
def rmag (r : Nat) : Nat := if r < 2 ^ 52 then r else (2 ^ 52 + r % 2 ^ 52) * 2 ^ (r / 2 ^ 52 - 1)
theorem rmag_lt {r r' : Nat} (h : r < r') : rmag r < rmag r' := by
  unfold rmag
  by_cases h1 : r < 2 ^ 52
  · rw [if_pos h1]
    by_cases h2 : r' < 2 ^ 52
    · rw [if_pos h2]; exact h
    · rw [if_neg h2]
      have h3 : 1 ≤ 2 ^ (r' / 2 ^ 52 - 1) := Nat.two_pow_pos _
      exact Nat.lt_of_lt_of_le (Nat.lt_of_lt_of_le h1 (Nat.le_add_right _ _)) (Nat.le_mul_of_pos_right _ h3)
  · rw [if_neg h1, if_neg (by omega)]
    have hm : r % 2 ^ 52 < 2 ^ 52 := Nat.mod_lt _ (by decide)
    rcases Nat.lt_or_ge (r / 2 ^ 52) (r' / 2 ^ 52) with h2 | h2
    · obtain ⟨a, ha⟩ : ∃ a, r / 2 ^ 52 - 1 = a := ⟨_, rfl⟩
      obtain ⟨b, hb⟩ : ∃ b, r' / 2 ^ 52 - 1 = a + 1 + b := ⟨r' / 2 ^ 52 - 1 - (a + 1), by omega⟩
      rw [ha, hb]
      have h3 : (2 ^ 52 + r % 2 ^ 52) * 2 ^ a < 2 ^ 53 * 2 ^ a := (Nat.mul_lt_mul_right (Nat.two_pow_pos a)).2 (by omega)
      have h4 : 2 ^ 53 * 2 ^ a ≤ 2 ^ 52 * 2 ^ (a + 1 + b) := by
        rw [show (2 : Nat) ^ 53 = 2 ^ 52 * 2 by decide, Nat.mul_assoc, Nat.mul_comm 2 (2 ^ a), ← Nat.pow_succ]
        exact Nat.mul_le_mul_left _ (Nat.pow_le_pow_right (by decide) (by omega))
      exact Nat.lt_of_lt_of_le h3 (Nat.le_trans h4 (Nat.mul_le_mul_right _ (Nat.le_add_right _ _)))
    · have h3 : r / 2 ^ 52 = r' / 2 ^ 52 := by omega
      rw [h3]
      exact (Nat.mul_lt_mul_right (Nat.two_pow_pos _)).2 (by omega)
theorem V_rmag {x : Nat} (hx : fin x) : V x = (if x / 2 ^ 63 % 2 == 1 then -1 else 1) * (rmag (x % 2 ^ 63) : Int) := by
  unfold fin at hx
  unfold V rmag
  rw [read_eq] at *
  split at hx
  · rename_i h
    rw [if_pos h, if_pos h]
    show signed _ _ ((-1074 : Int) + 1074).toNat = _
    rw [sgn_nat]
    simp
  · rename_i h
    rw [if_neg h, if_neg h]
    split at hx
    · rename_i h2
      rw [if_pos h2]
      show signed _ _ _ = _
      rw [sgn_nat, show ((-1074 + ((x % 2 ^ 63 / 2 ^ 52 - 1 : Nat) : Int)) + 1074).toNat = x % 2 ^ 63 / 2 ^ 52 - 1 by omega]
    · split at hx <;> cases hx
theorem uniq {x y : Nat} (hx : fin x) (hy : fin y) (hx6 : x < 2 ^ 64) (hy6 : y < 2 ^ 64) (h : V x = V y) (h0 : V x ≠ 0) : x = y := by
  have h1 := V_rmag hx
  have h2 := V_rmag hy
  have hr : rmag (x % 2 ^ 63) = rmag (y % 2 ^ 63) ∧ (x / 2 ^ 63 % 2 == 1) = (y / 2 ^ 63 % 2 == 1) := by
    rw [h1] at h0
    rw [h1, h2] at h
    clear h1 h2 hx6 hy6
    generalize rmag (x % 2 ^ 63) = p at *
    generalize rmag (y % 2 ^ 63) = q at *
    generalize (x / 2 ^ 63 % 2 == 1) = a at *
    generalize (y / 2 ^ 63 % 2 == 1) = b at *
    cases a <;> cases b <;> simp only [if_true, Bool.false_eq_true, if_false, Int.one_mul, Int.neg_mul] at h h0
    · exact ⟨by omega, rfl⟩
    · omega
    · omega
    · exact ⟨by omega, rfl⟩
  have h3 : x % 2 ^ 63 = y % 2 ^ 63 := by
    rcases Nat.lt_trichotomy (x % 2 ^ 63) (y % 2 ^ 63) with c | c | c
    · have := rmag_lt c; omega
    · exact c
    · have := rmag_lt c; omega
  have h4 : x / 2 ^ 63 % 2 = y / 2 ^ 63 % 2 := by
    have := hr.2
    have a1 : x / 2 ^ 63 < 2 := by omega
    have a2 : y / 2 ^ 63 < 2 := by omega
    rcases (show x / 2 ^ 63 = 0 ∨ x / 2 ^ 63 = 1 by omega) with e1 | e1 <;> rcases (show y / 2 ^ 63 = 0 ∨ y / 2 ^ 63 = 1 by omega) with e2 | e2 <;> rw [e1, e2] at this ⊢ <;> first | rfl | exact absurd this (by decide)
  omega
theorem ofInt_lt (n : Int) : floatOfInt .f64 n < 2 ^ 64 := by
  have h := floatOfInt_wf .f64 n
  simpa [Lit.wf] using h
theorem neg_lt {x : Nat} (hx : x < 2 ^ 64) : Op.negFloat .f64 x < 2 ^ 64 := by
  unfold Op.negFloat
  exact Nat.xor_lt_two_pow hx (by decide)
def nn (x : Nat) : Prop := ∀ s t, dec x ≠ .nan s t
theorem fin_nn {x : Nat} (h : fin x) : nn x := fun s t e => by unfold Flt.fin at h; rw [e] at h; cases h
theorem dec_enc (neg : Bool) (mag : Nat) (place : Int) : (∃ m e, dec (FloatKind.f64.encode (.number neg mag place)) = .number neg m e) ∨ dec (FloatKind.f64.encode (.number neg mag place)) = .infinity neg := by
  have hs : double.signWeight = 2 ^ 63 := by decide
  have hb : double.binade = 2 ^ 52 := by decide
  have hi : double.infRung = 2047 * 2 ^ 52 := by decide
  obtain ⟨rung, hr, he⟩ : ∃ rung, rung ≤ 2047 * 2 ^ 52 ∧ double.nearest neg mag place = double.word neg rung := by
    unfold Format.nearest
    by_cases h0 : mag = 0
    · rw [if_pos h0]; exact ⟨0, by omega, rfl⟩
    · rw [if_neg h0]; exact ⟨_, by rw [hi]; exact Nat.min_le_right _ _, rfl⟩
  show (∃ m e, dec (double.nearest neg mag place) = _) ∨ dec (double.nearest neg mag place) = _
  rw [he]
  by_cases c : rung < 2047 * 2 ^ 52
  · refine Or.inl ?_
    rw [dec_word _ _ c]
    split <;> exact ⟨_, _, rfl⟩
  · have : rung = 2047 * 2 ^ 52 := by omega
    subst this
    refine Or.inr ?_
    cases neg
    · decide +kernel
    · decide +kernel
theorem sub_nn {x y : Nat} (hx : fin x) (hy : fin y) : ∃ r, floatBits .sub .f64 x y = some r ∧ nn r := by
  obtain ⟨s, m, e, hd⟩ := fin_iff.1 hx
  obtain ⟨s', m', e', hd'⟩ := fin_iff.1 hy
  refine ⟨_, show ((dec x).sum (dec y).opposite).map double.write = _ from by rw [hd, hd']; rfl, fun a b => not_nan⟩
theorem sq_nn {x : Nat} (hx : nn x) : ∃ r, floatBits .mul .f64 x x = some r ∧ ((∃ m e, dec r = .number false m e) ∨ dec r = .infinity false) := by
  cases hd : dec x with
  | nan s t => exact absurd hd (hx s t)
  | infinity s =>
    refine ⟨_, show ((dec x).product (dec x)).map double.write = _ from by rw [hd]; rfl, Or.inr ?_⟩
    rw [Bool.xor_self]
    decide +kernel
  | number s m e =>
    refine ⟨_, show ((dec x).product (dec x)).map double.write = _ from by rw [hd]; rfl, ?_⟩
    rw [Bool.xor_self]
    exact dec_enc false _ _
theorem add_nn {x y : Nat} (hx : (∃ m e, dec x = .number false m e) ∨ dec x = .infinity false) (hy : (∃ m e, dec y = .number false m e) ∨ dec y = .infinity false) : ∃ r, floatBits .add .f64 x y = some r ∧ nn r := by
  have hinf : nn (double.write (.infinity false)) := fun s t h => by
    rw [show dec (double.write (.infinity false)) = .infinity false by decide +kernel] at h
    cases h
  rcases hx with ⟨m, e, hd⟩ | hd <;> rcases hy with ⟨m', e', hd'⟩ | hd'
  · exact ⟨_, show ((dec x).sum (dec y)).map double.write = _ from by rw [hd, hd']; rfl, fun a b => not_nan⟩
  · exact ⟨_, show ((dec x).sum (dec y)).map double.write = _ from by rw [hd, hd']; rfl, hinf⟩
  · exact ⟨_, show ((dec x).sum (dec y)).map double.write = _ from by rw [hd, hd']; rfl, hinf⟩
  · exact ⟨_, show ((dec x).sum (dec y)).map double.write = _ from by rw [hd, hd']; rfl, hinf⟩
theorem gap_some {z p : Nat × Nat} (h1 : fin z.1) (h2 : fin z.2) (h3 : fin p.1) (h4 : fin p.2) : ∃ r, slice_gap.f z p = some r ∧ foghornref05_gap.f z p = some r ∧ (FloatKind.f64.format.order r r == some .eq) = true := by
  obtain ⟨a, ha, na⟩ := sub_nn h1 h3
  obtain ⟨b, hb, nb⟩ := sub_nn h2 h4
  obtain ⟨c, hc, nc⟩ := sq_nn na
  obtain ⟨d, hd, nd⟩ := sq_nn nb
  obtain ⟨r, hr, nr⟩ := add_nn nc nd
  refine ⟨r, ?_, ?_, order_self nr⟩
  · rw [slice_gap.f, ha, hb, Option.bind_some, Option.bind_some, hc, hd, Option.bind_some, Option.bind_some, hr]; rfl
  · rw [foghornref05_gap.f, ha, hb, Option.bind_some, Option.bind_some, hc, hd, Option.bind_some, Option.bind_some, hr]; rfl
theorem pick_eq {neg : Bool} {win : Ordering} {x y : Nat} (hx : dec x ≠ .infinity neg) (hy : dec y ≠ .infinity neg) (nx : nn x) (ny : nn y) (hz : V x ≠ 0 ∨ V y ≠ 0) : pickF neg win x y = if (FloatKind.f64.format.order x y == some win) = true then x else y := by
  have z : ∀ w, V w ≠ 0 → (dec w).isZero = false := fun w hw => by
    cases h : dec w with
    | number s m e =>
      cases m with
      | zero => exact absurd (by rw [V_of h, sgn_nat, Nat.zero_mul]; cases s <;> rfl) hw
      | succ m => rfl
    | infinity s => rfl
    | nan s t => rfl
  have n : ∀ w, nn w → (dec w).isNaN = false := fun w hw => by
    cases h : dec w with
    | number s m e => rfl
    | infinity s => rfl
    | nan s t => exact absurd h (hw s t)
  unfold pickF
  show (if (dec x == .infinity neg || dec y == .infinity neg) = true then _ else if ((dec x).isNaN || (dec y).isNaN) = true then _ else if ((dec x).isZero && (dec y).isZero) = true then _ else _) = _
  rw [if_neg, if_neg, if_neg]
  · rfl
  · rcases hz with h | h
    · rw [z x h, Bool.false_and]; exact Bool.false_ne_true
    · rw [z y h, Bool.and_false]; exact Bool.false_ne_true
  · rw [n x nx, n y ny]; decide
  · rw [Bool.or_eq_true, beq_iff_eq, beq_iff_eq]; rintro (h | h)
    · exact hx h
    · exact hy h
theorem order_dec (x y : Nat) : FloatKind.f64.format.order x y = (dec x).order (dec y) := rfl
structure Cl (x : Nat) (e : Int) (c : Nat) (P : Int) : Prop where
  ref : foghornref05_cut.f x e = some c
  pick : pickF false .gt (Op.negFloat .f64 (floatOfInt .f64 e)) (pickF true .lt x (floatOfInt .f64 e)) = c
  fin : Flt.fin c
  lt : c < 2 ^ 64
  lo : -e * P ≤ V c
  hi : V c ≤ e * P
  gt : ∀ k : Int, -e ≤ k → k < e → (FloatKind.f64.format.order x (floatOfInt .f64 k) == some .gt) = decide (k * P < V c)
  val : Flt.fin x → V c = if V x < -e * P then -e * P else if e * P < V x then e * P else V x
theorem gt_inf {y : Nat} (hy : fin y) (s : Bool) (x : Nat) (hx : dec x = .infinity s) : FloatKind.f64.format.order x y = some (if s then .lt else .gt) := by
  obtain ⟨a, m, i, hd⟩ := fin_iff.1 hy
  rw [order_dec, hx, hd]; rfl
theorem clamp_ {x : Nat} (hx : x < 2 ^ 64) (hn : nn x) (e : Int) (he : 1 ≤ e ∧ e ≤ 15) (j : Nat) (hj : j = 1074) (P : Int) (hP : P = 2 ^ j) : ∃ c, Cl x e c P := by
  have hP0 : 0 < P := hP ▸ int_pow_pos j
  have val : ∀ k : Int, k.natAbs < 2 ^ 53 → fin (floatOfInt .f64 k) ∧ V (floatOfInt .f64 k) = k * P := fun k hk => by have := fofInt_ k hk j hj; rw [hP]; exact this
  have hE := val e (by omega)
  obtain ⟨E, hEq⟩ : ∃ E, E = floatOfInt .f64 e := ⟨_, rfl⟩
  have hE6 : E < 2 ^ 64 := hEq ▸ ofInt_lt e
  rw [← hEq] at hE
  have hN1 : fin (Op.negFloat .f64 E) := fin_neg.2 hE.1
  have hN2 : V (Op.negFloat .f64 E) = -e * P := by rw [V_neg, hE.2, Int.neg_mul]
  have hN6 : Op.negFloat .f64 E < 2 ^ 64 := neg_lt hE6
  obtain ⟨N, hNq⟩ : ∃ N, N = Op.negFloat .f64 E := ⟨_, rfl⟩
  rw [← hNq] at hN1 hN2 hN6
  have ePos : 0 < e * P := Int.mul_pos (by omega) hP0
  have eNeg : -e * P < 0 := by rw [Int.neg_mul]; omega
  have ninf : ∀ {w : Nat}, fin w → ∀ s, dec w ≠ .infinity s := fun h s q => by unfold Flt.fin at h; rw [q] at h; cases h
  have mulLt : ∀ a b : Int, a < b → a * P < b * P := fun a b h => Int.mul_lt_mul_of_pos_right h hP0
  have mulLe : ∀ a b : Int, a ≤ b → a * P ≤ b * P := fun a b h => Int.mul_le_mul_of_nonneg_right h (Int.le_of_lt hP0)
  have hmid : pickF false .gt N E = E := by
    rw [pick_eq (ninf hN1 _) (ninf hE.1 _) (fin_nn hN1) (fin_nn hE.1) (Or.inr (by rw [hE.2]; omega)), gt_fin hN1 hE.1, if_neg (by rw [decide_eq_true_iff, hN2, hE.2]; omega)]
  cases hd : dec x with
  | nan s t => exact absurd hd (hn s t)
  | infinity s =>
    cases s with
    | true =>
      have hw : dec (FloatKind.f64.encode (.infinity true)) = .infinity true := by decide +kernel
      refine ⟨N, ⟨?_, ?_, hN1, hN6, by omega, by omega, fun k h1 h2 => ?_, fun h => absurd hd (ninf h _)⟩⟩
      · rw [foghornref05_cut.f, ← hEq, ← hNq, gt_inf hN1 true x hd]; rfl
      · rw [← hEq, ← hNq]
        have h1 : pickF true .lt x E = FloatKind.f64.encode (.infinity true) := by
          unfold pickF
          show (if (dec x == .infinity true || dec E == .infinity true) = true then _ else _) = _
          rw [if_pos (by rw [hd]; rfl)]
        rw [h1, pick_eq (ninf hN1 _) (by rw [hw]; exact fun h => by cases h) (fin_nn hN1) (fun s t h => by rw [hw] at h; cases h) (Or.inl (by rw [hN2]; omega)), if_pos]
        obtain ⟨a, m, i, hd'⟩ := fin_iff.1 hN1
        rw [order_dec, hw, hd']; rfl
      · have h3 := mulLe (-e) k h1
        rw [gt_inf (val k (by omega)).1 true x hd, hN2, decide_eq_false (by omega)]; rfl
    | false =>
      refine ⟨E, ⟨?_, ?_, hE.1, hE6, by omega, by omega, fun k h1 h2 => ?_, fun h => absurd hd (ninf h _)⟩⟩
      · rw [foghornref05_cut.f, ← hEq, ← hNq, gt_inf hN1 false x hd, gt_inf hE.1 false x hd]; rfl
      · rw [← hEq, ← hNq]
        have h1 : pickF true .lt x E = E := by
          rw [pick_eq (by rw [hd]; exact fun h => by cases h) (ninf hE.1 _) hn (fin_nn hE.1) (Or.inr (by rw [hE.2]; omega)), gt_inf hE.1 false x hd]; rfl
        rw [h1, hmid]
      · have h3 := mulLt k e h2
        rw [gt_inf (val k (by omega)).1 false x hd, hE.2, decide_eq_true (by omega)]; rfl
  | number s m i =>
    have hf : fin x := fin_iff.2 ⟨s, m, i, hd⟩
    have h1 : pickF true .lt x E = if V x < e * P then x else E := by
      rw [pick_eq (ninf hf _) (ninf hE.1 _) hn (fin_nn hE.1) (Or.inr (by rw [hE.2]; omega)), lt_fin hf hE.1, hE.2]
      simp only [decide_eq_true_eq]
    have gt' : ∀ (c : Nat), V c = (if V x < -e * P then -e * P else if e * P < V x then e * P else V x) → ∀ k : Int, -e ≤ k → k < e → (FloatKind.f64.format.order x (floatOfInt .f64 k) == some .gt) = decide (k * P < V c) := fun c hc k h2 h3 => by
      have hk := val k (by omega)
      have a1 := mulLe (-e) k h2
      have a2 := mulLt k e h3
      rw [gt_fin hf hk.1, hk.2, hc]
      by_cases q1 : V x < -e * P
      · rw [if_pos q1, decide_eq_false (by omega), decide_eq_false (by omega)]
      · rw [if_neg q1]
        by_cases q2 : e * P < V x
        · rw [if_pos q2, decide_eq_true (by omega), decide_eq_true (by omega)]
        · rw [if_neg q2]
    have cutv : foghornref05_cut.f x e = some (if V x < -e * P then N else if e * P < V x then E else x) := by
      rw [foghornref05_cut.f, ← hEq, ← hNq, lt_fin hf hN1, gt_fin hf hE.1, hN2, hE.2]
      by_cases q1 : V x < -e * P
      · rw [if_pos (decide_eq_true q1), if_pos q1]
      · rw [if_neg (by rw [decide_eq_true_iff]; exact q1), if_neg q1]
        by_cases q2 : e * P < V x
        · rw [if_pos (decide_eq_true q2), if_pos q2]
        · rw [if_neg (by rw [decide_eq_true_iff]; exact q2), if_neg q2]
    by_cases q1 : V x < -e * P
    · rw [if_pos q1] at cutv
      refine ⟨N, ⟨cutv, ?_, hN1, hN6, by omega, by omega, gt' N (by rw [if_pos q1, hN2]), fun _ => by rw [if_pos q1, hN2]⟩⟩
      rw [← hEq, ← hNq, h1, if_pos (by omega), pick_eq (ninf hN1 _) (ninf hf _) (fin_nn hN1) hn (Or.inl (by rw [hN2]; omega)), gt_fin hN1 hf, hN2, if_pos (decide_eq_true q1)]
    · rw [if_neg q1] at cutv
      by_cases q2 : e * P < V x
      · rw [if_pos q2] at cutv
        refine ⟨E, ⟨cutv, ?_, hE.1, hE6, by omega, by omega, gt' E (by rw [if_neg q1, if_pos q2, hE.2]), fun _ => by rw [if_neg q1, if_pos q2, hE.2]⟩⟩
        rw [← hEq, ← hNq, h1, if_neg (by omega), hmid]
      · rw [if_neg q2] at cutv
        refine ⟨x, ⟨cutv, ?_, hf, hx, by omega, by omega, gt' x (by rw [if_neg q1, if_neg q2]), fun _ => by rw [if_neg q1, if_neg q2]⟩⟩
        rw [← hEq, ← hNq, h1]
        by_cases q3 : V x < e * P
        · rw [if_pos q3, pick_eq (ninf hN1 _) (ninf hf _) (fin_nn hN1) hn (Or.inl (by rw [hN2]; omega)), gt_fin hN1 hf, hN2, if_neg (by rw [decide_eq_true_iff]; exact q1)]
        · rw [if_neg q3, hmid]
          exact uniq hE.1 hf hE6 hx (by rw [hE.2]; omega) (by rw [hE.2]; omega)
end Go.Proofs.Ythfcafllcgjepaa.Slc
