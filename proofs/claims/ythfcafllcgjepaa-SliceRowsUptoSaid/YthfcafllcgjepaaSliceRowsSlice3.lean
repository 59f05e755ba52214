import Derived.Test.YthfcafllcgjepaaSliceRowsPureSliceAxes
import Derived.Test.YthfcafllcgjepaaSliceRowsF1
/- Layer 5: decisions: the program and the document alike. -/
namespace Go.Proofs.Ythfcafllcgjepaa.Slc
open Ieee Go.RowKit Go.Proofs.Ythfcafllcgjepaa.Q Go.Proofs.YthfcafllcgjepaaW.PrintWords Go.Proofs.YthfcafllcgjepaaW.PrintLast Go.Proofs.YthfcafllcgjepaaW.PrintMore Go.Proofs.Ythfcafllcgjepaa.Flt Go.Proofs.Ythfcafllcgjepaa.Feed Go.Proofs.Ythfcafllcgjepaa.Pt

/-! ## small numbers stay small -/
def Sm (x : Nat) (c : Nat) : Prop := fin x ∧ (V x).natAbs < 2 ^ (1074 + c)
theorem cut_top (way : Toward) (neg : Bool) (n d b : Nat) (h : n < 2 ^ (b + d)) : way.cut neg n d ≤ 2 ^ b := by
  unfold Toward.cut
  dsimp only
  have h2 : ∀ b : Bool, b.toNat ≤ 1 := fun b => by cases b <;> decide
  rw [Nat.shiftLeft_eq, Nat.one_mul]
  rcases Nat.lt_or_ge d (n.log2 + 2) with c | c
  · rw [Nat.min_eq_left (by omega)]
    have h3 : n / 2 ^ d < 2 ^ b := Nat.div_lt_of_lt_mul (by rw [Nat.mul_comm, ← Nat.pow_add]; exact h)
    exact Nat.le_trans (Nat.add_le_add_left (h2 _) _) h3
  · rw [Nat.min_eq_right c]
    have h1 : n < 2 ^ (n.log2 + 2) := Nat.lt_trans Nat.lt_log2_self (Nat.pow_lt_pow_right (by decide) (by omega))
    rw [Nat.div_eq_of_lt h1, Nat.zero_add]
    exact Nat.le_trans (h2 _) (Nat.two_pow_pos b)
theorem V_rung (neg : Bool) (rung : Nat) (h : rung < 2047 * 2 ^ 52) : fin (double.word neg rung) ∧ (V (double.word neg rung)).natAbs < 2 ^ (52 + rung / 2 ^ 52) := by
  have hd := dec_word neg rung h
  by_cases c : rung < 2 ^ 52
  · rw [if_pos c] at hd
    refine ⟨fin_iff.2 ⟨_, _, _, hd⟩, ?_⟩
    rw [V_of hd, sgn_abs, show ((-1074 : Int) + 1074).toNat = 0 by decide, Nat.pow_zero, Nat.mul_one, Nat.div_eq_of_lt c]
    exact c
  · rw [if_neg c] at hd
    refine ⟨fin_iff.2 ⟨_, _, _, hd⟩, ?_⟩
    rw [V_of hd, sgn_abs]
    obtain ⟨q, hq⟩ : ∃ q, rung / 2 ^ 52 = q + 1 := ⟨rung / 2 ^ 52 - 1, by omega⟩
    rw [hq, show ((-1074 : Int) + ((q + 1 - 1 : Nat) : Int) + 1074).toNat = q by omega, show 52 + (q + 1) = 53 + q by omega, Nat.pow_add]
    exact (Nat.mul_lt_mul_right (Nat.two_pow_pos q)).2 (by have : rung % 2 ^ 52 < 2 ^ 52 := Nat.mod_lt _ (by decide); omega)
theorem enc_small (neg : Bool) (mag : Nat) (place : Int) (c T : Nat) (hT : T = 2148) (hp : -2148 ≤ place) (h : mag * 2 ^ (place + 2148).toNat < 2 ^ (c + T)) (hc : c ≤ 800) : Sm (FloatKind.f64.encode (.number neg mag place)) (c + 1) := by
  have hs : double.signWeight = 2 ^ 63 := by decide
  have hb : double.binade = 2 ^ 52 := by decide
  have hi : double.infRung = 2047 * 2 ^ 52 := by decide
  have hf : double.fractionBits = 52 := rfl
  show Sm (double.nearest neg mag place) (c + 1)
  unfold Format.nearest Sm
  by_cases h0 : mag = 0
  · rw [if_pos h0]
    have := V_rung neg 0 (by omega)
    exact ⟨this.1, Nat.lt_of_lt_of_le this.2 (Nat.pow_le_pow_right (by decide) (by omega))⟩
  · rw [if_neg h0, hb, hi, hf, double_least]
    have hlog : place + mag.log2 < c := by
      have h1 : 2 ^ (mag.log2 + (place + 2148).toNat) ≤ mag * 2 ^ (place + 2148).toNat := by rw [Nat.pow_add]; exact Nat.mul_le_mul_right _ (Nat.log2_self_le h0)
      have h2 := (Nat.pow_lt_pow_iff_right (a := 2) (by decide)).1 (Nat.lt_of_le_of_lt h1 h)
      omega
    obtain ⟨last, hl⟩ : ∃ last : Int, last = max (place + mag.log2 - ((52 : Nat) : Int)) (-1074) := ⟨_, rfl⟩
    have hl2 : last ≤ c - 53 ∧ -1074 ≤ last ∧ place + mag.log2 - 52 ≤ last := by omega
    dsimp only
    rw [← hl]
    have hkept : Toward.even.cut neg (mag <<< (place - last).toNat) (last - place).toNat ≤ 2 ^ 53 := by
      apply cut_top
      rw [Nat.shiftLeft_eq]
      have h3 : mag < 2 ^ (mag.log2 + 1) := Nat.lt_log2_self
      have h4 : mag * 2 ^ (place - last).toNat < 2 ^ (mag.log2 + 1 + (place - last).toNat) := by rw [Nat.pow_add]; exact (Nat.mul_lt_mul_right (Nat.two_pow_pos _)).2 h3
      exact Nat.lt_of_lt_of_le h4 (Nat.pow_le_pow_right (by decide) (by omega))
    obtain ⟨kept, hk⟩ : ∃ kept, kept = Toward.even.cut neg (mag <<< (place - last).toNat) (last - place).toNat := ⟨_, rfl⟩
    rw [← hk] at hkept ⊢
    have e53 : (2 : Nat) ^ 53 = 2 * 2 ^ 52 := by decide
    rw [e53] at hkept
    obtain ⟨n, hn⟩ : ∃ n : Nat, n = (last - -1074).toNat := ⟨_, rfl⟩
    rw [← hn]
    have hr : n * 2 ^ 52 + kept ≤ (n + 2) * 2 ^ 52 := by rw [Nat.add_mul]; omega
    have hn2 : n + 2 < 2047 := by omega
    have hlt : (n + 2) * 2 ^ 52 < 2047 * 2 ^ 52 := (Nat.mul_lt_mul_right (by decide)).2 hn2
    have hmin : min (n * 2 ^ 52 + kept) (2047 * 2 ^ 52) = n * 2 ^ 52 + kept := Nat.min_eq_left (Nat.le_of_lt (Nat.lt_of_le_of_lt hr hlt))
    rw [hmin]
    have := V_rung neg (n * 2 ^ 52 + kept) (Nat.lt_of_le_of_lt hr hlt)
    refine ⟨this.1, Nat.lt_of_lt_of_le this.2 (Nat.pow_le_pow_right (by decide) ?_)⟩
    have hq : (n * 2 ^ 52 + kept) / 2 ^ 52 ≤ n + 2 := Nat.div_le_of_le_mul (by rw [Nat.mul_comm (2 ^ 52) (n + 2)]; exact hr)
    have hn3 : n ≤ c + 1021 := by clear hq hr hlt hmin hkept h hk; omega
    exact (show ∀ q : Nat, q ≤ n + 2 → 52 + q ≤ 1074 + (c + 1) from fun q hq => by clear hr hlt hmin hkept h hk; omega) _ hq
theorem mul_unit (m e1 T : Nat) (e : Int) (he : -1074 ≤ e) (hT : T = 1074) (h : e1 = (e + 1074).toNat) : m * 2 ^ (e + 2148).toNat = m * 2 ^ e1 * 2 ^ T := by
  rw [Nat.mul_assoc, ← Nat.pow_add]
  congr 2
  omega
theorem sum_small {a b : Datum} (ha : finD a = true) (hb : finD b = true) (hpa : ∀ s m e, a = .number s m e → -1074 ≤ e) (hpb : ∀ s m e, b = .number s m e → -1074 ≤ e) (c : Nat) (h : (valD a + valD b).natAbs < 2 ^ (1074 + c)) (hc : c ≤ 800) :
    ∃ d, a.sum b = some d ∧ Sm (FloatKind.f64.encode d) (c + 1) := by
  cases a with
  | infinity s => cases ha
  | nan s t => cases ha
  | number s m i =>
  cases b with
  | infinity s => cases hb
  | nan s t => cases hb
  | number t n j =>
    have hi := hpa s m i rfl
    have hj := hpb t n j rfl
    refine ⟨_, rfl, ?_⟩
    obtain ⟨base, hbase⟩ : ∃ base, base = min i j := ⟨_, rfl⟩
    show Sm (FloatKind.f64.encode (.number _ (signed s m (i - min i j).toNat + signed t n (j - min i j).toNat).natAbs (min i j))) (c + 1)
    rw [← hbase]
    obtain ⟨T, hT⟩ : ∃ T, T = 1074 := ⟨_, rfl⟩
    obtain ⟨E, hE⟩ : ∃ E, E = (base + 1074).toNat := ⟨_, rfl⟩
    refine enc_small _ _ base c 2148 rfl (by omega) ?_ hc
    rw [mul_unit _ E T base (by omega) hT hE]
    have e1 : valD (.number s m i) = signed s m (i - base).toNat * 2 ^ E := by
      show signed s m (i + 1074).toNat = _
      rw [← sgn_add]
      congr 1
      omega
    have e2 : valD (.number t n j) = signed t n (j - base).toNat * 2 ^ E := by
      show signed t n (j + 1074).toNat = _
      rw [← sgn_add]
      congr 1
      omega
    rw [e1, e2, ← Int.add_mul, natAbs_mul_pow] at h
    rw [show c + 2148 = 1074 + c + T by omega, Nat.pow_add]
    exact (Nat.mul_lt_mul_right (Nat.two_pow_pos T)).2 h
theorem Sm.sub {x y : Nat} (hx : fin x) (hy : fin y) (c : Nat) (h : (V x - V y).natAbs < 2 ^ (1074 + c)) (hc : c ≤ 800) : ∃ r, floatBits .sub .f64 x y = some r ∧ Sm r (c + 1) := by
  obtain ⟨d, h1, h2⟩ := sum_small (a := dec x) (b := (dec y).opposite) hx ((opp_fin _).trans hy) (place_of x) (place_opp y) c (by rw [opp_val, ← Int.sub_eq_add_neg]; exact h) hc
  exact ⟨_, show ((dec x).sum (dec y).opposite).map double.write = _ from by rw [h1]; rfl, h2⟩
theorem Sm.add {x y : Nat} (hx : fin x) (hy : fin y) (c : Nat) (h : (V x + V y).natAbs < 2 ^ (1074 + c)) (hc : c ≤ 800) : ∃ r, floatBits .add .f64 x y = some r ∧ Sm r (c + 1) := by
  obtain ⟨d, h1, h2⟩ := sum_small (a := dec x) (b := dec y) hx hy (place_of x) (place_of y) c h hc
  exact ⟨_, show ((dec x).sum (dec y)).map double.write = _ from by rw [h1]; rfl, h2⟩
theorem Sm.sq {x c : Nat} (hx : Sm x c) (hc : c ≤ 300) : ∃ r, floatBits .mul .f64 x x = some r ∧ Sm r (2 * c + 1) := by
  obtain ⟨s, m, e, hd⟩ := fin_iff.1 hx.1
  have he := (dec_number hd).1
  have hv := hx.2
  rw [V_of hd, sgn_abs] at hv
  refine ⟨_, show ((dec x).product (dec x)).map double.write = _ from by rw [hd]; rfl, ?_⟩
  obtain ⟨E, hE⟩ : ∃ E, E = (e + 1074).toNat := ⟨_, rfl⟩
  obtain ⟨T, hT⟩ : ∃ T, T = 1074 := ⟨_, rfl⟩
  rw [← hE, ← hT] at hv
  refine enc_small _ _ (e + e) (2 * c) 2148 rfl (by omega) ?_ (by omega)
  have e1 : (e + e + 2148).toNat = E + E := by omega
  rw [e1, Nat.pow_add, show 2 * c + 2148 = (T + c) + (T + c) by omega, Nat.pow_add]
  calc m * m * (2 ^ E * 2 ^ E) = (m * 2 ^ E) * (m * 2 ^ E) := by rw [Nat.mul_assoc, Nat.mul_assoc, Nat.mul_left_comm m (2 ^ E)]
    _ < 2 ^ (T + c) * 2 ^ (T + c) := Nat.mul_lt_mul'' hv hv
theorem Sm.add2 {x y c : Nat} (hx : Sm x c) (hy : Sm y c) (hc : c ≤ 300) : ∃ r, floatBits .add .f64 x y = some r ∧ Sm r (c + 2) := by
  refine Sm.add hx.1 hy.1 (c + 1) ?_ (by omega)
  have x1 := hx.2
  have x2 := hy.2
  rw [show 1074 + (c + 1) = (1074 + c) + 1 from rfl, Nat.pow_succ]
  generalize 2 ^ (1074 + c) = Q at *
  omega
/-- The gap of two numbers in a box of 15. -/
theorem gap_fin {z p : Nat × Nat} (h1 : fin z.1) (h2 : fin z.2) (h3 : fin p.1) (h4 : fin p.2) (j : Nat) (hj : j = 1074) (b1 : (V z.1).natAbs ≤ 15 * 2 ^ j) (b2 : (V z.2).natAbs ≤ 15 * 2 ^ j) (b3 : (V p.1).natAbs ≤ 15 * 2 ^ j) (b4 : (V p.2).natAbs ≤ 15 * 2 ^ j) :
    ∃ r, slice_gap.f z p = some r ∧ foghornref05_gap.f z p = some r ∧ fin r := by
  have e5 : (2 : Nat) ^ (1074 + 5) = 32 * 2 ^ j := by rw [Nat.add_comm, ← hj, Nat.pow_add]
  have hP : 0 < 2 ^ j := Nat.two_pow_pos j
  generalize 2 ^ j = P at *
  obtain ⟨a, ha, na⟩ := Sm.sub h1 h3 5 (by rw [e5]; omega) (by omega)
  obtain ⟨b, hb, nb⟩ := Sm.sub h2 h4 5 (by rw [e5]; omega) (by omega)
  obtain ⟨c, hc, nc⟩ := na.sq (by omega)
  obtain ⟨d, hd, nd⟩ := nb.sq (by omega)
  obtain ⟨r, hr, nr⟩ := nc.add2 nd (by omega)
  refine ⟨r, ?_, ?_, nr.1⟩
  · rw [slice_gap.f, ha, hb, Option.bind_some, Option.bind_some, hc, hd, Option.bind_some, Option.bind_some, hr]; rfl
  · rw [foghornref05_gap.f, ha, hb, Option.bind_some, Option.bind_some, hc, hd, Option.bind_some, Option.bind_some, hr]; rfl
/-! ## finite or not -/
theorem fin_rung {x : Nat} (h : fin x) : x % 2 ^ 63 < 2047 * 2 ^ 52 := by
  unfold fin at h
  rw [read_eq] at h
  split at h
  · omega
  · split at h
    · assumption
    · split at h <;> cases h
theorem V_pos {r : Nat} (h : r < 2047 * 2 ^ 52) : fin r ∧ V r = (rmag r : Int) := by
  have hf : fin r := (V_rung false r h).1
  have h2 := V_rmag hf
  rw [Nat.div_eq_of_lt (by omega), Nat.mod_eq_of_lt (by omega : r < 2 ^ 63)] at h2
  exact ⟨hf, by rw [h2]; simp⟩
theorem isInf_f {x : Nat} (hx : x < 2 ^ 64) : math_IsInf.f x 0 = some (FloatKind.f64.format.order (x % 2 ^ 63) 9218868437227405311 == some .gt) := by
  rw [math_IsInf.f, if_pos rfl, math_Abs.f, Option.bind_some, abs_word hx]
theorem fin_yes {x : Nat} (hx : x < 2 ^ 64) (h : fin x) : foghornref02_Finite.f x = some true ∧ math_IsInf.f x 0 = some false ∧ math_IsNaN.f x = some false := by
  refine ⟨?_, ?_, ?_⟩
  · obtain ⟨j, hj⟩ : ∃ j, j = 1074 := ⟨_, rfl⟩
    obtain ⟨r, h1, h2', h3'⟩ := fsub h h 0 j (by rw [Int.sub_self, Int.zero_mul]) (by decide) (by rw [Int.natAbs_zero, Nat.zero_mul]; obtain ⟨N, hN⟩ : ∃ N, N = 2098 := ⟨_, rfl⟩; rw [← hN]; exact Nat.two_pow_pos N)
    rw [foghornref02_Finite.f, h1]
    show some (FloatKind.f64.format.order r 0 == some .eq) = _
    rw [eq_fin h2' (is_zero 0).1, h3', (is_zero 0).2, Int.zero_mul, Int.zero_mul]
    rfl
  · have hr := fin_rung h
    have hm := V_pos (r := 9218868437227405311) (by decide)
    have ha := V_pos hr
    rw [isInf_f hx, gt_fin ha.1 hm.1, hm.2, ha.2]
    have : rmag (x % 2 ^ 63) ≤ rmag 9218868437227405311 := by
      rcases Nat.lt_or_ge (x % 2 ^ 63) 9218868437227405311 with c | c
      · exact Nat.le_of_lt (rmag_lt c)
      · rw [show x % 2 ^ 63 = 9218868437227405311 by omega]; exact Nat.le_refl _
    rw [decide_eq_false]
    generalize rmag (x % 2 ^ 63) = p at *
    generalize rmag 9218868437227405311 = q at *
    omega
  · rw [math_IsNaN.f, nan_no (fin_nn h)]
theorem fin_no {x : Nat} (hx : x < 2 ^ 64) (h : ¬ fin x) : foghornref02_Finite.f x = some false ∧ (math_IsNaN.f x = some true ∨ math_IsNaN.f x = some false ∧ math_IsInf.f x 0 = some true) := by
  cases hd : dec x with
  | number s m e => exact absurd (fin_iff.2 ⟨s, m, e, hd⟩) h
  | nan s t =>
    refine ⟨?_, Or.inl ?_⟩
    · have : floatBits .sub .f64 x x = none := show ((dec x).sum (dec x).opposite).map double.write = none from by rw [hd]; rfl
      rw [foghornref02_Finite.f, this]
    · rw [math_IsNaN.f, nan_yes (fun hn => hn s t hd)]
  | infinity s =>
    refine ⟨?_, Or.inr ⟨?_, ?_⟩⟩
    · have : floatBits .sub .f64 x x = none := show ((dec x).sum (dec x).opposite).map double.write = none from by rw [hd]; cases s <;> rfl
      rw [foghornref02_Finite.f, this]
    · rw [math_IsNaN.f, nan_no (fun s' t' h' => by rw [hd] at h'; cases h')]
    · have hm := V_pos (r := 9218868437227405311) (by decide)
      rw [isInf_f hx, gt_inf hm.1 false _ (by rw [dec_abs, hd]; rfl)]; rfl
/-! ## labels -/
theorem label_l0 (z : Nat × Nat) (xs : List (Nat × Nat)) (hl : xs.length ≤ 1000) (d : Nat) : ∀ i : Nat, i + d = xs.length → ∃ r, Ev (fun k => points_Label.l0 k z xs (xs.length : Int) (i : Int)) r ∧ Ev (fun k => foghornref04_Label.l0 k z xs (i : Int)) r := by
  induction d with
  | zero =>
    intro i hi
    exact ⟨(0, 6), Ev.stepTo _ (fun k _ => by rw [points_Label.l0, if_neg (by omega)]) (Ev.now _), Ev.stepTo _ (fun k _ => by rw [foghornref04_Label.l0, if_neg (by omega)]) (Ev.now _)⟩
  | succ d ih =>
    intro i hi
    obtain ⟨r, h1, h2⟩ := ih (i + 1) (by omega)
    by_cases c : ((FloatKind.f64.format.order ((rdOf (0, 0) xs (i : Int)).1) z.1 == some .eq) && (FloatKind.f64.format.order ((rdOf (0, 0) xs (i : Int)).2) z.2 == some .eq)) = true
    · exact ⟨((i : Int), 0), Ev.stepTo _ (fun k _ => by rw [points_Label.l0, if_pos (by omega), if_pos (by omega), if_pos (by omega), if_pos c]) (Ev.now _), Ev.stepTo _ (fun k _ => by rw [foghornref04_Label.l0, if_pos (by omega), if_pos (by omega), if_pos c]) (Ev.now _)⟩
    · exact ⟨r, Ev.stepTo _ (fun k _ => by rw [points_Label.l0, if_pos (by omega), if_pos (by omega), if_pos (by omega), if_neg c, wrap_id _ (by omega) (by omega), show ((i : Int) + 1) = ((i + 1 : Nat) : Int) from by omega]) h1, Ev.stepTo _ (fun k _ => by rw [foghornref04_Label.l0, if_pos (by omega), if_pos (by omega), if_neg c, wrap_id _ (by omega) (by omega), show ((i : Int) + 1) = ((i + 1 : Nat) : Int) from by omega]) h2⟩
theorem label_both {s : Int} (h : Six s) (z : Nat × Nat) : ∃ r, Ev (fun k => points_Label.f k s z) r ∧ Ev (fun k => foghornref04_Label.f k s z) r := by
  have hl := len_ h
  have hs : s ≤ 256 := by rcases h with rfl | rfl | rfl | rfl | rfl | rfl <;> decide
  obtain ⟨r, h1, h2⟩ := label_l0 z ((pts s).map toC) (by rw [List.length_map]; omega) _ 0 (Nat.zero_add _)
  refine ⟨r, Ev.congr (fun k => by rw [points_Label.f, all_ h, Option.bind_some, if_pos rfl]; rfl) h1, ?_⟩
  exact Ev.congr (fun k => by rw [foghornref04_Label.f]) (Ev.bind (ref_all h) (Ev.congr (fun k => by rw [if_pos rfl]; rfl) h2))
/-! ## decisions -/
theorem eqv {x : Nat} (h : fin x) : (FloatKind.f64.format.order x x == some .eq) = true := order_self (fin_nn h)
/-- Both walk through the points alike. -/
theorem near_l0 (c : Nat × Nat) (xs : List (Nat × Nat)) (hl : xs.length ≤ 1000) (hg : ∀ p ∈ xs, ∃ r, slice_gap.f c p = some r ∧ foghornref05_gap.f c p = some r) (d : Nat) : ∀ (i b : Nat) (g : Nat), i + d = xs.length → b < xs.length → slice_gap.f c (rdOf (0, 0) xs (b : Int)) = some g → ∃ m : Nat, m < xs.length ∧ Ev (fun k => slice_nearest.l0 k c g xs (xs.length : Int) (i : Int) (b : Int) (rdOf (0, 0) xs (b : Int)) false) ((m : Int), rdOf (0, 0) xs (m : Int), false) ∧ Ev (fun k => foghornref05_Decide.l0 k xs c (b : Int) (i : Int)) ((m : Int), rdOf (0, 0) xs (m : Int), false, 0) := by
  induction d with
  | zero =>
    intro i b g hi hb hgb
    exact ⟨b, hb, Ev.stepTo _ (fun k _ => by rw [slice_nearest.l0, if_neg (by omega)]) (Ev.now _), Ev.stepTo _ (fun k _ => by rw [foghornref05_Decide.l0, if_neg (by omega), if_pos (by omega), if_pos (by omega)]) (Ev.now _)⟩
  | succ d ih =>
    intro i b g hi hb hgb
    have hw : wrap64 ((i : Int) + 1) = ((i + 1 : Nat) : Int) := by rw [wrap_id _ (by omega) (by omega)]; omega
    obtain ⟨t, h1, h2⟩ := hg (rdOf (0, 0) xs (i : Int)) (by rw [rd_nat _ _ _ (by omega)]; exact List.getElem_mem _)
    obtain ⟨g', h3, h4⟩ := hg (rdOf (0, 0) xs (b : Int)) (by rw [rd_nat _ _ _ hb]; exact List.getElem_mem _)
    rw [hgb] at h3
    obtain rfl := Option.some.inj h3
    by_cases q : (FloatKind.f64.format.order t g == some .lt) = true
    · obtain ⟨m, hm, e1, e2⟩ := ih (i + 1) i t (by omega) (by omega) h1
      exact ⟨m, hm, Ev.stepTo _ (fun k _ => by rw [slice_nearest.l0, if_pos (by omega), if_pos (by omega), if_pos (by omega), h1, Option.bind_some, if_pos q, hw]) e1, Ev.stepTo _ (fun k _ => by rw [foghornref05_Decide.l0, if_pos (by omega), if_pos (by omega), h2, Option.bind_some, if_pos (by omega), if_pos (by omega), h4, Option.bind_some, if_pos q, hw]) e2⟩
    · obtain ⟨m, hm, e1, e2⟩ := ih (i + 1) b g (by omega) hb hgb
      exact ⟨m, hm, Ev.stepTo _ (fun k _ => by rw [slice_nearest.l0, if_pos (by omega), if_pos (by omega), if_pos (by omega), h1, Option.bind_some, if_neg q, hw]) e1, Ev.stepTo _ (fun k _ => by rw [foghornref05_Decide.l0, if_pos (by omega), if_pos (by omega), h2, Option.bind_some, if_pos (by omega), if_pos (by omega), h4, Option.bind_some, if_neg q, hw]) e2⟩
def Wd (z : Nat × Nat) : Prop := z.1 < 2 ^ 64 ∧ z.2 < 2 ^ 64
theorem clampB {x : Nat} (hx : x < 2 ^ 64) (hn : nn x) (e : Int) (he : 1 ≤ e ∧ e ≤ 15) (j : Nat) (hj : j = 1074) : ∃ c, pickF false .gt (Op.negFloat .f64 (floatOfInt .f64 e)) (pickF true .lt x (floatOfInt .f64 e)) = c ∧ (V c).natAbs ≤ 15 * 2 ^ j := by
  obtain ⟨c, h⟩ := clamp_ hx hn e he j hj _ rfl
  refine ⟨c, h.pick, ?_⟩
  have h1 := h.lo
  have h2 := h.hi
  have hP : (2 : Int) ^ j = ((2 ^ j : Nat) : Int) := by rw [Int.natCast_pow]; rfl
  rw [hP] at h1 h2
  have hp : 0 < 2 ^ j := Nat.two_pow_pos j
  generalize 2 ^ j = P at *
  have a1 : -e * (P : Int) ≥ -15 * P := Int.mul_le_mul_of_nonneg_right (by omega) (by omega)
  have a2 : e * (P : Int) ≤ 15 * P := Int.mul_le_mul_of_nonneg_right (by omega) (by omega)
  omega
theorem toC_box {s : Int} (h : Six s) {p : Nat × Nat} (hp : p ∈ (pts s).map toC) (j : Nat) (hj : j = 1074) : fin p.1 ∧ fin p.2 ∧ (V p.1).natAbs ≤ 15 * 2 ^ j ∧ (V p.2).natAbs ≤ 15 * 2 ^ j := by
  obtain ⟨q, hq, rfl⟩ := List.mem_map.1 hp
  have := mem_ h hq
  have := edge_ h
  have a := fofInt_ q.1 (by omega) j hj
  have b := fofInt_ q.2 (by omega) j hj
  refine ⟨a.1, b.1, ?_, ?_⟩
  · show (V (floatOfInt .f64 q.1)).natAbs ≤ _
    rw [a.2, natAbs_mul_pow]
    exact Nat.mul_le_mul_right _ (by omega)
  · show (V (floatOfInt .f64 q.2)).natAbs ≤ _
    rw [b.2, natAbs_mul_pow]
    exact Nat.mul_le_mul_right _ (by omega)
/-- Whatever number it is: one decision. -/
theorem decide_both {s : Int} (h : Six s) {z : Nat × Nat} (hz : Wd z) : ∃ (n : Int) (v : Nat × Nat) (b : Bool), Ev (fun k => slice_decide.f k s (edge s) z) (n, v, b) ∧ Ev (fun k => foghornref05_Decide.f k s z) (n, v, b, 0) ∧ fin v.1 ∧ fin v.2 := by
  have he := edge_ h
  have hl := len_ h
  by_cases hf : fin z.1 ∧ fin z.2
  · obtain ⟨f1, f2⟩ := hf
    obtain ⟨x1, x2, x3⟩ := fin_yes hz.1 f1
    obtain ⟨y1, y2, y3⟩ := fin_yes hz.2 f2
    have hnan : slice_nan.f z = some false := by rw [slice_nan.f, x3, Option.bind_some, if_neg (by decide), y3]; rfl
    have hS : ∀ r, Ev (fun k => if s = 32 ∨ s = 128 then slice_nearest.f k s (edge s) z else if s = 4 ∨ s = 16 ∨ s = 64 ∨ s = 256 then slice_axes.f k s (edge s) z else none) r → Ev (fun k => slice_decide.f k s (edge s) z) r := fun r hr =>
      Ev.congr (fun k => by rw [slice_decide.f, hnan, Option.bind_some, if_neg (by decide), x2, Option.bind_some, if_neg (by decide), y2, Option.bind_some, if_neg (by decide)]) hr
    have hR : ∀ r, Ev (fun k => foghornref05_Decide.j0 k s z (edge s) false) r → Ev (fun k => foghornref05_Decide.f k s z) r := fun r hr =>
      Ev.congr (fun k => by rw [foghornref05_Decide.f, redge_yes h, Option.bind_some, if_pos rfl, x1, Option.bind_some, if_pos rfl, y1, Option.bind_some]; rfl) hr
    by_cases c : s = 32 ∨ s = 128
    · -- crosses
      obtain ⟨j, hj⟩ : ∃ j, j = 1074 := ⟨_, rfl⟩
      obtain ⟨cc, q1, q2, q3, q4, q5⟩ := cut_yes h hz.1 hz.2 (fin_nn f1) (fin_nn f2)
      have q1' := q1
      rw [slice_cut.f, math_Min.f, Option.bind_some, math_Max.f, Option.bind_some, math_Min.f, Option.bind_some, math_Max.f, Option.bind_some] at q1'
      obtain ⟨c1, u1, u2⟩ := clampB hz.1 (fin_nn f1) (edge s) ⟨he.1, he.2.1⟩ j hj
      obtain ⟨c2, w1, w2⟩ := clampB hz.2 (fin_nn f2) (edge s) ⟨he.1, he.2.1⟩ j hj
      rw [u1, w1] at q1'
      obtain rfl := Option.some.inj q1'
      have hg : ∀ p ∈ (pts s).map toC, ∃ r, slice_gap.f (c1, c2) p = some r ∧ foghornref05_gap.f (c1, c2) p = some r ∧ fin r := fun p hp => by
        have := toC_box h hp j hj
        exact gap_fin q4 q5 this.1 this.2.1 j hj u2 w2 this.2.2.1 this.2.2.2
      have hlen : ((pts s).map toC).length = s.toNat := by rw [List.length_map]; omega
      have hs : 32 ≤ s ∧ s ≤ 128 := by rcases c with rfl | rfl <;> decide
      have m0 : rdOf (0, 0) ((pts s).map toC) ((0 : Nat) : Int) ∈ (pts s).map toC := by rw [rd_nat _ _ _ (by omega)]; exact List.getElem_mem _
      obtain ⟨g, g1, g2, g3⟩ := hg _ m0
      obtain ⟨m, hm, e1, e2⟩ := near_l0 (c1, c2) ((pts s).map toC) (by omega) (fun p hp => let ⟨r, a, b, _⟩ := hg p hp; ⟨r, a, b⟩) (((pts s).map toC).length - 1) 1 0 g (by omega) (by omega) g1
      have hv := toC_box h (p := rdOf (0, 0) ((pts s).map toC) (m : Int)) (by rw [rd_nat _ _ _ hm]; exact List.getElem_mem _) j hj
      refine ⟨m, rdOf (0, 0) ((pts s).map toC) (m : Int), false, hS _ ?_, hR _ ?_, hv.1, hv.2.1⟩
      · refine Ev.congr (f := fun k => slice_nearest.l0 k (c1, c2) 9218868437227405312 ((pts s).map toC) (((pts s).map toC).length : Int) 0 0 (0, 0) false) (fun k => by rw [if_pos c, slice_nearest.f, all_ h, Option.bind_some, q1, Option.bind_some, math_Inf.f, if_pos (by decide), Option.bind_some]) (Ev.stepTo _ (fun k _ => ?_) e1)
        have hinf : (FloatKind.f64.format.order g 9218868437227405312 == some .lt) = true := by
          obtain ⟨a, b, i, hd⟩ := fin_iff.1 g3
          rw [order_dec, hd, show dec 9218868437227405312 = .infinity false by decide +kernel]
          rfl
        have r0 : rdOf (0, 0) ((pts s).map toC) 0 = rdOf (0, 0) ((pts s).map toC) ((0 : Nat) : Int) := rfl
        rw [slice_nearest.l0, if_pos (by omega), if_pos (by decide), if_pos (by omega), r0, g1, Option.bind_some, if_pos hinf, wrap_id _ (by omega) (by omega)]
        rfl
      · have hj1 : Ev (fun k => foghornref05_Decide.j1 k s z (edge s) false) ((m : Int), rdOf (0, 0) ((pts s).map toC) (m : Int), false, 0) := by
          refine Ev.stepTo _ (fun k _ => by rw [foghornref05_Decide.j1, if_neg (by decide)]) ?_
          exact Ev.bind (ref_all h) (Ev.bind q3 e2)
        refine Ev.stepTo _ (fun k _ => ?_) hj1
        rw [foghornref05_Decide.j0, if_neg (by decide)]
        rcases c with rfl | rfl
        · rw [if_pos rfl]
        · rw [if_neg (by decide)]; rfl
    · -- squares
      have c2 : s = 4 ∨ s = 16 ∨ s = 64 ∨ s = 256 := by unfold Six at h; omega
      obtain ⟨j, hj⟩ : ∃ j, j = 1074 := ⟨_, rfl⟩
      obtain ⟨ca, ha⟩ := clamp_ hz.1 (fin_nn f1) (edge s) ⟨he.1, he.2.1⟩ j hj _ rfl
      obtain ⟨cb, hb⟩ := clamp_ hz.2 (fin_nn f2) (edge s) ⟨he.1, he.2.1⟩ j hj _ rfl
      obtain ⟨a, p1, p2, p3⟩ := axis_both (fin_nn f1) (edge s) ⟨he.1, he.2.1⟩ he.2.2 j hj _ rfl ha
      obtain ⟨b, r1, r2, r3⟩ := axis_both (fin_nn f2) (edge s) ⟨he.1, he.2.1⟩ he.2.2 j hj _ rfl hb
      obtain ⟨l, l1, l2⟩ := label_both h (floatOfInt .f64 a, floatOfInt .f64 b)
      have a1 := p3.lo
      have a2 := p3.hi
      have b1 := r3.lo
      have b2 := r3.hi
      refine ⟨l.1, (floatOfInt .f64 a, floatOfInt .f64 b), false, hS _ ?_, hR _ ?_, (Is.ofInt a (by omega)).1, (Is.ofInt b (by omega)).1⟩
      · exact Ev.congr (fun k => by rw [if_neg c, if_pos c2, slice_axes.f]) (Ev.bind p1 (Ev.bind r1 (Ev.bind l1 (Ev.congr (fun _ => rfl) (Ev.now (l.1, (floatOfInt .f64 a, floatOfInt .f64 b), false))))))
      · have hj1 : Ev (fun k => foghornref05_Decide.j1 k s z (edge s) true) (l.1, (floatOfInt .f64 a, floatOfInt .f64 b), false, 0) := by
          refine Ev.stepTo _ (fun k _ => by rw [foghornref05_Decide.j1, if_pos rfl]) ?_
          exact Ev.bind p2 (Ev.bind r2 (Ev.bind l2 (Ev.congr (fun _ => rfl) (Ev.now (l.1, (floatOfInt .f64 a, floatOfInt .f64 b), false, 0)))))
        refine Ev.stepTo _ (fun k _ => ?_) hj1
        rw [foghornref05_Decide.j0, if_neg (by decide), if_neg (by omega), show (s != 128) = true from bne_iff_ne.2 (by omega)]
  · refine ⟨0, (0, 0), true, ?_, ?_, (is_zero 0).1, (is_zero 0).1⟩
    · refine Ev.congr (fun k => ?_) (Ev.now _)
      rw [slice_decide.f]
      by_cases f1 : fin z.1
      · have f2 : ¬ fin z.2 := fun f2 => hf ⟨f1, f2⟩
        obtain ⟨x1, x2, x3⟩ := fin_yes hz.1 f1
        rcases (fin_no hz.2 f2).2 with y | ⟨y, y'⟩
        · rw [slice_nan.f, x3, Option.bind_some, if_neg (by decide), y, Option.bind_some, Option.bind_some, if_pos rfl]
        · rw [slice_nan.f, x3, Option.bind_some, if_neg (by decide), y, Option.bind_some, Option.bind_some, if_neg (by decide), x2, Option.bind_some, if_neg (by decide), y', Option.bind_some, if_pos rfl]
      · rcases (fin_no hz.1 f1).2 with x | ⟨x, x'⟩
        · rw [slice_nan.f, x, Option.bind_some, if_pos rfl, Option.bind_some, if_pos rfl]
        · have hnan : ∃ b, slice_nan.f z = some b := by
            rw [slice_nan.f, x, Option.bind_some, if_neg (by decide), math_IsNaN.f]
            exact ⟨_, rfl⟩
          obtain ⟨b, hb⟩ := hnan
          rw [hb, Option.bind_some]
          cases b
          · rw [if_neg (by decide), x', Option.bind_some, if_pos rfl]
          · rw [if_pos rfl]
    · have hR : ∀ g : Nat → Option (Int × (Nat × Nat) × Bool × Int), (∀ k, g k = foghornref05_Decide.j0 k s z (edge s) true) → Ev g (0, (0, 0), true, 0) := fun g hg =>
        Ev.congr hg (Ev.stepTo _ (fun k _ => by rw [foghornref05_Decide.j0, if_pos rfl]) (Ev.now _))
      by_cases f1 : fin z.1
      · have f2 : ¬ fin z.2 := fun f2 => hf ⟨f1, f2⟩
        exact hR _ (fun k => by rw [foghornref05_Decide.f, redge_yes h, Option.bind_some, if_pos rfl, (fin_yes hz.1 f1).1, Option.bind_some, if_pos rfl, (fin_no hz.2 f2).1, Option.bind_some]; rfl)
      · exact hR _ (fun k => by rw [foghornref05_Decide.f, redge_yes h, Option.bind_some, if_pos rfl, (fin_no hz.1 f1).1, Option.bind_some, if_neg (by decide)])
theorem Decide_both {s : Int} (h : Six s) {z : Nat × Nat} (hz : Wd z) : ∃ (n : Int) (v : Nat × Nat) (b : Bool), Ev (fun k => slice_Decide.f k s z) (n, v, b, 0) ∧ Ev (fun k => foghornref05_Decide.f k s z) (n, v, b, 0) ∧ fin v.1 ∧ fin v.2 := by
  obtain ⟨n, v, b, h1, h2, h3, h4⟩ := decide_both h hz
  exact ⟨n, v, b, Ev.congr (fun k => by rw [slice_Decide.f, edge_yes h, Option.bind_some, if_pos rfl]) (Ev.bind h1 (Ev.now _)), h2, h3, h4⟩
theorem Decide_no {s : Int} (h : ¬ Six s) (z : Nat × Nat) : (∀ k, slice_Decide.f k s z = some (0, (0, 0), false, 1)) ∧ ∀ k, foghornref05_Decide.f k s z = some (0, (0, 0), false, 1) :=
  ⟨fun k => by rw [slice_Decide.f, edge_no h, Option.bind_some, if_neg (by decide)], fun k => by rw [foghornref05_Decide.f, redge_no h, Option.bind_some, if_neg (by decide)]⟩
theorem alike_self {n : Int} {v : Nat × Nat} {b : Bool} (h1 : fin v.1) (h2 : fin v.2) : foghornlaw05_alike.f n v b n v b = some true := by
  rw [foghornlaw05_alike.f, if_pos rfl, eqv h1, eqv h2, if_pos (by decide), beq_self_eq_true]
end Go.Proofs.Ythfcafllcgjepaa.Slc
