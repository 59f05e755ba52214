import Derived.Test.YthfcafllcgjepaaFeedbackReachPureSliceAxes
import Derived.Test.YthfcafllcgjepaaFeedbackReachF1
/- Layer 5: decisions: the program and the document alike. -/
namespace Go.Proofs.Ythfcafllcgjepaa.Slc
open Ieee Go.RowKit Go.Proofs.Ythfcafllcgjepaa.Q Go.Proofs.YthfcafllcgjepaaW.PrintWords Go.Proofs.YthfcafllcgjepaaW.PrintLast Go.Proofs.YthfcafllcgjepaaW.PrintMore Go.Proofs.Ythfcafllcgjepaa.Flt Go.Proofs.Ythfcafllcgjepaa.Feed Go.Proofs.Ythfcafllcgjepaa.Pt
def Sm (x : Nat) (c : Nat) : Prop := fin x ∧ (V x).natAbs < 2 ^ (1074 + c)
theorem cut_top (way : Toward) (neg : Bool) (n d b : Nat) (h : n < 2 ^ (b + d)) : way.cut neg n d ≤ 2 ^ b := by
  unfold Toward.cut
  dsimp only
  have h2 : ∀ b : Bool, b.toNat ≤ 1 := fun b => by cases b <;> decide
  rw [Nat.shiftLeft_eq, Nat.one_mul]
  rcases Nat.lt_or_ge d (n.log2 + 2) with c | c
  · rw [Nat.min_eq_left (by omega)]
    have h3 : n / 2 ^ d < 2 ^ b := Nat.div_lt_of_lt_mul (by rw [Nat.mul_comm, ← Nat.pow_add]; exact h)
    exact Nat.le_trans (Nat.add_le_add_left (h2 _) _) h3
  · rw [Nat.min_eq_right c]
    have h1 : n < 2 ^ (n.log2 + 2) := Nat.lt_trans Nat.lt_log2_self (Nat.pow_lt_pow_right (by decide) (by omega))
    rw [Nat.div_eq_of_lt h1, Nat.zero_add]
    exact Nat.le_trans (h2 _) (Nat.two_pow_pos b)
theorem V_rung (neg : Bool) (rung : Nat) (h : rung < 2047 * 2 ^ 52) : fin (double.word neg rung) ∧ (V (double.word neg rung)).natAbs < 2 ^ (52 + rung / 2 ^ 52) := by
  have hd := dec_word neg rung h
  by_cases c : rung < 2 ^ 52
  · rw [if_pos c] at hd
    refine ⟨fin_iff.2 ⟨_, _, _, hd⟩, ?_⟩
    rw [V_of hd, sgn_abs, show ((-1074 : Int) + 1074).toNat = 0 by decide, Nat.pow_zero, Nat.mul_one, Nat.div_eq_of_lt c]
    exact c
  · rw [if_neg c] at hd
    refine ⟨fin_iff.2 ⟨_, _, _, hd⟩, ?_⟩
    rw [V_of hd, sgn_abs]
    obtain ⟨q, hq⟩ : ∃ q, rung / 2 ^ 52 = q + 1 := ⟨rung / 2 ^ 52 - 1, by omega⟩
    rw [hq, show ((-1074 : Int) + ((q + 1 - 1 : Nat) : Int) + 1074).toNat = q by omega, show 52 + (q + 1) = 53 + q by omega, Nat.pow_add]
    exact (Nat.mul_lt_mul_right (Nat.two_pow_pos q)).2 (by have : rung % 2 ^ 52 < 2 ^ 52 := Nat.mod_lt _ (by decide); omega)
theorem enc_small (neg : Bool) (mag : Nat) (place : Int) (c T : Nat) (hT : T = 2148) (hp : -2148 ≤ place) (h : mag * 2 ^ (place + 2148).toNat < 2 ^ (c + T)) (hc : c ≤ 800) : Sm (FloatKind.f64.encode (.number neg mag place)) (c + 1) := by
  have hs : double.signWeight = 2 ^ 63 := by decide
  have hb : double.binade = 2 ^ 52 := by decide
  have hi : double.infRung = 2047 * 2 ^ 52 := by decide
  have hf : double.fractionBits = 52 := rfl
  show Sm (double.nearest neg mag place) (c + 1)
  unfold Format.nearest Sm
  by_cases h0 : mag = 0
  · rw [if_pos h0]
    have := V_rung neg 0 (by omega)
    exact ⟨this.1, Nat.lt_of_lt_of_le this.2 (Nat.pow_le_pow_right (by decide) (by omega))⟩
  · rw [if_neg h0, hb, hi, hf, double_least]
    have hlog : place + mag.log2 < c := by
      have h1 : 2 ^ (mag.log2 + (place + 2148).toNat) ≤ mag * 2 ^ (place + 2148).toNat := by rw [Nat.pow_add]; exact Nat.mul_le_mul_right _ (Nat.log2_self_le h0)
      have h2 := (Nat.pow_lt_pow_iff_right (a := 2) (by decide)).1 (Nat.lt_of_le_of_lt h1 h)
      omega
    obtain ⟨last, hl⟩ : ∃ last : Int, last = max (place + mag.log2 - ((52 : Nat) : Int)) (-1074) := ⟨_, rfl⟩
    have hl2 : last ≤ c - 53 ∧ -1074 ≤ last ∧ place + mag.log2 - 52 ≤ last := by omega
    dsimp only
    rw [← hl]
    have hkept : Toward.even.cut neg (mag <<< (place - last).toNat) (last - place).toNat ≤ 2 ^ 53 := by
      apply cut_top
      rw [Nat.shiftLeft_eq]
      have h3 : mag < 2 ^ (mag.log2 + 1) := Nat.lt_log2_self
      have h4 : mag * 2 ^ (place - last).toNat < 2 ^ (mag.log2 + 1 + (place - last).toNat) := by rw [Nat.pow_add]; exact (Nat.mul_lt_mul_right (Nat.two_pow_pos _)).2 h3
      exact Nat.lt_of_lt_of_le h4 (Nat.pow_le_pow_right (by decide) (by omega))
    obtain ⟨kept, hk⟩ : ∃ kept, kept = Toward.even.cut neg (mag <<< (place - last).toNat) (last - place).toNat := ⟨_, rfl⟩
    rw [← hk] at hkept ⊢
    have e53 : (2 : Nat) ^ 53 = 2 * 2 ^ 52 := by decide
    rw [e53] at hkept
    obtain ⟨n, hn⟩ : ∃ n : Nat, n = (last - -1074).toNat := ⟨_, rfl⟩
    rw [← hn]
    have hr : n * 2 ^ 52 + kept ≤ (n + 2) * 2 ^ 52 := by rw [Nat.add_mul]; omega
    have hn2 : n + 2 < 2047 := by omega
    have hlt : (n + 2) * 2 ^ 52 < 2047 * 2 ^ 52 := (Nat.mul_lt_mul_right (by decide)).2 hn2
    have hmin : min (n * 2 ^ 52 + kept) (2047 * 2 ^ 52) = n * 2 ^ 52 + kept := Nat.min_eq_left (Nat.le_of_lt (Nat.lt_of_le_of_lt hr hlt))
    rw [hmin]
    have := V_rung neg (n * 2 ^ 52 + kept) (Nat.lt_of_le_of_lt hr hlt)
    refine ⟨this.1, Nat.lt_of_lt_of_le this.2 (Nat.pow_le_pow_right (by decide) ?_)⟩
    have hq : (n * 2 ^ 52 + kept) / 2 ^ 52 ≤ n + 2 := Nat.div_le_of_le_mul (by rw [Nat.mul_comm (2 ^ 52) (n + 2)]; exact hr)
    have hn3 : n ≤ c + 1021 := by clear hq hr hlt hmin hkept h hk; omega
    exact (show ∀ q : Nat, q ≤ n + 2 → 52 + q ≤ 1074 + (c + 1) from fun q hq => by clear hr hlt hmin hkept h hk; omega) _ hq
theorem mul_unit (m e1 T : Nat) (e : Int) (he : -1074 ≤ e) (hT : T = 1074) (h : e1 = (e + 1074).toNat) : m * 2 ^ (e + 2148).toNat = m * 2 ^ e1 * 2 ^ T := by
  rw [Nat.mul_assoc, ← Nat.pow_add]
  congr 2
  omega
theorem sum_small {a b : Datum} (ha : finD a = true) (hb : finD b = true) (hpa : ∀ s m e, a = .number s m e → -1074 ≤ e) (hpb : ∀ s m e, b = .number s m e → -1074 ≤ e) (c : Nat) (h : (valD a + valD b).natAbs < 2 ^ (1074 + c)) (hc : c ≤ 800) :
    ∃ d, a.sum b = some d ∧ Sm (FloatKind.f64.encode d) (c + 1) := by
  cases a with
  | infinity s => cases ha
  | nan s t => cases ha
  | number s m i =>
  cases b with
  | infinity s => cases hb
  | nan s t => cases hb
  | number t n j =>
    have hi := hpa s m i rfl
    have hj := hpb t n j rfl
    refine ⟨_, rfl, ?_⟩
    obtain ⟨base, hbase⟩ : ∃ base, base = min i j := ⟨_, rfl⟩
    show Sm (FloatKind.f64.encode (.number _ (signed s m (i - min i j).toNat + signed t n (j - min i j).toNat).natAbs (min i j))) (c + 1)
    rw [← hbase]
    obtain ⟨T, hT⟩ : ∃ T, T = 1074 := ⟨_, rfl⟩
    obtain ⟨E, hE⟩ : ∃ E, E = (base + 1074).toNat := ⟨_, rfl⟩
    refine enc_small _ _ base c 2148 rfl (by omega) ?_ hc
    rw [mul_unit _ E T base (by omega) hT hE]
    have e1 : valD (.number s m i) = signed s m (i - base).toNat * 2 ^ E := by
      show signed s m (i + 1074).toNat = _
      rw [← sgn_add]
      congr 1
      omega
    have e2 : valD (.number t n j) = signed t n (j - base).toNat * 2 ^ E := by
      show signed t n (j + 1074).toNat = _
      rw [← sgn_add]
      congr 1
      omega
    rw [e1, e2, ← Int.add_mul, natAbs_mul_pow] at h
    rw [show c + 2148 = 1074 + c + T by omega, Nat.pow_add]
    exact (Nat.mul_lt_mul_right (Nat.two_pow_pos T)).2 h
theorem Sm.sub {x y : Nat} (hx : fin x) (hy : fin y) (c : Nat) (h : (V x - V y).natAbs < 2 ^ (1074 + c)) (hc : c ≤ 800) : ∃ r, floatBits .sub .f64 x y = some r ∧ Sm r (c + 1) := by
  obtain ⟨d, h1, h2⟩ := sum_small (a := dec x) (b := (dec y).opposite) hx ((opp_fin _).trans hy) (place_of x) (place_opp y) c (by rw [opp_val, ← Int.sub_eq_add_neg]; exact h) hc
  exact ⟨_, show ((dec x).sum (dec y).opposite).map double.write = _ from by rw [h1]; rfl, h2⟩
theorem Sm.add {x y : Nat} (hx : fin x) (hy : fin y) (c : Nat) (h : (V x + V y).natAbs < 2 ^ (1074 + c)) (hc : c ≤ 800) : ∃ r, floatBits .add .f64 x y = some r ∧ Sm r (c + 1) := by
  obtain ⟨d, h1, h2⟩ := sum_small (a := dec x) (b := dec y) hx hy (place_of x) (place_of y) c h hc
  exact ⟨_, show ((dec x).sum (dec y)).map double.write = _ from by rw [h1]; rfl, h2⟩
theorem fin_rung {x : Nat} (h : fin x) : x % 2 ^ 63 < 2047 * 2 ^ 52 := by
  unfold fin at h
  rw [read_eq] at h
  split at h
  · omega
  · split at h
    · assumption
    · split at h <;> cases h
theorem V_pos {r : Nat} (h : r < 2047 * 2 ^ 52) : fin r ∧ V r = (rmag r : Int) := by
  have hf : fin r := (V_rung false r h).1
  have h2 := V_rmag hf
  rw [Nat.div_eq_of_lt (by omega), Nat.mod_eq_of_lt (by omega : r < 2 ^ 63)] at h2
  exact ⟨hf, by rw [h2]; simp⟩
theorem isInf_f {x : Nat} (hx : x < 2 ^ 64) : math_IsInf.f x 0 = some (FloatKind.f64.format.order (x % 2 ^ 63) 9218868437227405311 == some .gt) := by
  rw [math_IsInf.f, if_pos rfl, math_Abs.f, Option.bind_some, abs_word hx]
theorem fin_yes {x : Nat} (hx : x < 2 ^ 64) (h : fin x) : foghornref02_Finite.f x = some true ∧ math_IsInf.f x 0 = some false ∧ math_IsNaN.f x = some false := by
  refine ⟨?_, ?_, ?_⟩
  · obtain ⟨j, hj⟩ : ∃ j, j = 1074 := ⟨_, rfl⟩
    obtain ⟨r, h1, h2', h3'⟩ := fsub h h 0 j (by rw [Int.sub_self, Int.zero_mul]) (by decide) (by rw [Int.natAbs_zero, Nat.zero_mul]; obtain ⟨N, hN⟩ : ∃ N, N = 2098 := ⟨_, rfl⟩; rw [← hN]; exact Nat.two_pow_pos N)
    rw [foghornref02_Finite.f, h1]
    show some (FloatKind.f64.format.order r 0 == some .eq) = _
    rw [eq_fin h2' (is_zero 0).1, h3', (is_zero 0).2, Int.zero_mul, Int.zero_mul]
    rfl
  · have hr := fin_rung h
    have hm := V_pos (r := 9218868437227405311) (by decide)
    have ha := V_pos hr
    rw [isInf_f hx, gt_fin ha.1 hm.1, hm.2, ha.2]
    have : rmag (x % 2 ^ 63) ≤ rmag 9218868437227405311 := by
      rcases Nat.lt_or_ge (x % 2 ^ 63) 9218868437227405311 with c | c
      · exact Nat.le_of_lt (rmag_lt c)
      · rw [show x % 2 ^ 63 = 9218868437227405311 by omega]; exact Nat.le_refl _
    rw [decide_eq_false]
    generalize rmag (x % 2 ^ 63) = p at *
    generalize rmag 9218868437227405311 = q at *
    omega
  · rw [math_IsNaN.f, nan_no (fin_nn h)]
theorem eqv {x : Nat} (h : fin x) : (FloatKind.f64.format.order x x == some .eq) = true := order_self (fin_nn h)
def Wd (z : Nat × Nat) : Prop := z.1 < 2 ^ 64 ∧ z.2 < 2 ^ 64
end Go.Proofs.Ythfcafllcgjepaa.Slc
