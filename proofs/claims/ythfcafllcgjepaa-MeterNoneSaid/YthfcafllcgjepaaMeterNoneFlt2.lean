import Derived.Test.YthfcafllcgjepaaMeterNoneFlt
import Derived.Laws.FloatBits
/- Floats: sizes, turned signs, whole parts; numbers in units of a power of two; what lies on a grid. -/
namespace Go.Proofs.Ythfcafllcgjepaa.Flt
open Ieee Go.Proofs.YthfcafllcgjepaaW.PrintWords

theorem read_eq (x : Nat) : dec x = if x % 2 ^ 63 < 2 ^ 52 then .number (x / 2 ^ 63 % 2 == 1) (x % 2 ^ 63) (-1074) else if x % 2 ^ 63 < 2047 * 2 ^ 52 then .number (x / 2 ^ 63 % 2 == 1) (2 ^ 52 + x % 2 ^ 63 % 2 ^ 52) (-1074 + (x % 2 ^ 63 / 2 ^ 52 - 1 : Nat)) else if x % 2 ^ 63 = 2047 * 2 ^ 52 then .infinity (x / 2 ^ 63 % 2 == 1) else .nan (x / 2 ^ 63 % 2 == 1) (x % 2 ^ 63 - 2047 * 2 ^ 52) := by
  show double.read x = _
  unfold Format.read
  dsimp only
  rw [double_least, show double.signWeight = 2 ^ 63 from by decide, show double.binade = 2 ^ 52 from by decide, show double.infRung = 2047 * 2 ^ 52 from by decide]
def absD : Datum → Datum
  | .number _ m e => .number false m e
  | .infinity _ => .infinity false
  | .nan _ t => .nan false t
theorem dec_abs (x : Nat) : dec (x % 2 ^ 63) = absD (dec x) := by
  rw [read_eq, read_eq x, Nat.mod_mod, Nat.div_eq_of_lt (Nat.mod_lt x (Nat.two_pow_pos 63))]
  by_cases h1 : x % 2 ^ 63 < 2 ^ 52
  · rw [if_pos h1, if_pos h1]; rfl
  · rw [if_neg h1, if_neg h1]
    by_cases h2 : x % 2 ^ 63 < 2047 * 2 ^ 52
    · rw [if_pos h2, if_pos h2]; rfl
    · rw [if_neg h2, if_neg h2]
      by_cases h3 : x % 2 ^ 63 = 2047 * 2 ^ 52
      · rw [if_pos h3, if_pos h3]; rfl
      · rw [if_neg h3, if_neg h3]; rfl
theorem dec_neg (x : Nat) : dec (Op.negFloat .f64 x) = (dec x).opposite := by
  have e : Op.negFloat .f64 x = x ^^^ 2 ^ 63 := rfl
  rw [e, read_eq, read_eq x]
  have h1 : (x ^^^ 2 ^ 63) % 2 ^ 63 = x % 2 ^ 63 := by
    rw [Nat.xor_mod_two_pow, Nat.mod_self, Nat.xor_zero]
  have h2 : ((x ^^^ 2 ^ 63) / 2 ^ 63 % 2 == 1) = !(x / 2 ^ 63 % 2 == 1) := by
    rw [Nat.xor_div_two_pow, Nat.div_self (Nat.two_pow_pos 63)]
    have h3 : (x / 2 ^ 63 ^^^ 1) % 2 = (x / 2 ^ 63 % 2) ^^^ 1 := by
      have := Nat.xor_mod_two_pow (a := x / 2 ^ 63) (b := 1) (n := 1)
      simpa using this
    rw [h3]
    rcases Nat.mod_two_eq_zero_or_one (x / 2 ^ 63) with h | h <;> rw [h] <;> rfl
  rw [h1, h2]
  by_cases h1 : x % 2 ^ 63 < 2 ^ 52
  · rw [if_pos h1, if_pos h1]; rfl
  · rw [if_neg h1, if_neg h1]
    by_cases h2 : x % 2 ^ 63 < 2047 * 2 ^ 52
    · rw [if_pos h2, if_pos h2]; rfl
    · rw [if_neg h2, if_neg h2]
      by_cases h3 : x % 2 ^ 63 = 2047 * 2 ^ 52
      · rw [if_pos h3, if_pos h3]; rfl
      · rw [if_neg h3, if_neg h3]; rfl
theorem abs_word {x : Nat} (h : x < 2 ^ 64) : (Go.bits .andNot .u64 (x : Int) 9223372036854775808).toNat = x % 2 ^ 63 := by
  have h1 := u64_andNot_nat x 9223372036854775808 h (by decide)
  rw [show ((9223372036854775808 : Nat) : Int) = 9223372036854775808 from rfl] at h1
  rw [h1, Int.toNat_natCast, show 18446744073709551615 - 9223372036854775808 = 2 ^ 63 - 1 from by decide, Nat.and_two_pow_sub_one_eq_mod]
theorem fin_neg {x : Nat} : fin (Op.negFloat .f64 x) ↔ fin x := by unfold fin; rw [dec_neg, opp_fin]
theorem V_neg (x : Nat) : V (Op.negFloat .f64 x) = - V x := by unfold V; rw [dec_neg, opp_val]
theorem fin_abs {x : Nat} : fin (x % 2 ^ 63) ↔ fin x := by unfold fin; rw [dec_abs]; cases dec x <;> exact Iff.rfl
theorem V_abs (x : Nat) : V (x % 2 ^ 63) = ((V x).natAbs : Int) := by
  unfold V
  rw [dec_abs]
  cases dec x with
  | number s m e =>
    show signed false m _ = ((signed s m _).natAbs : Int)
    rw [sgn_abs, sgn_nat]
    simp
  | infinity s => rfl
  | nan s t => rfl
/-! ## whole parts -/
theorem cut_le (way : Toward) (neg : Bool) (n d : Nat) (hd : d ≠ 0) : way.cut neg n d ≤ n / 2 + 1 := by
  unfold Toward.cut
  dsimp only
  have hg : 2 ≤ 1 <<< min d (n.log2 + 2) := by
    rw [Nat.shiftLeft_eq, Nat.one_mul]
    have : 1 ≤ min d (n.log2 + 2) := by omega
    exact Nat.le_trans (by decide) (Nat.pow_le_pow_right (n := 2) (by decide) this)
  have h1 : n / (1 <<< min d (n.log2 + 2)) ≤ n / 2 := Nat.div_le_div_left hg (by decide)
  have h2 : ∀ b : Bool, b.toNat ≤ 1 := fun b => by cases b <;> decide
  exact Nat.add_le_add h1 (h2 _)
theorem cut_spec (way : Toward) (s : Bool) (m : Nat) (e : Int) (he : -1074 ≤ e) (hm : m < 2 ^ 53) (P : Nat) (hP : P = 2 ^ 1074) (hb : m * 2 ^ (e + 1074).toNat < 2 ^ 53 * P) :
    way.cut s (m <<< e.toNat) (-e).toNat < 2 ^ 53 ∧ (way.cut s (m <<< e.toNat) (-e).toNat * P = m * 2 ^ (e + 1074).toNat ↔ P ∣ m * 2 ^ (e + 1074).toNat) := by
  have hP0 : 0 < P := hP ▸ Nat.two_pow_pos 1074
  rcases Int.lt_or_le e 0 with h | h
  · have e1 : e.toNat = 0 := by omega
    have e2 : (-e).toNat ≠ 0 := by omega
    rw [e1, Nat.shiftLeft_zero]
    refine ⟨Nat.lt_of_le_of_lt (cut_le way s m _ e2) (by omega), fun h1 => ⟨_, by rw [← h1, Nat.mul_comm]⟩, fun ⟨k, hk⟩ => ?_⟩
    obtain ⟨d, hd⟩ : ∃ d, d = (-e).toNat := ⟨_, rfl⟩
    obtain ⟨E, hE⟩ : ∃ E, E = (e + 1074).toNat := ⟨_, rfl⟩
    have e3 : 1074 = d + E := by clear hP hb hk; omega
    have hP2 : P = 2 ^ d * 2 ^ E := by rw [hP, ← Nat.pow_add, e3]
    have hmk : m = k * 2 ^ d := by
      rw [← hE, hP2, Nat.mul_comm (2 ^ d), Nat.mul_assoc, Nat.mul_comm (2 ^ E)] at hk
      have := Nat.eq_of_mul_eq_mul_right (Nat.two_pow_pos E) hk
      rw [this, Nat.mul_comm]
    rw [← hd, ← hE, hmk]
    by_cases hk0 : k = 0
    · subst hk0
      rw [Nat.zero_mul]
      have : way.cut s 0 d = 0 := by
        unfold Toward.cut
        dsimp only
        rw [Nat.zero_div, Nat.zero_mod]
        cases way <;> simp
      rw [this, Nat.zero_mul, Nat.zero_mul]
    · rw [cut_exact way s k d hk0, Nat.mul_assoc, hP2]
  · have e1 : (-e).toNat = 0 := by omega
    rw [e1, cut_zero, Nat.shiftLeft_eq]
    have e2 : m * 2 ^ (e + 1074).toNat = m * 2 ^ e.toNat * P := by
      have e3 : (e + 1074).toNat = e.toNat + 1074 := by clear hb hP; omega
      rw [e3, Nat.pow_add, hP, Nat.mul_assoc]
    rw [e2] at hb ⊢
    exact ⟨Nat.lt_of_mul_lt_mul_right hb, fun _ => ⟨_, Nat.mul_comm _ _⟩, fun _ => rfl⟩
theorem dvd_sgn (s : Bool) (P q : Nat) : ((P : Int) ∣ (if s then -1 else 1) * (q : Int)) ↔ P ∣ q := by
  cases s
  · simp [Int.natCast_dvd_natCast]
  · simp [Int.natCast_dvd_natCast, Int.dvd_neg]
theorem eq_sgn (s : Bool) (a b : Nat) : ((if s then (-1 : Int) else 1) * (a : Int) = (if s then -1 else 1) * (b : Int)) ↔ a = b := by
  cases s
  · simp; omega
  · simp; omega
theorem integ (way : Toward) {y : Nat} (hy : fin y) (P : Nat) (hP : P = 2 ^ 1074) (hb : (V y).natAbs < 2 ^ 53 * P) : ∃ r, integF way y = some r ∧ fin r ∧ (V r = V y ↔ (P : Int) ∣ V y) := by
  obtain ⟨s, m, e, hd⟩ := fin_iff.1 hy
  have he := dec_number hd
  rw [V_of hd, sgn_abs] at hb
  obtain ⟨h1, h2⟩ := cut_spec way s m e he.1 he.2 P hP hb
  obtain ⟨j, hj⟩ : ∃ j, j = 1074 := ⟨_, rfl⟩
  have h0 : ((0 : Int) + 2148).toNat = j + 1074 := by rw [hj]; rfl
  have key := encode_num s (way.cut s (m <<< e.toNat) (-e).toNat) 0 (way.cut s (m <<< e.toNat) (-e).toNat) j (by omega) (by rw [h0]) h1 (pow_lt (a := 53) (N := 2098) h1 (by omega))
  refine ⟨FloatKind.f64.encode (.number s (way.cut s (m <<< e.toNat) (-e).toNat) 0), ?_, key.1, ?_⟩
  · unfold integF
    have hd' : FloatKind.f64.decode y = .number s m e := hd
    rw [hd']
    rfl
  · rw [key.2, V_of hd, sgn_nat, hj, ← hP, eq_sgn, dvd_sgn]
    exact h2
theorem toI {y : Nat} (hy : fin y) (P : Nat) (hP : P = 2 ^ 1074) (hb : (V y).natAbs < 2 ^ 53 * P) : ∃ t, floatToIntVal .f64 y .i64 = some t ∧ t.natAbs < 2 ^ 53 ∧ (t * P = V y ↔ (P : Int) ∣ V y) := by
  obtain ⟨s, m, e, hd⟩ := fin_iff.1 hy
  have he := dec_number hd
  rw [V_of hd, sgn_abs] at hb
  obtain ⟨h1, h2⟩ := cut_spec .zero s m e he.1 he.2 P hP hb
  obtain ⟨q, hq⟩ : ∃ q, q = Toward.zero.cut s (m <<< e.toNat) (-e).toNat := ⟨_, rfl⟩
  rw [← hq] at h1 h2
  have h3 : (signed s q 0).natAbs = q := by rw [sgn_abs, Nat.pow_zero, Nat.mul_one]
  refine ⟨signed s q 0, ?_, by rw [h3]; exact h1, ?_⟩
  · unfold floatToIntVal
    have hd' : FloatKind.f64.decode y = .number s m e := hd
    have h4 : (Datum.number s m e).toInt .zero = some (signed s q 0) := by rw [hq]; rfl
    rw [hd', h4]
    show (if IntKind.i64.min ≤ signed s q 0 ∧ signed s q 0 ≤ IntKind.i64.max then some (signed s q 0) else none) = _
    rw [if_pos]
    rw [show IntKind.i64.min = -9223372036854775808 from by decide, show IntKind.i64.max = 9223372036854775807 from by decide]
    omega
  · rw [V_of hd, sgn_nat, sgn_nat, Nat.pow_zero, Nat.mul_one, Int.mul_assoc, ← Int.natCast_mul, eq_sgn, dvd_sgn]
    exact h2
/-! ## numbers in units of a power of two -/
/-- x is n / 2^k. -/
def Is (x : Nat) (n : Int) (k : Nat) : Prop := fin x ∧ V x = n * 2 ^ (1074 - k)
theorem pow_split {a b c : Nat} (h : a = b + c) (n : Int) : n * 2 ^ a = n * 2 ^ b * 2 ^ c := by rw [h, Int.pow_add, Int.mul_assoc]
theorem Is.abs_lt {x : Nat} {n : Int} {k : Nat} (h : Is x n k) : (V x).natAbs = n.natAbs * 2 ^ (1074 - k) := by rw [h.2, natAbs_mul_pow]
theorem Is.add {x y : Nat} {n m : Int} {k : Nat} (hx : Is x n k) (hy : Is y m k) (h : (n + m).natAbs < 2 ^ 53) : ∃ r, floatBits .add .f64 x y = some r ∧ Is r (n + m) k := by
  obtain ⟨j, hj⟩ : ∃ j, j = 1074 - k := ⟨_, rfl⟩
  unfold Is at *
  rw [← hj] at hx hy ⊢
  exact fadd hx.1 hy.1 (n + m) j (by rw [hx.2, hy.2, Int.add_mul]) h (pow_lt (a := 53) (N := 2098) h (by omega))
theorem Is.sub {x y : Nat} {n m : Int} {k : Nat} (hx : Is x n k) (hy : Is y m k) (h : (n - m).natAbs < 2 ^ 53) : ∃ r, floatBits .sub .f64 x y = some r ∧ Is r (n - m) k := by
  obtain ⟨j, hj⟩ : ∃ j, j = 1074 - k := ⟨_, rfl⟩
  unfold Is at *
  rw [← hj] at hx hy ⊢
  exact fsub hx.1 hy.1 (n - m) j (by rw [hx.2, hy.2, Int.sub_mul]) h (pow_lt (a := 53) (N := 2098) h (by omega))
theorem Is.mul {x y : Nat} {n m : Int} {k l : Nat} (hx : Is x n k) (hy : Is y m l) (h : (n * m).natAbs < 2 ^ 53) (hkl : k + l ≤ 1074) : ∃ r, floatBits .mul .f64 x y = some r ∧ Is r (n * m) (k + l) := by
  obtain ⟨j, hj⟩ : ∃ j, j = 1074 - (k + l) := ⟨_, rfl⟩
  obtain ⟨a, ha⟩ : ∃ a, a = 1074 - k := ⟨_, rfl⟩
  obtain ⟨b, hb⟩ : ∃ b, b = 1074 - l := ⟨_, rfl⟩
  obtain ⟨T, hT⟩ : ∃ T, T = j + 1074 := ⟨_, rfl⟩
  unfold Is at *
  rw [← ha] at hx
  rw [← hb] at hy
  rw [← hj]
  refine fmul hx.1 hy.1 (n * m) j ?_ h (pow_lt (a := 53) (N := 2098) h (by omega))
  rw [hx.2, hy.2, ← hT, pow_split (show T = a + b by omega)]
  generalize (2 : Int) ^ a = A
  generalize (2 : Int) ^ b = B
  rw [Int.mul_assoc, Int.mul_left_comm A, ← Int.mul_assoc, ← Int.mul_assoc]
  
theorem Is.neg {x : Nat} {n : Int} {k : Nat} (h : Is x n k) : Is (Op.negFloat .f64 x) (-n) k := ⟨fin_neg.2 h.1, by rw [V_neg, h.2, Int.neg_mul]⟩
theorem Is.abs {x : Nat} {n : Int} {k : Nat} (h : Is x n k) : Is (x % 2 ^ 63) (n.natAbs : Int) k := ⟨fin_abs.2 h.1, by rw [V_abs, h.abs_lt, Int.natCast_mul, Int.natCast_pow]; rfl⟩
theorem Is.cmp {x y : Nat} {n m : Int} {k : Nat} (hx : Is x n k) (hy : Is y m k) : FloatKind.f64.format.order x y = some (compare n m) := by
  rw [order_fin hx.1 hy.1, hx.2, hy.2, cmp_scale _ _ _ (int_pow_pos _)]
theorem Is.eq {x y : Nat} {n m : Int} {k : Nat} (hx : Is x n k) (hy : Is y m k) : (FloatKind.f64.format.order x y == some .eq) = decide (n = m) := by rw [hx.cmp hy, cmp_eq]
theorem Is.lt {x y : Nat} {n m : Int} {k : Nat} (hx : Is x n k) (hy : Is y m k) : (FloatKind.f64.format.order x y == some .lt) = decide (n < m) := by rw [hx.cmp hy, cmp_lt]
theorem Is.le {x y : Nat} {n m : Int} {k : Nat} (hx : Is x n k) (hy : Is y m k) : (FloatKind.f64.format.order x y == some .lt || FloatKind.f64.format.order x y == some .eq) = decide (n ≤ m) := by
  rw [le_fin hx.1 hy.1, hx.2, hy.2]
  exact decide_eq_decide.2 ⟨fun h => Int.le_of_mul_le_mul_right h (int_pow_pos _), fun h => Int.mul_le_mul_of_nonneg_right h (Int.le_of_lt (int_pow_pos _))⟩
theorem Is.raise {x : Nat} {n : Int} {k : Nat} (h : Is x n k) (l : Nat) (hl : k + l ≤ 1074) : Is x (n * 2 ^ l) (k + l) :=
  ⟨h.1, by rw [h.2, Int.mul_assoc, ← Int.pow_add, show l + (1074 - (k + l)) = 1074 - k by omega]⟩
theorem Is.const {x : Nat} {s : Bool} {m : Nat} {e : Int} (hd : dec x = .number s m e) (n k d : Nat) (hm : m = n * 2 ^ d) (h : (e + 1074).toNat + d = 1074 - k) : Is x ((if s then -1 else 1) * (n : Int)) k := by
  refine ⟨fin_iff.2 ⟨_, _, _, hd⟩, ?_⟩
  rw [V_of hd, sgn_nat, hm, Nat.mul_assoc, ← Nat.pow_add, Nat.add_comm d, h, Int.natCast_mul, Int.natCast_pow, Int.mul_assoc]
  rfl
theorem Is.ofInt (n : Int) (h : n.natAbs < 2 ^ 53) : Is (floatOfInt .f64 n) n 0 := fofInt n h
theorem Is.quo {x y : Nat} {n : Int} {k a : Nat} (hx : Is x n k) (hy : dec y = .number false (2 ^ 52) ((a : Int) - 52)) (ha : k + a ≤ 900) (hn : n.natAbs < 2 ^ 53) : ∃ r, floatBits .quo .f64 x y = some r ∧ Is r n (k + a) := by
  obtain ⟨j, hj⟩ : ∃ j, j = 1074 - (k + a) := ⟨_, rfl⟩
  obtain ⟨b, hb⟩ : ∃ b, b = 1074 - k := ⟨_, rfl⟩
  obtain ⟨c, hc⟩ : ∃ c, c = (1074 - (a : Int)).toNat := ⟨_, rfl⟩
  obtain ⟨T, hT⟩ : ∃ T, T = j + 1074 := ⟨_, rfl⟩
  unfold Is at *
  rw [← hb] at hx
  rw [← hj]
  refine fquo hx.1 hy ⟨by omega, by omega⟩ n j ?_ hn (pow_lt (a := 53) (N := 2098) hn (by omega))
  rw [hx.2, ← hc, ← hT, pow_split (show T = b + c by omega)]
theorem Is.uniq {x : Nat} {n m : Int} {k : Nat} (h : Is x n k) (h' : Is x m k) : n = m :=
  Int.eq_of_mul_eq_mul_right (Int.ne_of_gt (int_pow_pos _)) (h.2.symm.trans h'.2)
theorem is_one : Is 4607182418800017408 64 6 := Is.const (s := false) (m := 2 ^ 52) (e := -52) (by decide +kernel) 64 6 46 (by decide) (by decide)
theorem is_neg_one : Is 13830554455654793216 (-64) 6 := Is.const (s := true) (m := 2 ^ 52) (e := -52) (by decide +kernel) 64 6 46 (by decide) (by decide)
theorem is_four : Is 4616189618054758400 256 6 := Is.const (s := false) (m := 2 ^ 52) (e := -50) (by decide +kernel) 256 6 44 (by decide) (by decide)
theorem is_half : Is 4602678819172646912 32 6 := Is.const (s := false) (m := 2 ^ 52) (e := -53) (by decide +kernel) 32 6 47 (by decide) (by decide)
theorem is_quarter : Is 4598175219545276416 16 6 := Is.const (s := false) (m := 2 ^ 52) (e := -54) (by decide +kernel) 16 6 48 (by decide) (by decide)
theorem is_edge : Is 4652218415073722368 4194304 12 := Is.const (s := false) (m := 2 ^ 52) (e := -42) (by decide +kernel) 4194304 12 30 (by decide) (by decide)
theorem is_neg_edge : Is 13875590451928498176 (-4194304) 12 := Is.const (s := true) (m := 2 ^ 52) (e := -42) (by decide +kernel) 4194304 12 30 (by decide) (by decide)
theorem is_zero (k : Nat) : Is 0 0 k := ⟨fin_iff.2 ⟨false, 0, -1074, by decide +kernel⟩, by rw [V_of (s := false) (m := 0) (e := -1074) (by decide +kernel), sgn_nat, Nat.zero_mul, Int.zero_mul]; rfl⟩
/-! ## what lies on a grid -/
/-- x is a whole number of units 2^-a, not greater than B of them. -/
def On (a B x : Nat) : Prop := ∃ n : Int, Is x n a ∧ n.natAbs ≤ B
theorem scaled {x C a B : Nat} (ha : a ≤ 12) (hC : Is C (2 ^ a) 0) (hB : B ≤ 2 ^ 22) (hx : fin x) (hb : (V x).natAbs ≤ B * 2 ^ (1074 - a)) (P : Nat) (hP : P = 2 ^ 1074) :
    ∃ y, floatBits .mul .f64 x C = some y ∧ fin y ∧ V y = V x * 2 ^ a ∧ (V y).natAbs < 2 ^ 53 * P ∧ ((P : Int) ∣ V y ↔ On a B x) := by
  obtain ⟨s, m, e, hd⟩ := fin_iff.1 hx
  have he := dec_number hd
  obtain ⟨E, hE⟩ : ∃ E, E = (e + 1074).toNat := ⟨_, rfl⟩
  obtain ⟨J, hJ⟩ : ∃ J, J = 1074 - a := ⟨_, rfl⟩
  obtain ⟨S, hS⟩ : ∃ S, S = 1074 - 0 := ⟨_, rfl⟩
  have hPJ : P = 2 ^ J * 2 ^ a := by rw [hP, ← Nat.pow_add, show 1074 = J + a by omega]
  have hV : V x = (if s then -1 else 1) * ((m : Int) * 2 ^ E) := by rw [V_of hd, sgn_nat, ← hE, Int.natCast_mul, Int.natCast_pow]; rfl
  have hm : m * 2 ^ E ≤ B * 2 ^ J := by
    have h1 := hb
    rw [V_of hd, sgn_abs, ← hE, ← hJ] at h1
    exact h1
  have hn : ((if s then (-1 : Int) else 1) * (m : Int)).natAbs = m := by cases s <;> simp
  obtain ⟨T, hT⟩ : ∃ T, T = E + a + 1074 := ⟨_, rfl⟩
  obtain ⟨y, h1, h2, h3⟩ := fmul hx hC.1 ((if s then -1 else 1) * (m : Int)) (E + a) (by
    rw [hV, hC.2, ← hS, ← hT, show T = E + (a + S) by omega, Int.pow_add, Int.pow_add]
    rw [Int.mul_assoc, Int.mul_assoc, Int.mul_assoc]) (by rw [hn]; exact he.2) (by
    rw [hn, Nat.pow_add, ← Nat.mul_assoc]
    refine Nat.lt_of_le_of_lt (Nat.mul_le_mul_right (2 ^ a) hm) ?_
    rw [Nat.mul_assoc, ← Nat.pow_add]
    exact pow_lt (a := 23) (N := 2098) (by omega) (by omega))
  have h4 : V y = V x * 2 ^ a := by rw [h3, hV, Int.pow_add, Int.mul_assoc, Int.mul_assoc, Int.mul_assoc]
  refine ⟨y, h1, h2, h4, ?_, ?_⟩
  · rw [h4, natAbs_mul_pow]
    have h5 := Nat.mul_le_mul_right (2 ^ a) hb
    rw [← hJ, Nat.mul_assoc, ← hPJ] at h5
    refine Nat.lt_of_le_of_lt h5 (Nat.mul_lt_mul_of_pos_right (by omega) (hP ▸ Nat.two_pow_pos 1074))
  · rw [h4]
    have hcast : (P : Int) = 2 ^ J * 2 ^ a := by rw [hPJ, Int.natCast_mul, Int.natCast_pow, Int.natCast_pow]; rfl
    constructor
    · rintro ⟨k, hk⟩
      have h5 : V x = k * 2 ^ J := by
        rw [hcast, Int.mul_assoc, Int.mul_comm (2 ^ a) k, ← Int.mul_assoc] at hk
        rw [Int.eq_of_mul_eq_mul_right (Int.ne_of_gt (int_pow_pos a)) hk, Int.mul_comm]
      refine ⟨k, ⟨hx, by rw [← hJ]; exact h5⟩, ?_⟩
      rw [h5, natAbs_mul_pow, ← hJ] at hb
      exact Nat.le_of_mul_le_mul_right hb (Nat.two_pow_pos J)
    · rintro ⟨k, hk, _⟩
      refine ⟨k, ?_⟩
      rw [hk.2, ← hJ, hcast, Int.mul_assoc, Int.mul_comm]
/-- The whole part stays the number just where that lies on the grid. -/
theorem floor_on {x C a B : Nat} (ha : a ≤ 12) (hC : Is C (2 ^ a) 0) (hB : B ≤ 2 ^ 22) (hx : fin x) (hb : (V x).natAbs ≤ B * 2 ^ (1074 - a)) :
    ∃ y r, floatBits .mul .f64 x C = some y ∧ integF .down y = some r ∧ ((FloatKind.f64.format.order r y == some .eq) = true ↔ On a B x) := by
  obtain ⟨P, hP⟩ : ∃ P, P = 2 ^ 1074 := ⟨_, rfl⟩
  obtain ⟨y, h1, h2, h3, h4, h5⟩ := scaled ha hC hB hx hb P hP
  obtain ⟨r, h6, h7, h8⟩ := integ .down h2 P hP h4
  exact ⟨y, r, h1, h6, by rw [eq_fin h7 h2, decide_eq_true_iff, h8, h5]⟩
theorem int_on {x C a B : Nat} (ha : a ≤ 12) (hC : Is C (2 ^ a) 0) (hB : B ≤ 2 ^ 22) (hx : fin x) (hb : (V x).natAbs ≤ B * 2 ^ (1074 - a)) :
    ∃ y t, floatBits .mul .f64 x C = some y ∧ floatToIntVal .f64 y .i64 = some t ∧ ((FloatKind.f64.format.order (floatOfInt .f64 t) y == some .eq) = true ↔ On a B x) := by
  obtain ⟨P, hP⟩ : ∃ P, P = 2 ^ 1074 := ⟨_, rfl⟩
  obtain ⟨y, h1, h2, h3, h4, h5⟩ := scaled ha hC hB hx hb P hP
  obtain ⟨t, h6, h7, h8⟩ := toI h2 P hP h4
  obtain ⟨j, hj⟩ : ∃ j, j = 1074 := ⟨_, rfl⟩
  rw [← hj] at hP
  obtain ⟨h9, h10⟩ := fofInt_ t h7 j hj
  refine ⟨y, t, h1, h6, ?_⟩
  rw [eq_fin h9 h2, decide_eq_true_iff, h10, ← h5, ← h8, hP, Int.natCast_pow]
  rfl
theorem On.fin {a B x : Nat} (h : On a B x) : fin x := h.elim fun _ h => h.1.1
theorem On.bound {a B x : Nat} (h : On a B x) : (V x).natAbs ≤ B * 2 ^ (1074 - a) := by
  obtain ⟨n, h1, h2⟩ := h
  rw [h1.abs_lt]
  exact Nat.mul_le_mul_right _ h2
end Go.Proofs.Ythfcafllcgjepaa.Flt
