import Derived.Laws.FloatArith
import Derived.Laws.BitsAllLaws
import Derived.Test.YthfcafllcgjepaaMeterNoneFltW
/- Floats by their bits: what they stand for, in units of 2^-1074; exact sums, products, quotients by powers of two. -/
namespace Go.Proofs.Ythfcafllcgjepaa.Flt
open Ieee Go.Proofs.YthfcafllcgjepaaW.PrintWords

/-- What a word of double stands for. -/
abbrev dec (x : Nat) : Datum := FloatKind.f64.decode x
theorem sgn_add (s : Bool) (m a b : Nat) : signed s m (a + b) = signed s m a * 2 ^ b := by
  unfold signed
  have h : ((m <<< (a + b) : Nat) : Int) = ((m <<< a : Nat) : Int) * 2 ^ b := by
    rw [Nat.shiftLeft_eq, Nat.shiftLeft_eq, Nat.pow_add, ← Nat.mul_assoc]
    push_cast
    rfl
  cases s
  · simpa using h
  · simp only [if_true]
    rw [h, Int.neg_mul]
def valD : Datum → Int
  | .number s m e => signed s m (e + 1074).toNat
  | _ => 0
def finD : Datum → Bool
  | .number .. => true
  | _ => false
/-- The number, in units of 2^-1074 (of what is no finite number: 0). -/
def V (x : Nat) : Int := valD (dec x)
def fin (x : Nat) : Prop := finD (dec x) = true
theorem fin_iff {x : Nat} : fin x ↔ ∃ s m e, dec x = .number s m e := by
  unfold fin
  cases h : dec x <;> simp [finD]
theorem double_least : double.leastPlace = -1074 := by decide
theorem dec_number {x : Nat} {s : Bool} {m : Nat} {e : Int} (h : dec x = .number s m e) : -1074 ≤ e ∧ m < 2 ^ 53 := by
  have h2 : double.read x = .number s m e := h
  unfold Format.read at h2
  dsimp only at h2
  rw [double_least] at h2
  have hb : double.binade = 2 ^ 52 := by decide
  rw [hb] at h2
  split at h2
  · rename_i hlt
    injection h2 with h3 h4 h5
    omega
  · split at h2
    · injection h2 with h3 h4 h5
      have : x % double.signWeight % 2 ^ 52 < 2 ^ 52 := Nat.mod_lt _ (by decide)
      omega
    · split at h2 <;> cases h2
theorem V_of {x : Nat} {s : Bool} {m : Nat} {e : Int} (h : dec x = .number s m e) : V x = signed s m (e + 1074).toNat := by unfold V; rw [h]; rfl
/-! ## writing -/
theorem log2_mul_pow {m a : Nat} (h : m ≠ 0) : (m * 2 ^ a).log2 = m.log2 + a := by
  have hp : 0 < 2 ^ a := Nat.two_pow_pos a
  have h2 : m * 2 ^ a ≠ 0 := Nat.mul_ne_zero h (by omega)
  have h3 : m.log2 + a ≤ (m * 2 ^ a).log2 := by
    rw [Nat.le_log2 h2, Nat.pow_add]
    exact Nat.mul_le_mul_right _ (Nat.log2_self_le h)
  have h4 : (m * 2 ^ a).log2 < m.log2 + a + 1 := by
    rw [Nat.log2_lt h2, show m.log2 + a + 1 = (m.log2 + 1) + a from by omega, Nat.pow_add]
    exact (Nat.mul_lt_mul_right hp).2 Nat.lt_log2_self
  omega
theorem cut_zero (way : Toward) (neg : Bool) (n : Nat) : way.cut neg n 0 = n := by
  unfold Toward.cut
  rw [Nat.min_eq_left (Nat.zero_le _)]
  have : n % (1 <<< 0) = 0 := by rw [Nat.shiftLeft_zero]; omega
  simp only [this]
  cases way <;> simp
theorem cut_exact (way : Toward) (neg : Bool) (k d : Nat) (hk : k ≠ 0) : way.cut neg (k * 2 ^ d) d = k := by
  unfold Toward.cut
  dsimp only
  rw [log2_mul_pow hk, Nat.min_eq_left (by omega), Nat.shiftLeft_eq, Nat.one_mul]
  have hp : 0 < 2 ^ d := Nat.two_pow_pos d
  rw [Nat.mul_div_cancel _ hp]
  have : k * 2 ^ d % 2 ^ d = 0 := Nat.mul_mod_left ..
  simp only [this]
  have h2 : (2 ^ d == 2 * 0) = false := by rw [beq_eq_false_iff_ne]; omega
  cases way <;> simp [h2]
theorem dec_word (neg : Bool) (rung : Nat) (h : rung < 2047 * 2 ^ 52) : dec (double.word neg rung) = if rung < 2 ^ 52 then .number neg rung (-1074) else .number neg (2 ^ 52 + rung % 2 ^ 52) (-1074 + (rung / 2 ^ 52 - 1 : Nat)) := by
  show double.read _ = _
  unfold Format.read
  dsimp only
  have hs : double.signWeight = 2 ^ 63 := by decide
  have hb : double.binade = 2 ^ 52 := by decide
  have hi : double.infRung = 2047 * 2 ^ 52 := by decide
  rw [double_least, hs, hb, hi]
  unfold Format.word
  rw [hs]
  cases neg with
  | true =>
    simp only [if_true]
    have e1 : (2 ^ 63 + rung) / 2 ^ 63 % 2 = 1 := by omega
    have e2 : (2 ^ 63 + rung) % 2 ^ 63 = rung := by omega
    rw [e1, e2]
    by_cases c : rung < 2 ^ 52
    · rw [if_pos c, if_pos c]; rfl
    · rw [if_neg c, if_neg c, if_pos h]; rfl
  | false =>
    simp only [Bool.false_eq_true, if_false]
    have e1 : rung / 2 ^ 63 % 2 = 0 := by omega
    have e2 : rung % 2 ^ 63 = rung := by omega
    rw [e1, e2]
    by_cases c : rung < 2 ^ 52
    · rw [if_pos c, if_pos c]; rfl
    · rw [if_neg c, if_neg c, if_pos h]; rfl
theorem pow_cancel {a b p e j n : Nat} (h : a * 2 ^ p = b * 2 ^ (j + n)) (hp : p = e + n) : a * 2 ^ e = b * 2 ^ j := by
  subst hp
  rw [Nat.pow_add, Nat.pow_add, ← Nat.mul_assoc, ← Nat.mul_assoc] at h
  exact Nat.eq_of_mul_eq_mul_right (Nat.two_pow_pos n) h
/-- What is written of a number that double has. -/
theorem write_exact (neg : Bool) (mag : Nat) (place : Int) (q j : Nat) (hp : -2148 ≤ place) (hm : mag * 2 ^ (place + 2148).toNat = q * 2 ^ (j + 1074)) (hq : q < 2 ^ 53) (hj : q * 2 ^ j < 2 ^ 2098) :
    ∃ m e, dec (FloatKind.f64.encode (.number neg mag place)) = .number neg m e ∧ -1074 ≤ e ∧ m * 2 ^ (e + 1074).toNat = q * 2 ^ j := by
  have hs : double.signWeight = 2 ^ 63 := by decide
  have hb : double.binade = 2 ^ 52 := by decide
  have hi : double.infRung = 2047 * 2 ^ 52 := by decide
  show ∃ m e, dec (double.nearest neg mag place) = _ ∧ _
  unfold Format.nearest
  by_cases h0 : mag = 0
  · rw [if_pos h0, dec_word neg 0 (by decide), if_pos (by decide)]
    refine ⟨0, -1074, rfl, by omega, ?_⟩
    subst h0
    rw [Nat.zero_mul] at hm
    have : q = 0 := by
      rcases Nat.mul_eq_zero.1 hm.symm with h | h
      · exact h
      · exact absurd h (by have := Nat.two_pow_pos (j + 1074); omega)
    subst this
    simp
  · rw [if_neg h0]
    dsimp only
    have hq0 : q ≠ 0 := by
      intro h
      subst h
      rw [Nat.zero_mul] at hm
      rcases Nat.mul_eq_zero.1 hm with h | h
      · exact h0 h
      · exact absurd h (by have := Nat.two_pow_pos (place + 2148).toNat; omega)
    have hlog : (mag.log2 : Int) + place + 2148 = q.log2 + j + 1074 := by
      have h1 := log2_mul_pow (a := (place + 2148).toNat) h0
      have h2 := log2_mul_pow (a := j + 1074) hq0
      rw [hm, h2] at h1
      omega
    have hq52 : q.log2 ≤ 52 := by have := (Nat.log2_lt hq0 (k := 53)).2 hq; omega
    rw [double_least, hb, hi, show ((double.fractionBits : Nat) : Int) = 52 from rfl]
    -- the place of the last digit
    obtain ⟨last, hlast⟩ : ∃ last, last = max (place + (mag.log2 : Int) - 52) (-1074) := ⟨_, rfl⟩
    rw [← hlast]
    have hl1 : -1074 ≤ last := by omega
    have hl2 : last ≤ j - 1074 := by omega
    obtain ⟨kept, hkept⟩ : ∃ kept, kept = Toward.even.cut neg (mag <<< (place - last).toNat) (last - place).toNat := ⟨_, rfl⟩
    rw [← hkept]
    have hkv : kept * 2 ^ (last + 1074).toNat = q * 2 ^ j := by
      by_cases c : last ≤ place
      · rw [show (last - place).toNat = 0 from by omega, cut_zero, Nat.shiftLeft_eq] at hkept
        rw [hkept, Nat.mul_assoc, ← Nat.pow_add, show (place - last).toNat + (last + 1074).toNat = (place + 1074).toNat from by omega]
        exact pow_cancel hm (by omega)
      · have hD : mag = q * 2 ^ (j - 1074 - last : Int).toNat * 2 ^ (last - place).toNat := by
          have h1 : mag * 2 ^ (place + 2148).toNat = q * 2 ^ (j - 1074 - last : Int).toNat * 2 ^ (last - place).toNat * 2 ^ (place + 2148).toNat := by
            rw [hm, Nat.mul_assoc, Nat.mul_assoc, ← Nat.pow_add, ← Nat.pow_add]
            congr 2
            omega
          exact Nat.eq_of_mul_eq_mul_right (Nat.two_pow_pos _) h1
        rw [show (place - last).toNat = 0 from by omega, Nat.shiftLeft_zero] at hkept
        have hne : q * 2 ^ (j - 1074 - last : Int).toNat ≠ 0 := Nat.mul_ne_zero hq0 (by have := Nat.two_pow_pos (j - 1074 - last : Int).toNat; omega)
        rw [hD, cut_exact _ _ _ _ hne] at hkept
        rw [hkept, Nat.mul_assoc, ← Nat.pow_add]
        congr 2
        omega
    have hk0 : kept ≠ 0 := by
      intro h
      rw [h, Nat.zero_mul] at hkv
      rcases Nat.mul_eq_zero.1 hkv.symm with h | h
      · exact hq0 h
      · exact absurd h (by have := Nat.two_pow_pos j; omega)
    have hklog : (kept.log2 : Int) + (last + 1074) = q.log2 + j := by
      have h1 := log2_mul_pow (a := (last + 1074).toNat) hk0
      have h2 := log2_mul_pow (a := j) hq0
      rw [hkv, h2] at h1
      omega
    have hk53 : kept < 2 ^ 53 := (Nat.log2_lt hk0 (k := 53)).1 (by omega)
    have hbig : q.log2 + j < 2098 := by
      have h1 := log2_mul_pow (a := j) hq0
      have h2 : q * 2 ^ j ≠ 0 := Nat.mul_ne_zero hq0 (by have := Nat.two_pow_pos j; omega)
      have h3 := (Nat.log2_lt h2 (k := 2098)).2 hj
      omega
    obtain ⟨l, hl⟩ : ∃ l : Nat, last + 1074 = (l : Int) := ⟨(last + 1074).toNat, by omega⟩
    have hlt : (last - -1074).toNat = l := by omega
    have hlt2 : (last + 1074).toNat = l := by omega
    rw [hlt]
    rw [hlt2] at hkv
    by_cases c : kept < 2 ^ 52
    · have hl0 : l = 0 := by
        have := (Nat.log2_lt hk0 (k := 52)).2 c
        omega
      subst hl0
      rw [Nat.zero_mul, Nat.zero_add, Nat.min_eq_left (by omega), dec_word _ _ (by omega), if_pos c]
      exact ⟨kept, -1074, rfl, by omega, by simpa using hkv⟩
    · have hl45 : l ≤ 2045 := by
        have := (Nat.le_log2 hk0 (k := 52)).2 (by omega)
        omega
      have hr : l * 2 ^ 52 + kept < 2047 * 2 ^ 52 := by omega
      rw [Nat.min_eq_left (by omega), dec_word _ _ hr, if_neg (by omega)]
      have e1 : (l * 2 ^ 52 + kept) % 2 ^ 52 = kept - 2 ^ 52 := by omega
      have e2 : (l * 2 ^ 52 + kept) / 2 ^ 52 = l + 1 := by omega
      rw [e1, e2]
      refine ⟨_, _, rfl, by omega, ?_⟩
      rw [show 2 ^ 52 + (kept - 2 ^ 52) = kept from by omega, show (-1074 + ((l + 1 - 1 : Nat) : Int) + 1074).toNat = l from by omega]
      exact hkv
/-! ## operations -/
theorem sgn_nat (s : Bool) (m a : Nat) : signed s m a = (if s then -1 else 1) * ((m * 2 ^ a : Nat) : Int) := by
  unfold signed
  rw [Nat.shiftLeft_eq]
  cases s <;> simp
theorem sgn_abs (s : Bool) (m a : Nat) : (signed s m a).natAbs = m * 2 ^ a := by
  rw [sgn_nat]
  cases s
  · rw [if_neg (by decide), Int.one_mul, Int.natAbs_natCast]
  · rw [if_pos rfl, Int.neg_mul, Int.one_mul, Int.natAbs_neg, Int.natAbs_natCast]
theorem encode_num (neg : Bool) (mag : Nat) (place : Int) (q j : Nat) (hp : -2148 ≤ place) (hm : mag * 2 ^ (place + 2148).toNat = q * 2 ^ (j + 1074)) (hq : q < 2 ^ 53) (hj : q * 2 ^ j < 2 ^ 2098) :
    fin (FloatKind.f64.encode (.number neg mag place)) ∧ V (FloatKind.f64.encode (.number neg mag place)) = (if neg then -1 else 1) * ((q * 2 ^ j : Nat) : Int) := by
  obtain ⟨m, e, hd, he, hv⟩ := write_exact neg mag place q j hp hm hq hj
  exact ⟨fin_iff.2 ⟨_, _, _, hd⟩, by rw [V_of hd, sgn_nat, hv]⟩
theorem not_nan {neg : Bool} {mag : Nat} {place : Int} {s : Bool} {t : Nat} : dec (FloatKind.f64.encode (.number neg mag place)) ≠ .nan s t := by
  have hs : double.signWeight = 2 ^ 63 := by decide
  have hb : double.binade = 2 ^ 52 := by decide
  have hi : double.infRung = 2047 * 2 ^ 52 := by decide
  obtain ⟨rung, hr, he⟩ : ∃ rung, rung ≤ 2047 * 2 ^ 52 ∧ double.nearest neg mag place = double.word neg rung := by
    unfold Format.nearest
    by_cases h0 : mag = 0
    · rw [if_pos h0]; exact ⟨0, by omega, rfl⟩
    · rw [if_neg h0]; exact ⟨_, by rw [hi]; exact Nat.min_le_right _ _, rfl⟩
  show dec (double.nearest neg mag place) ≠ _
  rw [he]
  by_cases c : rung < 2047 * 2 ^ 52
  · rw [dec_word _ _ c]
    split <;> exact fun h => by cases h
  · have : rung = 2047 * 2 ^ 52 := by omega
    subst this
    have h1 : dec (double.word false (2047 * 2 ^ 52)) = .infinity false := by decide +kernel
    have h2 : dec (double.word true (2047 * 2 ^ 52)) = .infinity true := by decide +kernel
    cases neg
    · rw [h1]; exact fun h => by cases h
    · rw [h2]; exact fun h => by cases h
theorem natAbs_mul_pow (n : Int) (a : Nat) : (n * 2 ^ a).natAbs = n.natAbs * 2 ^ a := by
  rw [Int.natAbs_mul, Int.natAbs_pow]
  rfl
theorem int_pow_pos (a : Nat) : (0 : Int) < 2 ^ a := by
  have h := Nat.two_pow_pos a
  have : ((2 ^ a : Nat) : Int) = (2 : Int) ^ a := by rw [Int.natCast_pow]; rfl
  rw [← this]
  omega
theorem natAbs_sign (T : Int) (b : Bool) (hb : T ≠ 0 → b = decide (T < 0)) : (if b then (-1 : Int) else 1) * (T.natAbs : Int) = T := by
  by_cases h0 : T = 0
  · subst h0; cases b <;> rfl
  · rw [hb h0]
    by_cases c : T < 0
    · rw [if_pos (decide_eq_true c)]; omega
    · rw [if_neg (by rw [decide_eq_false c]; decide)]; omega
theorem cancel_pow {n c : Int} {q j N : Nat} (h : n * 2 ^ (j + N) = c * ((q * 2 ^ (j + N) : Nat) : Int)) : c * ((q * 2 ^ j : Nat) : Int) = n * 2 ^ j := by
  have hp := int_pow_pos N
  refine Int.eq_of_mul_eq_mul_right (Int.ne_of_gt hp) ?_
  rw [Int.mul_assoc n, ← Int.pow_add, h, Int.mul_assoc]
  congr 1
  rw [Nat.pow_add, ← Nat.mul_assoc, Int.natCast_mul (q * 2 ^ j), Int.natCast_pow 2 N]
  rfl
/-- A sum of two data that are numbers, written. -/
theorem sum_exact {a b : Datum} (ha : finD a = true) (hb : finD b = true) (hpa : ∀ s m e, a = .number s m e → -1074 ≤ e) (hpb : ∀ s m e, b = .number s m e → -1074 ≤ e) (n : Int) (j : Nat) (h : valD a + valD b = n * 2 ^ j) (hn : n.natAbs < 2 ^ 53) (hj : n.natAbs * 2 ^ j < 2 ^ 2098) :
    ∃ r, (a.sum b).map double.write = some r ∧ fin r ∧ V r = n * 2 ^ j := by
  cases a with
  | infinity => cases ha
  | nan => cases ha
  | number s m e =>
  cases b with
  | infinity => cases hb
  | nan => cases hb
  | number t k f =>
  have he := hpa _ _ _ rfl
  have hf := hpb _ _ _ rfl
  obtain ⟨base, hbase⟩ : ∃ base, base = min e f := ⟨_, rfl⟩
  obtain ⟨T, hT⟩ : ∃ T, T = signed s m (e - base).toNat + signed t k (f - base).toNat := ⟨_, rfl⟩
  have hsum : T * 2 ^ (base + 1074).toNat = n * 2 ^ j := by
    rw [hT, Int.add_mul, ← sgn_add, ← sgn_add, show (e - base).toNat + (base + 1074).toNat = (e + 1074).toNat from by omega, show (f - base).toNat + (base + 1074).toNat = (f + 1074).toNat from by omega]
    exact h
  have habs : T.natAbs * 2 ^ (base + 1074).toNat = n.natAbs * 2 ^ j := by rw [← natAbs_mul_pow, ← natAbs_mul_pow, hsum]
  have hmag : T.natAbs * 2 ^ (base + 2148).toNat = n.natAbs * 2 ^ (j + 1074) := by
    rw [show (base + 2148).toNat = (base + 1074).toNat + 1074 from by omega, Nat.pow_add, Nat.pow_add, ← Nat.mul_assoc, ← Nat.mul_assoc, habs]
  refine ⟨double.write (.number (if T = 0 then s && t else decide (T < 0)) T.natAbs base), by subst hT; subst hbase; rfl, ?_⟩
  have key := encode_num (if T = 0 then s && t else decide (T < 0)) T.natAbs base n.natAbs j (by omega) hmag hn hj
  refine ⟨key.1, key.2.trans ?_⟩
  rw [← habs]
  rw [Int.natCast_mul, ← Int.mul_assoc, natAbs_sign T _ (fun h0 => by rw [if_neg h0]), ← hsum, Int.natCast_pow]
  rfl
theorem opp_val (d : Datum) : valD d.opposite = - valD d := by
  cases d with
  | number s m e =>
    show signed (!s) m _ = - signed s m _
    rw [sgn_nat, sgn_nat]
    cases s <;> simp
  | infinity s => rfl
  | nan s t => rfl
theorem opp_fin (d : Datum) : finD d.opposite = finD d := by cases d <;> rfl
theorem place_of (x : Nat) : ∀ s m e, dec x = .number s m e → -1074 ≤ e := fun _ _ _ h => (dec_number h).1
theorem place_opp (x : Nat) : ∀ s m e, (dec x).opposite = .number s m e → -1074 ≤ e := fun s m e h => by
  cases hd : dec x with
  | number s' m' e' => rw [hd] at h; cases h; exact (dec_number hd).1
  | infinity s' => rw [hd] at h; cases h
  | nan s' t' => rw [hd] at h; cases h
theorem fadd {x y : Nat} (hx : fin x) (hy : fin y) (n : Int) (j : Nat) (h : V x + V y = n * 2 ^ j) (hn : n.natAbs < 2 ^ 53) (hj : n.natAbs * 2 ^ j < 2 ^ 2098) : ∃ r, floatBits .add .f64 x y = some r ∧ fin r ∧ V r = n * 2 ^ j :=
  sum_exact hx hy (place_of x) (place_of y) n j h hn hj
theorem fsub {x y : Nat} (hx : fin x) (hy : fin y) (n : Int) (j : Nat) (h : V x - V y = n * 2 ^ j) (hn : n.natAbs < 2 ^ 53) (hj : n.natAbs * 2 ^ j < 2 ^ 2098) : ∃ r, floatBits .sub .f64 x y = some r ∧ fin r ∧ V r = n * 2 ^ j :=
  sum_exact hx ((opp_fin _).trans hy) (place_of x) (place_opp y) n j (by rw [opp_val]; show V x + -(V y) = _; omega) hn hj
theorem fmul {x y : Nat} (hx : fin x) (hy : fin y) (n : Int) (j : Nat) (h : V x * V y = n * 2 ^ (j + 1074)) (hn : n.natAbs < 2 ^ 53) (hj : n.natAbs * 2 ^ j < 2 ^ 2098) : ∃ r, floatBits .mul .f64 x y = some r ∧ fin r ∧ V r = n * 2 ^ j := by
  obtain ⟨s, m, e, hd⟩ := fin_iff.1 hx
  obtain ⟨t, k, f, hf⟩ := fin_iff.1 hy
  have he := (dec_number hd).1
  have hf1 := (dec_number hf).1
  rw [V_of hd, V_of hf, sgn_nat, sgn_nat] at h
  have hmag : m * k * 2 ^ (e + f + 2148).toNat = n.natAbs * 2 ^ (j + 1074) := by
    have h2 := congrArg Int.natAbs h
    rw [natAbs_mul_pow, Int.natAbs_mul, Int.natAbs_mul, Int.natAbs_mul, Int.natAbs_natCast, Int.natAbs_natCast] at h2
    have h3 : ((if s then (-1 : Int) else 1)).natAbs = 1 := by cases s <;> rfl
    have h4 : ((if t then (-1 : Int) else 1)).natAbs = 1 := by cases t <;> rfl
    rw [h3, h4, Nat.one_mul, Nat.one_mul] at h2
    rw [← h2, show (e + f + 2148).toNat = (e + 1074).toNat + (f + 1074).toNat from by omega, Nat.pow_add]
    simp only [Nat.mul_assoc, Nat.mul_left_comm]
  refine ⟨_, by show ((dec x).product (dec y)).map double.write = _; rw [hd, hf]; rfl, ?_⟩
  have key := encode_num (s ^^ t) (m * k) (e + f) n.natAbs j (by omega) hmag hn hj
  refine ⟨key.1, key.2.trans ?_⟩
  have h5 : ((m * k * 2 ^ (e + f + 2148).toNat : Nat) : Int) = ((n.natAbs * 2 ^ (j + 1074) : Nat) : Int) := by rw [hmag]
  have h6 : ((if s then (-1 : Int) else 1) * ((m * 2 ^ (e + 1074).toNat : Nat) : Int)) * ((if t then (-1 : Int) else 1) * ((k * 2 ^ (f + 1074).toNat : Nat) : Int)) = (if (s ^^ t) then (-1 : Int) else 1) * ((n.natAbs * 2 ^ (j + 1074) : Nat) : Int) := by
    rw [← h5, show (e + f + 2148).toNat = (e + 1074).toNat + (f + 1074).toNat from by omega, Nat.pow_add]
    have h7 : m * k * (2 ^ (e + 1074).toNat * 2 ^ (f + 1074).toNat) = (m * 2 ^ (e + 1074).toNat) * (k * 2 ^ (f + 1074).toNat) := by simp only [Nat.mul_assoc, Nat.mul_left_comm]
    rw [h7]
    generalize m * 2 ^ (e + 1074).toNat = A
    generalize k * 2 ^ (f + 1074).toNat = B
    rw [Int.natCast_mul]
    cases s <;> cases t <;> simp [Int.mul_neg, Int.neg_mul]
  rw [h] at h6
  exact cancel_pow h6
/-! ## order -/
theorem cmp_scale (a b : Int) (p : Int) (hp : 0 < p) : compare (a * p) (b * p) = compare a b := by
  show compareOfLessAndEq _ _ = compareOfLessAndEq _ _
  unfold compareOfLessAndEq
  have h1 : a * p < b * p ↔ a < b := Int.mul_lt_mul_right hp
  have h2 : a * p = b * p ↔ a = b := ⟨fun h => Int.eq_of_mul_eq_mul_right (Int.ne_of_gt hp) h, fun h => by rw [h]⟩
  simp only [h1, h2]
theorem order_fin {x y : Nat} (hx : fin x) (hy : fin y) : FloatKind.f64.format.order x y = some (compare (V x) (V y)) := by
  obtain ⟨s, m, e, hd⟩ := fin_iff.1 hx
  obtain ⟨t, k, f, hf⟩ := fin_iff.1 hy
  have he := (dec_number hd).1
  have hf1 := (dec_number hf).1
  show (dec x).order (dec y) = _
  rw [hd, hf, V_of hd, V_of hf]
  show some (compare (signed s m (e - min e f).toNat) (signed t k (f - min e f).toNat)) = _
  rw [← cmp_scale _ _ (2 ^ (min e f + 1074).toNat) (int_pow_pos _), ← sgn_add, ← sgn_add, show (e - min e f).toNat + (min e f + 1074).toNat = (e + 1074).toNat from by omega, show (f - min e f).toNat + (min e f + 1074).toNat = (f + 1074).toNat from by omega]
theorem cmp_lt (a b : Int) : (some (compare a b) == some Ordering.lt) = decide (a < b) := by
  show (some (compareOfLessAndEq a b) == _) = _
  unfold compareOfLessAndEq
  by_cases h : a < b
  · rw [if_pos h, decide_eq_true h]; rfl
  · rw [if_neg h, decide_eq_false h]
    by_cases h2 : a = b
    · rw [if_pos h2]; rfl
    · rw [if_neg h2]; rfl
theorem cmp_eq (a b : Int) : (some (compare a b) == some Ordering.eq) = decide (a = b) := by
  show (some (compareOfLessAndEq a b) == _) = _
  unfold compareOfLessAndEq
  by_cases h : a < b
  · rw [if_pos h, decide_eq_false (by omega)]; rfl
  · rw [if_neg h]
    by_cases h2 : a = b
    · rw [if_pos h2, decide_eq_true h2]; rfl
    · rw [if_neg h2, decide_eq_false h2]; rfl
theorem cmp_gt (a b : Int) : (some (compare a b) == some Ordering.gt) = decide (b < a) := by
  show (some (compareOfLessAndEq a b) == _) = _
  unfold compareOfLessAndEq
  by_cases h : a < b
  · rw [if_pos h, decide_eq_false (by omega)]; rfl
  · rw [if_neg h]
    by_cases h2 : a = b
    · rw [if_pos h2, decide_eq_false (by omega)]; rfl
    · rw [if_neg h2, decide_eq_true (by omega)]; rfl
theorem lt_fin {x y : Nat} (hx : fin x) (hy : fin y) : (FloatKind.f64.format.order x y == some .lt) = decide (V x < V y) := by rw [order_fin hx hy, cmp_lt]
theorem gt_fin {x y : Nat} (hx : fin x) (hy : fin y) : (FloatKind.f64.format.order x y == some .gt) = decide (V y < V x) := by rw [order_fin hx hy, cmp_gt]
theorem eq_fin {x y : Nat} (hx : fin x) (hy : fin y) : (FloatKind.f64.format.order x y == some .eq) = decide (V x = V y) := by rw [order_fin hx hy, cmp_eq]
theorem le_fin {x y : Nat} (hx : fin x) (hy : fin y) : (FloatKind.f64.format.order x y == some .lt || FloatKind.f64.format.order x y == some .eq) = decide (V x ≤ V y) := by
  rw [lt_fin hx hy, eq_fin hx hy, ← Bool.decide_or]
  exact decide_eq_decide.2 (by omega)
theorem ge_fin {x y : Nat} (hx : fin x) (hy : fin y) : (FloatKind.f64.format.order x y == some .gt || FloatKind.f64.format.order x y == some .eq) = decide (V y ≤ V x) := by
  rw [gt_fin hx hy, eq_fin hx hy, ← Bool.decide_or]
  exact decide_eq_decide.2 (by omega)
/-- What is no finite number stands between no two. -/
theorem between_no {x a b : Nat} (hx : ¬ fin x) (ha : fin a) (hb : fin b) : ((FloatKind.f64.format.order x a == some .gt || FloatKind.f64.format.order x a == some .eq) && (FloatKind.f64.format.order x b == some .lt || FloatKind.f64.format.order x b == some .eq)) = false := by
  obtain ⟨s, m, e, hd⟩ := fin_iff.1 ha
  obtain ⟨t, k, f, hf⟩ := fin_iff.1 hb
  show (((dec x).order (dec a) == some .gt || (dec x).order (dec a) == some .eq) && ((dec x).order (dec b) == some .lt || (dec x).order (dec b) == some .eq)) = false
  rw [hd, hf]
  cases h : dec x with
  | number s m e => exact absurd (fin_iff.2 ⟨_, _, _, h⟩) hx
  | infinity s => cases s <;> rfl
  | nan s t => rfl
theorem order_self {x : Nat} (h : ∀ s t, dec x ≠ .nan s t) : (FloatKind.f64.format.order x x == some .eq) = true := by
  by_cases hx : fin x
  · rw [eq_fin hx hx]; exact decide_eq_true rfl
  · show ((dec x).order (dec x) == some .eq) = true
    cases hd : dec x with
    | number s m e => exact absurd (fin_iff.2 ⟨_, _, _, hd⟩) hx
    | infinity s => cases s <;> rfl
    | nan s t => exact absurd hd (h s t)
/-! ## whole numbers as floats, quotients -/
theorem pow_lt {q a j N : Nat} (hq : q < 2 ^ a) (h : a + j ≤ N) : q * 2 ^ j < 2 ^ N :=
  Nat.lt_of_lt_of_le (Nat.mul_lt_mul_of_pos_right hq (Nat.two_pow_pos j)) (by rw [← Nat.pow_add]; exact Nat.pow_le_pow_right (by decide) h)
theorem fofInt_ (n : Int) (hn : n.natAbs < 2 ^ 53) (j : Nat) (hj : j = 1074) : fin (floatOfInt .f64 n) ∧ V (floatOfInt .f64 n) = n * 2 ^ j := by
  have e : ((0 : Int) + 2148).toNat = j + 1074 := by subst hj; rfl
  have key := encode_num (decide (n < 0)) n.natAbs 0 n.natAbs j (by omega) (by rw [e]) hn (pow_lt (a := 53) (N := 2098) hn (by omega))
  refine ⟨key.1, key.2.trans ?_⟩
  rw [Int.natCast_mul, ← Int.mul_assoc, natAbs_sign n _ (fun _ => rfl), Int.natCast_pow]
  rfl
theorem fofInt (n : Int) (hn : n.natAbs < 2 ^ 53) : fin (floatOfInt .f64 n) ∧ V (floatOfInt .f64 n) = n * 2 ^ 1074 := fofInt_ n hn 1074 rfl
theorem nan_ofInt (n : Int) (s : Bool) (t : Nat) : dec (floatOfInt .f64 n) ≠ .nan s t := not_nan
/-- A quotient by what is no nought is a number, or no number at all only where one of the two is none. -/
theorem fquo_some {x y : Nat} (hx : ∀ s t, dec x ≠ .nan s t) (hy : fin y) (h0 : V y ≠ 0) : ∃ r, floatBits .quo .f64 x y = some r ∧ ∀ s t, dec r ≠ .nan s t := by
  obtain ⟨t, k, f, hf⟩ := fin_iff.1 hy
  have hk : k ≠ 0 := fun e => h0 (by rw [V_of hf, sgn_nat, e, Nat.zero_mul]; cases t <;> rfl)
  show ∃ r, ((dec x).quotient 54 (dec y)).map double.write = some r ∧ _
  rw [hf]
  cases hd : dec x with
  | number s m e =>
    refine ⟨double.write (.number (s ^^ t) (2 * (m <<< (54 + k.log2 - m.log2) / k) + (m <<< (54 + k.log2 - m.log2) % k != 0).toNat) (e - f - (54 + k.log2 - m.log2 : Nat) - 1)), ?_, fun s t => not_nan⟩
    have h : (Datum.number s m e).quotient 54 (.number t k f) = some (.number (s ^^ t) (2 * (m <<< (54 + k.log2 - m.log2) / k) + (m <<< (54 + k.log2 - m.log2) % k != 0).toNat) (e - f - (54 + k.log2 - m.log2 : Nat) - 1)) := by
      simp only [Datum.quotient, if_neg hk]
    rw [h]
    rfl
  | infinity s =>
    refine ⟨_, rfl, fun s' t' => ?_⟩
    have h1 : ∀ b : Bool, dec (double.write (.infinity b)) = .infinity b := by decide +kernel
    rw [h1]
    exact fun h => by cases h
  | nan s t => exact absurd hd (hx s t)
/-- A quotient by a power of two. -/
theorem fquo {x y : Nat} {a : Int} (hx : fin x) (hy : dec y = .number false (2 ^ 52) (a - 52)) (ha : -900 ≤ a ∧ a ≤ 900) (n : Int) (j : Nat) (h : V x * 2 ^ (1074 - a).toNat = n * 2 ^ (j + 1074)) (hn : n.natAbs < 2 ^ 53) (hj : n.natAbs * 2 ^ j < 2 ^ 2098) :
    ∃ r, floatBits .quo .f64 x y = some r ∧ fin r ∧ V r = n * 2 ^ j := by
  obtain ⟨s, m, e, hd⟩ := fin_iff.1 hx
  have he := (dec_number hd)
  rw [V_of hd, sgn_nat] at h
  by_cases hm0 : m = 0
  · subst hm0
    have hn0 : n = 0 := by
      rw [Nat.zero_mul] at h
      have h2 : (0 : Int) = n * 2 ^ (j + 1074) := by cases s <;> simpa using h
      rcases Int.mul_eq_zero.1 h2.symm with h3 | h3
      · exact h3
      · have := int_pow_pos (j + 1074); omega
    subst hn0
    refine ⟨double.write (.number (s ^^ false) (2 * (0 <<< (54 + (2 ^ 52 : Nat).log2 - (0 : Nat).log2) / 2 ^ 52) + (0 <<< (54 + (2 ^ 52 : Nat).log2 - (0 : Nat).log2) % 2 ^ 52 != 0).toNat) (e - (a - 52) - (54 + (2 ^ 52 : Nat).log2 - (0 : Nat).log2 : Nat) - 1)), ?_, ?_⟩
    · show ((dec x).quotient 54 (dec y)).map double.write = _
      rw [hd, hy]
      rfl
    · rw [Nat.zero_shiftLeft, Nat.zero_div, Nat.zero_mod]
      have h1 : ∀ (b : Bool) (p : Int), double.write (.number b (2 * 0 + (0 != (0 : Nat)).toNat) p) = double.word b 0 := fun b p => rfl
      rw [h1]
      have h2 : ∀ b : Bool, dec (double.word b 0) = .number b 0 (-1074) := by decide +kernel
      refine ⟨fin_iff.2 ⟨_, _, _, h2 _⟩, ?_⟩
      rw [V_of (h2 _), sgn_nat, Nat.zero_mul, Int.zero_mul]
      cases s <;> rfl
  · have hlog : m.log2 ≤ 52 := by have := (Nat.log2_lt hm0 (k := 53)).2 he.2; omega
    obtain ⟨more, hmore⟩ : ∃ more, more = 54 + (2 ^ 52 : Nat).log2 - m.log2 := ⟨_, rfl⟩
    have h52 : (2 ^ 52 : Nat).log2 = 52 := by decide +kernel
    obtain ⟨c, hc⟩ : ∃ c, more = 52 + c := ⟨more - 52, by omega⟩
    have hc5 : c ≤ 54 := by omega
    have hdv : m <<< more / 2 ^ 52 = m * 2 ^ c := by
      rw [Nat.shiftLeft_eq, hc, Nat.pow_add, Nat.mul_comm (2 ^ 52), ← Nat.mul_assoc, Nat.mul_div_cancel _ (Nat.two_pow_pos 52)]
    have hmd : m <<< more % 2 ^ 52 = 0 := by
      rw [Nat.shiftLeft_eq, hc, Nat.pow_add, Nat.mul_comm (2 ^ 52), ← Nat.mul_assoc, Nat.mul_mod_left]
    refine ⟨double.write (.number (s ^^ false) (2 * (m <<< more / 2 ^ 52) + (m <<< more % 2 ^ 52 != 0).toNat) (e - (a - 52) - more - 1)), ?_, ?_⟩
    · show ((dec x).quotient 54 (dec y)).map double.write = _
      rw [hd, hy, hmore]
      rfl
    · rw [hdv, hmd]
      have hab : m * 2 ^ ((e + 1074).toNat + (1074 - a).toNat) = n.natAbs * 2 ^ (j + 1074) := by
        have h2 := congrArg Int.natAbs h
        rw [natAbs_mul_pow, natAbs_mul_pow, Int.natAbs_mul, Int.natAbs_natCast] at h2
        have h3 : ((if s then (-1 : Int) else 1)).natAbs = 1 := by cases s <;> rfl
        rw [h3, Nat.one_mul, Nat.mul_assoc, ← Nat.pow_add] at h2
        exact h2
      have hmag : (2 * (m * 2 ^ c) + (0 != (0 : Nat)).toNat) * 2 ^ (e - (a - 52) - more - 1 + 2148).toNat = n.natAbs * 2 ^ (j + 1074) := by
        rw [← hab, show (0 != (0 : Nat)).toNat = 0 from rfl, Nat.add_zero, Nat.mul_comm 2, Nat.mul_assoc m, ← Nat.pow_succ, Nat.mul_assoc, ← Nat.pow_add]
        congr 2
        have h5 := he.1
        have h6 := ha.1
        have h7 := ha.2
        clear hn hj h hmore hdv hmd hab hd hy
        subst hc
        omega
      have key := encode_num (s ^^ false) (2 * (m * 2 ^ c) + (0 != (0 : Nat)).toNat) (e - (a - 52) - more - 1) n.natAbs j (by omega) hmag hn hj
      refine ⟨key.1, key.2.trans ?_⟩
      rw [Bool.xor_false]
      have h5 : (if s then (-1 : Int) else 1) * ((n.natAbs * 2 ^ (j + 1074) : Nat) : Int) = n * 2 ^ (j + 1074) := by
        rw [← hab, ← h, Nat.pow_add, ← Nat.mul_assoc, Int.natCast_mul (m * 2 ^ (e + 1074).toNat), Int.mul_assoc, Int.natCast_pow]
        rfl
      exact cancel_pow h5.symm
end Go.Proofs.Ythfcafllcgjepaa.Flt
