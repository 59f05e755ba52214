/- What the printed products, powers and exponents come to: the field's own. -/
import Derived.Test.YtmdeldiocaofkaaQ1
import Derived.Test.YtmdeldiocaofkaaGf
namespace Go.Proofs.Ytmdeldiocaofkaa.Sem
open Go.RowKit Go.Proofs.Ytmdeldiocaofkaa.Q Go.Proofs.YtmdeldiocaofkaaW.PrintWords Go.Proofs.YtmdeldiocaofkaaW.PrintLast Go.Proofs.Ytmdeldiocaofkaa.Gf

/-- A number of the field as the program has it. -/
def I (a : F) : Int := (a.val : Int)
theorem I_inj {a b : F} (h : I a = I b) : a = b := F.ext (by unfold I at h; omega)
theorem I_lo (a : F) : 0 ≤ I a := by unfold I; omega
theorem I_hi (a : F) : I a ≤ 255 := by have := a.lt; unfold I; omega
theorem I_lt (a : F) : I a < 256 := by have := a.lt; unfold I; omega
theorem I_zero : I 0 = 0 := rfl
theorem I_one : I 1 = 1 := rfl
theorem I_eq_zero {a : F} : I a = 0 ↔ a = 0 := ⟨fun h => I_inj h, fun h => by rw [h]; rfl⟩
theorem of_u8 (x : Int) (h0 : 0 ≤ x) (h1 : x ≤ 255) : ∃ a : F, x = I a := ⟨⟨x.toNat, by omega⟩, by unfold I; simp only; omega⟩
theorem bits_xor_any (k : IntKind) (j : Nat) (hj : j ≤ k.bits) (hk : ∀ n : Int, 0 ≤ n → n < 2 ^ j → k.wrap n = n) (a b : Nat) (ha : a < 2 ^ j) (hb : b < 2 ^ j) :
    Go.bits .xor k a b = ((a ^^^ b : Nat) : Int) := by
  have hp : 2 ^ j ≤ 2 ^ k.bits := Nat.pow_le_pow_right (by decide) hj
  have ha' : a % 2 ^ k.bits = a := Nat.mod_eq_of_lt (Nat.lt_of_lt_of_le ha hp)
  have hb' : b % 2 ^ k.bits = b := Nat.mod_eq_of_lt (Nat.lt_of_lt_of_le hb hp)
  have cast : ∀ n : Nat, n < 2 ^ j → ((n : Nat) : Int) < 2 ^ j := fun n h => by exact_mod_cast h
  simp only [Go.bits, BitVec.ofInt_natCast, BitVec.toNat_xor, BitVec.toNat_ofNat, ha', hb']
  exact hk _ (Int.natCast_nonneg _) (cast _ (Nat.xor_lt_two_pow ha hb))
theorem bits_xor_nat (a b : Nat) (h : a < 256) (k : b < 256) : Go.bits .xor .u8 (a : Int) (b : Int) = ((a ^^^ b : Nat) : Int) :=
  bits_xor_any .u8 8 (by decide) wraps_u8 a b h k
theorem bx (a b : F) : Go.bits .xor .u8 (I a) (I b) = I (a + b) := bits_xor_nat _ _ a.lt b.lt
theorem and_one (b : Nat) (k : b < 256) : Go.bits .and .u8 (b : Int) 1 = ((b % 2 : Nat) : Int) := by
  have := bits_mask .u8 8 (by decide) wraps_u8 1 (by decide) (b : Int) (by omega) (by omega)
  simpa using this

theorem xt_int (a : Nat) (h : a < 256) : Go.bits .xor .u8 (((a : Int) * 2) % 256) ((((a : Int) / 128) * 29) % 256) = (xt a : Int) := by
  have e1 : ((a : Int) * 2) % 256 = ((a * 2 % 256 : Nat) : Int) := by omega
  have e2 : (((a : Int) / 128) * 29) % 256 = (((a / 128) * 29 % 256 : Nat) : Int) := by omega
  rw [e1, e2, bits_xor_nat _ _ (by omega) (by omega)]
  have : ∀ a, a < 256 → (a * 2 % 256) ^^^ ((a / 128) * 29 % 256) = xt a := by decide +kernel
  rw [this a h]
theorem sel_mul (a b : Nat) (h : a < 256) : (a * (b % 2)) % 256 = sel (b.testBit 0) a := by
  rw [Nat.testBit_zero]
  have : b % 2 = 0 ∨ b % 2 = 1 := by omega
  rcases this with h1 | h1
  · rw [h1]; simp [sel]
  · rw [h1, Nat.mul_one, Nat.mod_eq_of_lt h]; simp [sel]
theorem mulTo_low (n : Nat) : ∀ a b, mulTo (n + 1) a b = sel (b.testBit 0) a ^^^ mulTo n (xt a) (b / 2) := by
  induction n with
  | zero => intro a b; simp [mulTo, xts]
  | succ n ih =>
    intro a b
    rw [mulTo, ih, mulTo, Nat.testBit_succ, Nat.xor_assoc]
    rfl
theorem times_l0 (n : Nat) : ∀ (k a b p : Nat), a < 256 → p < 256 → b < 2 ^ n → n < k → b < 256 → field_Times.l0 k a b p = some ((p ^^^ mulTo n a b : Nat) : Int) := by
  induction n with
  | zero =>
    intro k a b p _ _ hb hk _
    obtain ⟨k, rfl⟩ : ∃ m, k = m + 1 := ⟨k - 1, by omega⟩
    rw [field_Times.l0, if_neg (by omega)]
    simp [mulTo]
  | succ n ih =>
    intro k a b p ha hp hb hk hb8
    obtain ⟨k, rfl⟩ : ∃ m, k = m + 1 := ⟨k - 1, by omega⟩
    by_cases h : (b : Int) > 0
    · rw [field_Times.l0, if_pos h, xt_int a ha, and_one b hb8, show ((a : Int) * ((b % 2 : Nat) : Int)) % 256 = (((a * (b % 2)) % 256 : Nat) : Int) from by rw [← Int.natCast_mul]; rfl, sel_mul a b ha, bits_xor_nat _ _ hp (sel_lt _ _ ha), show ((b : Int) / 2) = ((b / 2 : Nat) : Int) from by omega]
      rw [ih k _ _ _ (xt_lt a ha) (xor_lt _ _ hp (sel_lt _ _ ha)) (by rw [Nat.pow_succ] at hb; omega) (by omega) (by omega), mulTo_low, Nat.xor_assoc]
    · have : b = 0 := by omega
      subst this
      rw [field_Times.l0, if_neg h, mulTo_zero, Nat.xor_zero]
theorem times (k : Nat) (hk : 9 ≤ k) (a b : F) : field_Times.f k (I a) (I b) = some (I (a * b)) := by
  unfold field_Times.f
  have := times_l0 8 k a.val b.val 0 a.lt (by decide) b.lt (by omega) b.lt
  rw [Nat.zero_xor] at this
  exact this
theorem times_ev (a b : F) : Ev (fun k => field_Times.f k (I a) (I b)) (I (a * b)) := ⟨9, fun k hk => times k hk a b⟩

theorem and_one_i64 (n : Nat) (h : n < 9223372036854775808) : Go.bits .and .i64 (n : Int) 1 = ((n % 2 : Nat) : Int) := by
  have := bits_mask .i64 63 (by decide) (fun n h0 h1 => by rw [IntKind.wrap_i64]; omega) 1 (by decide) (n : Int) (by omega) (by omega)
  simpa using this
theorem raised_l0 (m : Nat) : ∀ (k : Nat) (a p : F) (n : Nat), n < 2 ^ m → m ≤ 63 → m + 9 < k → field_raised.l0 k (I a) (n : Int) (I p) = some (I (p * pow a n)) := by
  induction m with
  | zero =>
    intro k a p n hn hm hk
    obtain ⟨k, rfl⟩ : ∃ m, k = m + 1 := ⟨k - 1, by omega⟩
    have : n = 0 := by simpa using hn
    subst this
    rw [field_raised.l0, if_neg (by omega), show pow a 0 = 1 from rfl, mul_one]
  | succ m ih =>
    intro k a p n hn hm hk
    obtain ⟨k, rfl⟩ : ∃ m, k = m + 1 := ⟨k - 1, by omega⟩
    have h63 : (2 : Nat) ^ (m + 1) ≤ 2 ^ 63 := Nat.pow_le_pow_right (by decide) hm
    by_cases h : (n : Int) > 0
    · rw [field_raised.l0, if_pos h, and_one_i64 n (by omega), show ((n : Int) / 2) = ((n / 2 : Nat) : Int) from by omega]
      have hsq : pow a n = pow (a * a) (n / 2) * pow a (n % 2) := by
        conv => lhs; rw [← Nat.div_add_mod n 2]
        rw [pow_add, pow_mul, show pow a 2 = a * a from by rw [show (2 : Nat) = 1 + 1 from rfl, pow_add, pow_one]]
      have hn2 : n / 2 < 2 ^ m := by rw [Nat.pow_succ] at hn; omega
      by_cases hb : ((n % 2 : Nat) : Int) > 0
      · rw [if_pos hb, times k (by omega), Option.bind_some, times k (by omega), Option.bind_some, ih k _ _ _ hn2 (by omega) (by omega), hsq]
        have : n % 2 = 1 := by omega
        rw [this, pow_one]
        congr 2
        ac_rfl
      · rw [if_neg hb, times k (by omega), Option.bind_some, ih k _ _ _ hn2 (by omega) (by omega), hsq]
        have : n % 2 = 0 := by omega
        rw [this, show pow a 0 = 1 from rfl, mul_one]
    · have : n = 0 := by omega
      subst this
      rw [field_raised.l0, if_neg h, show pow a 0 = 1 from rfl, mul_one]
theorem raised (k : Nat) (hk : 18 ≤ k) (a : F) (n : Nat) (hn : n < 256) : field_raised.f k (I a) (n : Int) = some (I (pow a n)) := by
  unfold field_raised.f
  have := raised_l0 8 k a 1 n hn (by decide) (by omega)
  rw [one_mul] at this
  exact this
theorem raised_inv (k : Nat) (hk : 18 ≤ k) (a : F) : field_raised.f k (I a) 254 = some (I (inv a)) := raised k hk a 254 (by decide)

/-- The residue that the program reckons. -/
theorem mod255 (n : Int) : Int.tmod (wrap64 ((Int.tmod n 255) + 255)) 255 = n % 255 := by
  have h1 : -255 < Int.tmod n 255 ∧ Int.tmod n 255 < 255 := ⟨by have := Int.lt_tmod_of_pos n (show (0 : Int) < 255 by decide); omega, Int.tmod_lt_of_pos n (by decide)⟩
  have hw : wrap64 ((Int.tmod n 255) + 255) = Int.tmod n 255 + 255 := by unfold wrap64; omega
  rw [hw, Int.tmod_eq_emod_of_nonneg (by omega)]
  have := Int.tmod_add_mul_tdiv n 255
  omega
theorem exp_any (k : Nat) (hk : 18 ≤ k) (n : Int) : field_Exp.f k n = some (I (pow two (n % 255).toNat)) := by
  unfold field_Exp.f
  obtain ⟨m, hm⟩ : ∃ m : Nat, n % 255 = (m : Int) := ⟨(n % 255).toNat, by omega⟩
  rw [mod255 n, hm, show (2 : Int) = I two from rfl, raised k hk two m (by omega), Option.bind_some, Int.toNat_natCast]
theorem exp_nat (k : Nat) (hk : 18 ≤ k) (n : Nat) : field_Exp.f k (n : Int) = some (I (pow two n)) := by
  rw [exp_any k hk n, pow_two_mod n, show ((n : Int) % 255).toNat = n % 255 from by omega]
end Go.Proofs.Ytmdeldiocaofkaa.Sem
