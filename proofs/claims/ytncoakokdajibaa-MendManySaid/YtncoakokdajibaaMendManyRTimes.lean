import Derived.Test.YtncoakokdajibaaMendManyBase
import Derived.Test.YtncoakokdajibaaMendManyF1
/- The reference's products (bit by bit, then reduced) are the field's. -/
namespace Go.Proofs.Ytncoakokdajibaa.Sem
open Go.RowKit Go.Proofs.Ytncoakokdajibaa.Q Go.Proofs.YtncoakokdajibaaW.PrintWords Go.Proofs.YtncoakokdajibaaW.PrintLast Go.Proofs.YtncoakokdajibaaW.PrintMore Go.Proofs.Ytncoakokdajibaa.Gf
theorem wrap_id' (x : Int) (h0 : -9223372036854775808 ≤ x) (h1 : x ≤ 9223372036854775807) : wrap64 x = x := by unfold wrap64; omega
theorem xor_i64' (a b : Nat) (h : a < 65536) (k : b < 65536) : Go.bits .xor .i64 (a : Int) (b : Int) = ((a ^^^ b : Nat) : Int) :=
  bits_xor_any .i64 16 (by decide) (fun n h0 h1 => by rw [IntKind.wrap_i64]; omega) a b h k
theorem shr_nat (k : IntKind) (b i : Nat) (hi : i ≤ k.bits) : shr k (b : Int) (i : Int) = ((b / 2 ^ i : Nat) : Int) := by
  unfold shr
  rw [Int.toNat_natCast, Nat.min_eq_left hi]
  simp
theorem bit_nat8 (b i : Nat) (hb : b < 256) (hi : i ≤ 8) : Go.bits .and .u8 (shr .u8 (b : Int) (i : Int)) 1 = ((b.testBit i).toNat : Int) := by
  rw [shr_nat .u8 b i hi, and_one _ (Nat.lt_of_le_of_lt (Nat.div_le_self _ _) hb), Nat.testBit_eq_decide_div_mod_eq]
  have : b / 2 ^ i % 2 = 0 ∨ b / 2 ^ i % 2 = 1 := by omega
  rcases this with h | h <;> rw [h] <;> rfl
theorem bit_nat64 (b i : Nat) (hb : b < 65536) (hi : i ≤ 64) : Go.bits .and .i64 (shr .i64 (b : Int) (i : Int)) 1 = ((b.testBit i).toNat : Int) := by
  have hd : b / 2 ^ i ≤ b := Nat.div_le_self _ _
  rw [shr_nat .i64 b i hi, and_one_i64 _ (by omega), Nat.testBit_eq_decide_div_mod_eq]
  have : b / 2 ^ i % 2 = 0 ∨ b / 2 ^ i % 2 = 1 := by omega
  rcases this with h | h <;> rw [h] <;> rfl
theorem shl_nat (x i : Nat) (hi : i ≤ 14) (hx : x < 512) : shl .i64 (x : Int) (i : Int) = ((x * 2 ^ i : Nat) : Int) := by
  unfold shl
  have hb : (2 : Nat) ^ i ≤ 2 ^ 14 := Nat.pow_le_pow_right (by decide) hi
  have hm : x * 2 ^ i ≤ 511 * 2 ^ 14 := Nat.mul_le_mul (by omega) hb
  rw [Int.toNat_natCast, Nat.min_eq_left (by show i ≤ 64; omega), IntKind.wrap_i64, show ((x : Int) * 2 ^ i) = ((x * 2 ^ i : Nat) : Int) from by simp]
  omega
def rowTo : Nat → Nat → Nat → Nat
  | 0, _, _ => 0
  | n + 1, i, b => rowTo n i b ^^^ sel (b.testBit n) (2 ^ (i + n))
def clTo : Nat → Nat → Nat → Nat
  | 0, _, _ => 0
  | n + 1, a, b => clTo n a b ^^^ sel (a.testBit n) (rowTo 8 n b)
def redTo : Nat → Nat → Nat
  | 0, p => p
  | n + 1, p => redTo n (p ^^^ sel (p.testBit (n + 8)) (285 * 2 ^ n))
theorem rowTo_xor (n i b c : Nat) : rowTo n i (b ^^^ c) = rowTo n i b ^^^ rowTo n i c := by
  induction n with
  | zero => simp [rowTo]
  | succ n ih => rw [rowTo, rowTo, rowTo, ih, Nat.testBit_xor, sel_xor]; ac_rfl
theorem clTo_right (n a b c : Nat) : clTo n a (b ^^^ c) = clTo n a b ^^^ clTo n a c := by
  induction n with
  | zero => simp [clTo]
  | succ n ih => rw [clTo, clTo, clTo, ih, rowTo_xor, sel_xor_right]; ac_rfl
theorem clTo_left (n a b c : Nat) : clTo n (a ^^^ b) c = clTo n a c ^^^ clTo n b c := by
  induction n with
  | zero => simp [clTo]
  | succ n ih => rw [clTo, clTo, clTo, ih, Nat.testBit_xor, sel_xor]; ac_rfl
theorem redTo_xor (n : Nat) : ∀ p q, redTo n (p ^^^ q) = redTo n p ^^^ redTo n q := by
  induction n with
  | zero => intro p q; rfl
  | succ n ih =>
    intro p q
    rw [redTo, redTo, redTo, ← ih, Nat.testBit_xor, sel_xor]
    congr 1
    ac_rfl
theorem lt15 {x y : Nat} (h : x < 32768) (k : y < 32768) : x ^^^ y < 32768 := Nat.xor_lt_two_pow (n := 15) h k
theorem sel_lt' (c : Bool) (x m : Nat) (h : x < m) : sel c x < m := by cases c <;> simp [sel, h]; omega
theorem rowTo_lt (n i b : Nat) (h : i + n ≤ 15) : rowTo n i b < 32768 := by
  induction n with
  | zero => exact (by decide : 0 < 32768)
  | succ n ih =>
    refine lt15 (ih (by omega)) (sel_lt' _ _ _ ?_)
    have : (2 : Nat) ^ (i + n) ≤ 2 ^ 14 := Nat.pow_le_pow_right (by decide) (by omega)
    omega
theorem clTo_lt (n a b : Nat) (h : n ≤ 8) : clTo n a b < 32768 := by
  induction n with
  | zero => exact (by decide : 0 < 32768)
  | succ n ih => exact lt15 (ih (by omega)) (sel_lt' _ _ _ (rowTo_lt 8 n b (by omega)))
theorem red_cl (a b : Nat) (h : a < 256) (k : b < 256) : redTo 7 (clTo 8 a b) % 256 = mulN a b := by
  have hx : ∀ x y : Nat, (x ^^^ y) % 256 = x % 256 ^^^ y % 256 := fun x y => Nat.xor_mod_two_pow (n := 8)
  refine lin_ext (fun a => redTo 7 (clTo 8 a b) % 256) (fun a => mulN a b) (fun x y => by simp only [clTo_left, redTo_xor, hx]) (fun x y => mulN_left x y b) (fun i hi => ?_) a h
  refine lin_ext (fun b => redTo 7 (clTo 8 (2 ^ i) b) % 256) (fun b => mulN (2 ^ i) b) (fun x y => by simp only [clTo_right, redTo_xor, hx]) (fun x y => mulN_right _ x y) (fun j hj => ?_) b k
  have : ∀ i, i < 8 → ∀ j, j < 8 → redTo 7 (clTo 8 (2 ^ i) (2 ^ j)) % 256 = mulN (2 ^ i) (2 ^ j) := by decide +kernel
  exact this i hi j hj
theorem r18_l2 (n : Nat) : ∀ (k p : Nat), n ≤ 7 → p < 32768 → n < k → foghornref18_Times.l2 k (p : Int) ((n : Int) + 7) = some (((redTo n p % 256 : Nat)) : Int) := by
  induction n with
  | zero =>
    intro k p _ hp hk
    obtain ⟨k, rfl⟩ : ∃ m, k = m + 1 := ⟨k - 1, by omega⟩
    rw [foghornref18_Times.l2, if_neg (by omega)]
    rfl
  | succ n ih =>
    intro k p hn hp hk
    obtain ⟨k, rfl⟩ : ∃ m, k = m + 1 := ⟨k - 1, by omega⟩
    have e8 : ((n + 1 : Nat) : Int) + 7 = ((n + 8 : Nat) : Int) := by omega
    rw [e8, foghornref18_Times.l2, if_pos (by omega), if_pos (by omega), bit_nat64 p (n + 8) (by omega) (by omega), wrap_id' _ (by omega) (by omega), wrap_id' _ (by omega) (by omega), show (((n + 8 : Nat) : Int) - 8) = (n : Int) from by omega, show (((n + 8 : Nat) : Int) - 1) = (n : Int) + 7 from by omega]
    have hb : (2 : Nat) ^ n ≤ 2 ^ 6 := Nat.pow_le_pow_right (by decide) (by omega)
    cases h : p.testBit (n + 8) with
    | true =>
      rw [if_pos (by decide), if_pos (by omega), show (285 : Int) = ((285 : Nat) : Int) from rfl, shl_nat 285 n (by omega) (by decide), xor_i64' _ _ (by omega) (by omega), ih k _ (by omega) (lt15 hp (by omega)) (by omega), redTo, h]
      rfl
    | false =>
      rw [if_neg (by decide), ih k _ (by omega) hp (by omega), redTo, h]
      simp [sel]
theorem r18_l1 (a b : Nat) (ha : a < 256) (hb : b < 256) (i : Nat) (hi : i < 8) (r : Int) (d : Nat) : ∀ (j p k : Nat), j + d = 8 → p < 32768 → d < k →
    (foghornref18_Times.l0 (k - d - 1) a b ((p ^^^ sel (a.testBit i) (rowTo j i b ^^^ rowTo 8 i b) : Nat) : Int) ((i : Int) + 1) = some r) → foghornref18_Times.l1 k a b (p : Int) (i : Int) (j : Int) = some r := by
  induction d with
  | zero =>
    intro j p k hj hp hk h
    obtain ⟨k, rfl⟩ : ∃ m, k = m + 1 := ⟨k - 1, by omega⟩
    have : j = 8 := by omega
    subst this
    rw [Nat.xor_self, show sel (a.testBit i) 0 = 0 from by cases a.testBit i <;> rfl, Nat.xor_zero] at h
    rw [foghornref18_Times.l1, if_neg (by omega), wrap_id' _ (by omega) (by omega)]
    exact h
  | succ d ih =>
    intro j p k hj hp hk h
    obtain ⟨k, rfl⟩ : ∃ m, k = m + 1 := ⟨k - 1, by omega⟩
    have hb2 : (2 : Nat) ^ (i + j) ≤ 2 ^ 14 := Nat.pow_le_pow_right (by decide) (by omega)
    have e2 : k + 1 - (d + 1) - 1 = k - d - 1 := by omega
    rw [e2] at h
    rw [foghornref18_Times.l1, if_pos (by omega), if_pos (by omega), bit_nat8 a i ha (by omega), show wrap64 ((j : Int) + 1) = ((j + 1 : Nat) : Int) from by unfold wrap64; omega]
    cases hc : a.testBit i with
    | false =>
      rw [if_neg (by decide)]
      refine ih (j + 1) p k (by omega) hp (by omega) ?_
      rw [hc] at h ⊢
      exact h
    | true =>
      rw [if_pos (by decide), if_pos (by omega), bit_nat8 b j hb (by omega), show wrap64 ((i : Int) + (j : Int)) = ((i + j : Nat) : Int) from by unfold wrap64; omega]
      rw [hc] at h
      cases hd : b.testBit j with
      | false =>
        rw [if_neg (by decide)]
        refine ih (j + 1) p k (by omega) hp (by omega) ?_
        rw [hc, rowTo, hd, show sel false (2 ^ (i + j)) = 0 from rfl, Nat.xor_zero]
        exact h
      | true =>
        rw [if_pos (by decide), if_pos (by omega), show (1 : Int) = ((1 : Nat) : Int) from rfl, shl_nat 1 _ (by omega) (by decide), Nat.one_mul, xor_i64' _ _ (by omega) (by omega)]
        refine ih (j + 1) _ k (by omega) (lt15 hp (by omega)) (by omega) ?_
        have e : p ^^^ 2 ^ (i + j) ^^^ sel (a.testBit i) (rowTo (j + 1) i b ^^^ rowTo 8 i b) = p ^^^ sel true (rowTo j i b ^^^ rowTo 8 i b) := by
          rw [hc, sel_true, sel_true, rowTo, hd, sel_true, Nat.xor_assoc p, ← Nat.xor_assoc (2 ^ (i + j)), Nat.xor_comm (rowTo j i b) (2 ^ (i + j)), ← Nat.xor_assoc (2 ^ (i + j)) (2 ^ (i + j)), Nat.xor_self, Nat.zero_xor]
        rw [e]
        exact h
theorem r18_l0 (a b : Nat) (ha : a < 256) (hb : b < 256) (d : Nat) : ∀ (i k : Nat), i + d = 8 → 10 * d + 9 < k → foghornref18_Times.l0 k a b ((clTo i a b : Nat) : Int) (i : Int) = some ((mulN a b : Nat) : Int) := by
  induction d with
  | zero =>
    intro i k hi hk
    obtain ⟨k, rfl⟩ : ∃ m, k = m + 1 := ⟨k - 1, by omega⟩
    have : i = 8 := by omega
    subst this
    rw [foghornref18_Times.l0, if_neg (by decide)]
    have := r18_l2 7 k (clTo 8 a b) (by decide) (clTo_lt 8 a b (by decide)) (by omega)
    rw [red_cl a b ha hb] at this
    exact this
  | succ d ih =>
    intro i k hi hk
    obtain ⟨k, rfl⟩ : ∃ m, k = m + 1 := ⟨k - 1, by omega⟩
    rw [foghornref18_Times.l0, if_pos (by omega)]
    refine r18_l1 a b ha hb i (by omega) _ 8 0 _ k (by omega) (clTo_lt i a b (by omega)) (by omega) ?_
    rw [show rowTo 0 i b = 0 from rfl, Nat.zero_xor, show ((i : Int) + 1) = ((i + 1 : Nat) : Int) from by omega]
    exact ih (i + 1) _ (by omega) (by omega)
theorem r18times (k : Nat) (hk : 90 ≤ k) (a b : F) : foghornref18_Times.f k (I a) (I b) = some (I (a * b)) := by
  unfold foghornref18_Times.f
  exact r18_l0 a.val b.val a.lt b.lt 8 0 k (by omega) (by omega)
end Go.Proofs.Ytncoakokdajibaa.Sem
