import Derived.Test.YtncoakokdajibaaMendManyRuns
import Derived.Test.YtncoakokdajibaaMendManyF1
/- Every row of checks: the two generators are the same, and so are the two limits. -/
namespace Go.Proofs.Ytncoakokdajibaa.Sem
open Go.RowKit Go.Proofs.Ytncoakokdajibaa.Q Go.Proofs.YtncoakokdajibaaW.PrintWords Go.Proofs.YtncoakokdajibaaW.PrintLast Go.Proofs.Ytncoakokdajibaa.Gf
theorem xor_i64 (a b : Nat) (h : a < 65536) (k : b < 65536) : Go.bits .xor .i64 (a : Int) (b : Int) = ((a ^^^ b : Nat) : Int) :=
  bits_xor_any .i64 16 (by decide) (fun n h0 h1 => by rw [IntKind.wrap_i64]; omega) a b h k
theorem xt_if (a : Nat) (h : a < 256) : (if 2 * a > 255 then (2 * a) ^^^ 285 else 2 * a) = xt a := by
  have : ∀ a, a < 256 → (if 2 * a > 255 then (2 * a) ^^^ 285 else 2 * a) = xt a := by decide +kernel
  exact this a h
theorem shr_u8 (b i : Nat) (hi : i ≤ 8) : shr .u8 (b : Int) (i : Int) = ((b / 2 ^ i : Nat) : Int) := by
  unfold shr
  rw [Int.toNat_natCast, Nat.min_eq_left (by show i ≤ 8; exact hi)]
  simp
theorem bit_u8 (b i : Nat) (hb : b < 256) (hi : i ≤ 8) : Go.bits .and .u8 (shr .u8 (b : Int) (i : Int)) 1 = ((b.testBit i).toNat : Int) := by
  rw [shr_u8 b i hi, and_one _ (Nat.lt_of_le_of_lt (Nat.div_le_self _ _) hb), Nat.testBit_eq_decide_div_mod_eq]
  have : b / 2 ^ i % 2 = 0 ∨ b / 2 ^ i % 2 = 1 := by omega
  rcases this with h | h <;> rw [h] <;> rfl
theorem xts_succ' (n a : Nat) : xts (n + 1) a = xt (xts n a) := by
  induction n generalizing a with
  | zero => rfl
  | succ n ih => rw [xts, ih]; rfl
theorem rtimes_l0 (a b : F) (d : Nat) : ∀ (i k : Nat), i + d = 8 → d < k → foghornref19_Times.l0 k (I b) ((xts i a.val : Nat) : Int) ((mulTo i a.val b.val : Nat) : Int) (i : Int) = some (I (a * b)) := by
  induction d with
  | zero =>
    intro i k hi hk
    obtain ⟨k, rfl⟩ : ∃ m, k = m + 1 := ⟨k - 1, by omega⟩
    have : i = 8 := by omega
    subst this
    rw [foghornref19_Times.l0, if_neg (by decide)]
    have h1 := mulTo_lt 8 a.val b.val a.lt
    congr 1
    show ((mulTo 8 a.val b.val : Nat) : Int) % 256 = ((mulTo 8 a.val b.val : Nat) : Int)
    omega
  | succ d ih =>
    intro i k hi hk
    obtain ⟨k, rfl⟩ : ∃ m, k = m + 1 := ⟨k - 1, by omega⟩
    have h1 := mulTo_lt i a.val b.val a.lt
    have h2 := xts_lt i a.val a.lt
    have ih' := ih (i + 1) k (by omega) (by omega)
    have hx : wrap64 (2 * ((xts i a.val : Nat) : Int)) = ((2 * xts i a.val : Nat) : Int) := by rw [wrap_id _ (by omega) (by omega)]; omega
    have hn : (if ((2 * xts i a.val : Nat) : Int) > 255 then Go.bits .xor .i64 ((2 * xts i a.val : Nat) : Int) 285 else ((2 * xts i a.val : Nat) : Int)) = ((xts (i + 1) a.val : Nat) : Int) := by
      rw [xts_succ', ← xt_if _ h2]
      by_cases e : 2 * xts i a.val > 255
      · rw [if_pos (by omega), if_pos e]; exact xor_i64 _ 285 (by omega) (by decide)
      · rw [if_neg (by omega), if_neg e]
    rw [foghornref19_Times.l0, if_pos (by omega), if_pos (by omega), hx, show I b = ((b.val : Nat) : Int) from rfl, bit_u8 b.val i b.lt (by omega), wrap_id _ (by omega) (by omega), show ((i : Int) + 1) = ((i + 1 : Nat) : Int) from by omega]
    have hm : mulTo (i + 1) a.val b.val = mulTo i a.val b.val ^^^ sel (b.val.testBit i) (xts i a.val) := rfl
    cases hb : b.val.testBit i with
    | true =>
      rw [hb] at hm
      rw [if_pos (by decide), xor_i64 _ _ (by omega) (by omega)]
      rw [show mulTo i a.val b.val ^^^ xts i a.val = mulTo (i + 1) a.val b.val from hm.symm]
      by_cases e : ((2 * xts i a.val : Nat) : Int) > 255
      · rw [if_pos e] at hn ⊢; rw [hn]; exact ih'
      · rw [if_neg e] at hn ⊢; rw [hn]; exact ih'
    | false =>
      rw [hb] at hm
      rw [if_neg (by decide)]
      rw [show mulTo i a.val b.val = mulTo (i + 1) a.val b.val from by rw [hm]; exact (Nat.xor_zero _).symm]
      by_cases e : ((2 * xts i a.val : Nat) : Int) > 255
      · rw [if_pos e] at hn ⊢; rw [hn]; exact ih'
      · rw [if_neg e] at hn ⊢; rw [hn]; exact ih'
theorem rtimes (k : Nat) (hk : 9 ≤ k) (a b : F) : foghornref19_Times.f k (I a) (I b) = some (I (a * b)) := by
  unfold foghornref19_Times.f
  rw [wrap_id _ (by have := I_lo a; omega) (by have := I_hi a; omega)]
  exact rtimes_l0 a b 8 0 k (by omega) (by omega)
theorem rpower_l0 (r : Nat) (hr : r < 65536) (d : Nat) : ∀ (i k : Nat), i + d = r → d + 9 < k → foghornref19_Power.l0 k (r : Int) (I (pow two i)) (i : Int) = some (I (pow two r)) := by
  induction d with
  | zero =>
    intro i k hi hk
    obtain ⟨k, rfl⟩ : ∃ m, k = m + 1 := ⟨k - 1, by omega⟩
    have : i = r := by omega
    subst this
    rw [foghornref19_Power.l0, if_neg (by omega)]
  | succ d ih =>
    intro i k hi hk
    obtain ⟨k, rfl⟩ : ∃ m, k = m + 1 := ⟨k - 1, by omega⟩
    rw [foghornref19_Power.l0, if_pos (by omega), show (2 : Int) = I two from rfl, rtimes k (by omega), Option.bind_some, wrap_id _ (by omega) (by omega), show ((i : Int) + 1) = ((i + 1 : Nat) : Int) from by omega]
    exact ih (i + 1) k (by omega) (by omega)
theorem rpower_ev (r : Nat) (hr : r < 65536) : Ev (fun k => foghornref19_Power.f k (r : Int)) (I (pow two r)) :=
  ⟨r + 10, fun k hk => rpower_l0 r hr r 0 k (by omega) (by omega)⟩
theorem rcheck (n r : Int) : foghornref19_Check.f n r = some (if isChecks r = true ∧ r < n ∧ n ≤ 255 then 0 else 1) := by
  unfold foghornref19_Check.f isChecks
  by_cases h1 : r < 2
  · rw [if_pos h1, if_neg (by simp only [decide_eq_true_eq]; omega)]
  · rw [if_neg h1]
    by_cases h2 : r > 64
    · rw [if_pos h2, if_neg (by simp only [decide_eq_true_eq]; omega)]
    · rw [if_neg h2]
      by_cases h3 : Int.tmod r 2 = 0
      · rw [if_pos h3, wrap_id _ (by omega) (by omega)]
        by_cases h4 : n < r + 1
        · rw [if_pos h4, if_neg (by omega)]
        · rw [if_neg h4]
          by_cases h5 : n > 255
          · rw [if_pos h5, if_neg (by omega)]
          · rw [if_neg h5, if_pos (by simp only [decide_eq_true_eq]; omega)]
      · rw [if_neg h3, if_neg (by simp only [decide_eq_true_eq]; intro h; exact h3 h.1.2.2)]
theorem check (n r : Int) : reed_Check.f n r = some (if isChecks r = true ∧ r < n ∧ n ≤ 255 then 0 else 1) := by
  unfold reed_Check.f
  rw [checks, Option.bind_some]
  by_cases h : isChecks r = true
  · rw [if_pos h]
    by_cases h4 : n ≤ r
    · rw [if_pos h4, if_neg (by omega)]
    · rw [if_neg h4]
      by_cases h5 : n > 255
      · rw [if_pos h5, if_neg (by omega)]
      · rw [if_neg h5, if_pos ⟨h, by omega, by omega⟩]
  · rw [if_neg h, if_neg (fun e => h e.1)]
theorem same_l0 (l : List Int) (d : Nat) : ∀ (i k : Nat), i + d = l.length → l.length < 9223372036854775807 → d < k → foghornlaw19_sameBytes.l0 k l l (i : Int) = some true := by
  induction d with
  | zero =>
    intro i k hi hl hk
    obtain ⟨k, rfl⟩ : ∃ m, k = m + 1 := ⟨k - 1, by omega⟩
    rw [foghornlaw19_sameBytes.l0, if_neg (by omega)]
  | succ d ih =>
    intro i k hi hl hk
    obtain ⟨k, rfl⟩ : ∃ m, k = m + 1 := ⟨k - 1, by omega⟩
    rw [foghornlaw19_sameBytes.l0, if_pos (by omega), if_pos (by omega), if_pos (by omega), if_pos rfl, wrap_id _ (by omega) (by omega), show ((i : Int) + 1) = ((i + 1 : Nat) : Int) from by omega]
    exact ih (i + 1) k (by omega) hl (by omega)
theorem same (l : List Int) (h : l.length < 9223372036854775807) : Ev (fun k => foghornlaw19_sameBytes.f k l l) true :=
  ⟨l.length + 1, fun k hk => by show foghornlaw19_sameBytes.f k l l = some true; rw [foghornlaw19_sameBytes.f, if_pos rfl]; exact same_l0 l l.length 0 k (by omega) h (by omega)⟩
end Go.Proofs.Ytncoakokdajibaa.Sem
