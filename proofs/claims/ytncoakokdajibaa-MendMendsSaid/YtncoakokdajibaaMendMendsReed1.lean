import Derived.Test.YtncoakokdajibaaMendMendsRuns
import Derived.Test.YtncoakokdajibaaMendMendsF1
/- Every row of checks: the two generators are the same, and so are the two limits. -/
namespace Go.Proofs.Ytncoakokdajibaa.Sem
open Go.RowKit Go.Proofs.Ytncoakokdajibaa.Q Go.Proofs.YtncoakokdajibaaW.PrintWords Go.Proofs.YtncoakokdajibaaW.PrintLast Go.Proofs.Ytncoakokdajibaa.Gf
theorem xor_i64 (a b : Nat) (h : a < 65536) (k : b < 65536) : Go.bits .xor .i64 (a : Int) (b : Int) = ((a ^^^ b : Nat) : Int) :=
  bits_xor_any .i64 16 (by decide) (fun n h0 h1 => by rw [IntKind.wrap_i64]; omega) a b h k
theorem xt_if (a : Nat) (h : a < 256) : (if 2 * a > 255 then (2 * a) ^^^ 285 else 2 * a) = xt a := by
  have : ∀ a, a < 256 → (if 2 * a > 255 then (2 * a) ^^^ 285 else 2 * a) = xt a := by decide +kernel
  exact this a h
theorem shr_u8 (b i : Nat) (hi : i ≤ 8) : shr .u8 (b : Int) (i : Int) = ((b / 2 ^ i : Nat) : Int) := by
  unfold shr
  rw [Int.toNat_natCast, Nat.min_eq_left (by show i ≤ 8; exact hi)]
  simp
theorem bit_u8 (b i : Nat) (hb : b < 256) (hi : i ≤ 8) : Go.bits .and .u8 (shr .u8 (b : Int) (i : Int)) 1 = ((b.testBit i).toNat : Int) := by
  rw [shr_u8 b i hi, and_one _ (Nat.lt_of_le_of_lt (Nat.div_le_self _ _) hb), Nat.testBit_eq_decide_div_mod_eq]
  have : b / 2 ^ i % 2 = 0 ∨ b / 2 ^ i % 2 = 1 := by omega
  rcases this with h | h <;> rw [h] <;> rfl
theorem xts_succ' (n a : Nat) : xts (n + 1) a = xt (xts n a) := by
  induction n generalizing a with
  | zero => rfl
  | succ n ih => rw [xts, ih]; rfl
theorem rtimes_l0 (a b : F) (d : Nat) : ∀ (i k : Nat), i + d = 8 → d < k → foghornref19_Times.l0 k (I b) ((xts i a.val : Nat) : Int) ((mulTo i a.val b.val : Nat) : Int) (i : Int) = some (I (a * b)) := by
  induction d with
  | zero =>
    intro i k hi hk
    obtain ⟨k, rfl⟩ : ∃ m, k = m + 1 := ⟨k - 1, by omega⟩
    have : i = 8 := by omega
    subst this
    rw [foghornref19_Times.l0, if_neg (by decide)]
    have h1 := mulTo_lt 8 a.val b.val a.lt
    congr 1
    show ((mulTo 8 a.val b.val : Nat) : Int) % 256 = ((mulTo 8 a.val b.val : Nat) : Int)
    omega
  | succ d ih =>
    intro i k hi hk
    obtain ⟨k, rfl⟩ : ∃ m, k = m + 1 := ⟨k - 1, by omega⟩
    have h1 := mulTo_lt i a.val b.val a.lt
    have h2 := xts_lt i a.val a.lt
    have ih' := ih (i + 1) k (by omega) (by omega)
    have hx : wrap64 (2 * ((xts i a.val : Nat) : Int)) = ((2 * xts i a.val : Nat) : Int) := by rw [wrap_id _ (by omega) (by omega)]; omega
    have hn : (if ((2 * xts i a.val : Nat) : Int) > 255 then Go.bits .xor .i64 ((2 * xts i a.val : Nat) : Int) 285 else ((2 * xts i a.val : Nat) : Int)) = ((xts (i + 1) a.val : Nat) : Int) := by
      rw [xts_succ', ← xt_if _ h2]
      by_cases e : 2 * xts i a.val > 255
      · rw [if_pos (by omega), if_pos e]; exact xor_i64 _ 285 (by omega) (by decide)
      · rw [if_neg (by omega), if_neg e]
    rw [foghornref19_Times.l0, if_pos (by omega), if_pos (by omega), hx, show I b = ((b.val : Nat) : Int) from rfl, bit_u8 b.val i b.lt (by omega), wrap_id _ (by omega) (by omega), show ((i : Int) + 1) = ((i + 1 : Nat) : Int) from by omega]
    have hm : mulTo (i + 1) a.val b.val = mulTo i a.val b.val ^^^ sel (b.val.testBit i) (xts i a.val) := rfl
    cases hb : b.val.testBit i with
    | true =>
      rw [hb] at hm
      rw [if_pos (by decide), xor_i64 _ _ (by omega) (by omega)]
      rw [show mulTo i a.val b.val ^^^ xts i a.val = mulTo (i + 1) a.val b.val from hm.symm]
      by_cases e : ((2 * xts i a.val : Nat) : Int) > 255
      · rw [if_pos e] at hn ⊢; rw [hn]; exact ih'
      · rw [if_neg e] at hn ⊢; rw [hn]; exact ih'
    | false =>
      rw [hb] at hm
      rw [if_neg (by decide)]
      rw [show mulTo i a.val b.val = mulTo (i + 1) a.val b.val from by rw [hm]; exact (Nat.xor_zero _).symm]
      by_cases e : ((2 * xts i a.val : Nat) : Int) > 255
      · rw [if_pos e] at hn ⊢; rw [hn]; exact ih'
      · rw [if_neg e] at hn ⊢; rw [hn]; exact ih'
theorem rtimes (k : Nat) (hk : 9 ≤ k) (a b : F) : foghornref19_Times.f k (I a) (I b) = some (I (a * b)) := by
  unfold foghornref19_Times.f
  rw [wrap_id _ (by have := I_lo a; omega) (by have := I_hi a; omega)]
  exact rtimes_l0 a b 8 0 k (by omega) (by omega)
theorem rpower_l0 (r : Nat) (hr : r < 65536) (d : Nat) : ∀ (i k : Nat), i + d = r → d + 9 < k → foghornref19_Power.l0 k (r : Int) (I (pow two i)) (i : Int) = some (I (pow two r)) := by
  induction d with
  | zero =>
    intro i k hi hk
    obtain ⟨k, rfl⟩ : ∃ m, k = m + 1 := ⟨k - 1, by omega⟩
    have : i = r := by omega
    subst this
    rw [foghornref19_Power.l0, if_neg (by omega)]
  | succ d ih =>
    intro i k hi hk
    obtain ⟨k, rfl⟩ : ∃ m, k = m + 1 := ⟨k - 1, by omega⟩
    rw [foghornref19_Power.l0, if_pos (by omega), show (2 : Int) = I two from rfl, rtimes k (by omega), Option.bind_some, wrap_id _ (by omega) (by omega), show ((i : Int) + 1) = ((i + 1 : Nat) : Int) from by omega]
    exact ih (i + 1) k (by omega) (by omega)
theorem rpower_ev (r : Nat) (hr : r < 65536) : Ev (fun k => foghornref19_Power.f k (r : Int)) (I (pow two r)) :=
  ⟨r + 10, fun k hk => rpower_l0 r hr r 0 k (by omega) (by omega)⟩
theorem rcheck (n r : Int) : foghornref19_Check.f n r = some (if isChecks r = true ∧ r < n ∧ n ≤ 255 then 0 else 1) := by
  unfold foghornref19_Check.f isChecks
  by_cases h1 : r < 2
  · rw [if_pos h1, if_neg (by simp only [decide_eq_true_eq]; omega)]
  · rw [if_neg h1]
    by_cases h2 : r > 64
    · rw [if_pos h2, if_neg (by simp only [decide_eq_true_eq]; omega)]
    · rw [if_neg h2]
      by_cases h3 : Int.tmod r 2 = 0
      · rw [if_pos h3, wrap_id _ (by omega) (by omega)]
        by_cases h4 : n < r + 1
        · rw [if_pos h4, if_neg (by omega)]
        · rw [if_neg h4]
          by_cases h5 : n > 255
          · rw [if_pos h5, if_neg (by omega)]
          · rw [if_neg h5, if_pos (by simp only [decide_eq_true_eq]; omega)]
      · rw [if_neg h3, if_neg (by simp only [decide_eq_true_eq]; intro h; exact h3 h.1.2.2)]
theorem check (n r : Int) : reed_Check.f n r = some (if isChecks r = true ∧ r < n ∧ n ≤ 255 then 0 else 1) := by
  unfold reed_Check.f
  rw [checks, Option.bind_some]
  by_cases h : isChecks r = true
  · rw [if_pos h]
    by_cases h4 : n ≤ r
    · rw [if_pos h4, if_neg (by omega)]
    · rw [if_neg h4]
      by_cases h5 : n > 255
      · rw [if_pos h5, if_neg (by omega)]
      · rw [if_neg h5, if_pos ⟨h, by omega, by omega⟩]
  · rw [if_neg h, if_neg (fun e => h e.1)]
theorem at_two (x : F) (n : Nat) : at_ [x, 1] n = if n = 0 then x else if n = 1 then 1 else 0 := by
  match n with
  | 0 => rfl
  | 1 => rfl
  | n + 2 => rw [if_neg (by omega), if_neg (by omega)]; rfl
theorem rgen_l1 (g : List F) (x : F) (r : Int) (i : Nat) (res : List Int × Int) (d : Nat) : ∀ (j : Nat) (o : List F), j + d = g.length → o.length = g.length + 1 → g.length < 65536 → i < 65536 →
    Sm o (mulL (g.take j) [x, 1]) →
    (∀ o' : List F, o'.length = g.length + 1 → Sm o' (mulL g [x, 1]) → Ev (fun k => foghornref19_Generator.l0 k r (L o') ((i : Int) + 1)) res) →
    Ev (fun k => foghornref19_Generator.l1 k r (L g) (i : Int) (I x) (L o) (j : Int)) res := by
  induction d with
  | zero =>
    intro j o hj ho hg hi ha h
    refine Ev.stepTo _ (fun k _ => by rw [foghornref19_Generator.l1, if_neg (by rw [L_length]; omega), wrap_id _ (by omega) (by omega)]) (h o ho ?_)
    rwa [List.take_of_length_le (by omega)] at ha
  | succ d ih =>
    intro j o hj ho hg hi ha h
    refine Ev.stepTo _ (fun k hk => by
      rw [foghornref19_Generator.l1, if_pos (by rw [L_length]; omega), wrap_id ((j : Int) + 1) (by omega) (by omega), if_pos (by omega), if_pos (by rw [L_length]; omega), if_pos (by omega), Option.bind_some, if_pos (by rw [L_length]; omega), rd_L, rd_L, show ((j : Int) + 1) = ((j + 1 : Nat) : Int) from by omega, Int.toNat_natCast, Int.toNat_natCast, rtimes k (by omega), Option.bind_some, bx, L_set, rd_L, Int.toNat_natCast, bx, L_set]) ?_
    refine ih (j + 1) _ (by omega) (by rw [List.length_set, List.length_set]; exact ho) hg hi (fun n => ?_) h
    rw [at_set _ _ _ _ (by rw [List.length_set]; omega), at_set _ _ _ _ (by omega), at_set _ _ _ _ (by omega), ha, ha, ha, List.take_succ_eq_append_getElem (by omega), mulL_snoc, List.length_take, Nat.min_eq_left (by omega), at_two, ← at_lt g j (by omega)]
    by_cases e : n = j
    · subst e
      rw [if_pos rfl, if_neg (by omega), if_pos (Nat.le_refl _), if_pos (by omega)]
    · rw [if_neg e]
      by_cases e2 : n = j + 1
      · subst e2
        rw [if_pos rfl, if_pos (by omega), if_neg (by omega), if_pos (by omega), mul_one]
      · rw [if_neg e2]
        by_cases e3 : j ≤ n
        · rw [if_pos e3, if_neg (by omega), if_neg (by omega), mul_zero, add_zero]
        · rw [if_neg e3, add_zero]
theorem rgen_l0 (r : Nat) (hr : r ≤ 64) (d : Nat) : ∀ (i : Nat), i + d = r → Ev (fun k => foghornref19_Generator.l0 k (r : Int) (L (gen i)) (i : Int)) (L (gen r), 0) := by
  induction d with
  | zero =>
    intro i hi
    have : i = r := by omega
    subst this
    exact Ev.stepTo _ (fun k _ => by rw [foghornref19_Generator.l0, if_neg (by omega)]) (Ev.now _)
  | succ d ih =>
    intro i hi
    refine Ev.stepTo _ (fun k _ => by rw [foghornref19_Generator.l0, if_pos (by omega)]) ?_
    refine Ev.bind (rpower_ev i (by omega)) ?_
    have hl := gen_length i
    refine Ev.congr (fun k => by rw [L_length, hl, wrap_id _ (by omega) (by omega), if_pos (by omega), if_pos (by omega), show ((((i + 1 : Nat) : Int) + 1).toNat) = i + 2 from by omega, L_replicate]) ?_
    refine rgen_l1 (gen i) (pow two i) (r : Int) i _ (i + 1) 0 _ (by omega) (by rw [List.length_replicate]; omega) (by omega) (by omega) (fun n => by rw [at_replicate, List.take_zero]; exact (at_nil n).symm) (fun o' h1 h2 => ?_)
    have : o' = gen (i + 1) := ext_at (by rw [h1, hl, gen_length]) (fun n _ => by rw [h2, gen_succ, mulP_sm])
    rw [this, show ((i : Int) + 1) = ((i + 1 : Nat) : Int) from by omega]
    exact ih (i + 1) (by omega)
theorem rgenerator_ev (r : Int) (h : isChecks r = true) : Ev (fun k => foghornref19_Generator.f k r) (L (gen r.toNat), 0) := by
  have h2 := of_decide_eq_true h
  refine Ev.congr (fun k => by rw [foghornref19_Generator.f, wrap_id _ (by omega) (by omega), rcheck, if_pos ⟨h, by omega, by omega⟩, Option.bind_some, if_pos rfl]) ?_
  have := rgen_l0 r.toNat (by omega) r.toNat 0 (by omega)
  rwa [show ((r.toNat : Nat) : Int) = r from by omega] at this
theorem same_l0 (l : List Int) (d : Nat) : ∀ (i k : Nat), i + d = l.length → l.length < 9223372036854775807 → d < k → foghornlaw19_sameBytes.l0 k l l (i : Int) = some true := by
  induction d with
  | zero =>
    intro i k hi hl hk
    obtain ⟨k, rfl⟩ : ∃ m, k = m + 1 := ⟨k - 1, by omega⟩
    rw [foghornlaw19_sameBytes.l0, if_neg (by omega)]
  | succ d ih =>
    intro i k hi hl hk
    obtain ⟨k, rfl⟩ : ∃ m, k = m + 1 := ⟨k - 1, by omega⟩
    rw [foghornlaw19_sameBytes.l0, if_pos (by omega), if_pos (by omega), if_pos (by omega), if_pos rfl, wrap_id _ (by omega) (by omega), show ((i : Int) + 1) = ((i + 1 : Nat) : Int) from by omega]
    exact ih (i + 1) k (by omega) hl (by omega)
theorem same (l : List Int) (h : l.length < 9223372036854775807) : Ev (fun k => foghornlaw19_sameBytes.f k l l) true :=
  ⟨l.length + 1, fun k hk => by show foghornlaw19_sameBytes.f k l l = some true; rw [foghornlaw19_sameBytes.f, if_pos rfl]; exact same_l0 l l.length 0 k (by omega) h (by omega)⟩
end Go.Proofs.Ytncoakokdajibaa.Sem
