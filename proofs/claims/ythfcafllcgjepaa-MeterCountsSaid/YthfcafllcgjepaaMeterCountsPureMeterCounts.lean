import Derived.Test.YthfcafllcgjepaaMeterCountsMeter1
import Derived.Test.YthfcafllcgjepaaMeterCountsF0
/- MeterCounts: any rows, one behind the other: what two meters count, and the document. -/
namespace Go.Proofs.Ythfcafllcgjepaa.Met
open Go.RowKit Go.Proofs.Ythfcafllcgjepaa.Q Go.Proofs.YthfcafllcgjepaaW.PrintWords Go.Proofs.YthfcafllcgjepaaW.PrintLast Go.Proofs.YthfcafllcgjepaaW.PrintMore Go.Proofs.Ythfcafllcgjepaa.Feed

theorem mask32 (x : Nat) (h : x < 18446744073709551616) : Go.bits .and .u64 (x : Int) 4294967295 = ((x % 4294967296 : Nat) : Int) := by
  have h1 := bits_mask .u64 64 (by decide) (fun n h0 h1 => by rw [IntKind.wrap_u64]; omega) 32 (by decide) (x : Int) (by omega) (by omega)
  rw [show (4294967295 : Int) = 2 ^ 32 - 1 by decide, h1]
  omega
theorem wrap_u (x : Nat) (h : x < 18446744073709551616) : IntKind.u64.wrap (x : Int) = (x : Int) := by rw [IntKind.wrap_u64]; omega
/-- The double product: its upper and its lower half. -/
theorem mul64_f (a b x0 x1 : Nat) (ha : a < 4294967296) (hb : b < 18446744073709551616) (h0 : x0 = a * (b % 4294967296)) (h1 : x1 = a * (b / 4294967296)) :
    bits_Mul64.f (a : Int) (b : Int) = some (((((x1 + x0 / 4294967296) / 4294967296 : Nat)) : Int), (((a * b) % 18446744073709551616 : Nat) : Int)) := by
  have hx0 : x0 ≤ 18446744065119617025 := by rw [h0]; exact Nat.mul_le_mul (show a ≤ 4294967295 by omega) (show b % 4294967296 ≤ 4294967295 by omega)
  have hx1 : x1 ≤ 18446744065119617025 := by rw [h1]; exact Nat.mul_le_mul (show a ≤ 4294967295 by omega) (show b / 4294967296 ≤ 4294967295 by omega)
  have e1 : ((a : Int) / 4294967296) = ((0 : Nat) : Int) := by omega
  have e2 : ((b : Int) / 4294967296) = ((b / 4294967296 : Nat) : Int) := by omega
  have e3 : Go.bits .and .u64 (a : Int) 4294967295 = ((a : Nat) : Int) := by rw [mask32 a (by omega), Nat.mod_eq_of_lt ha]
  have e4 := mask32 b hb
  unfold bits_Mul64.f
  rw [e1, e2, e3, e4, ← Int.natCast_mul, ← Int.natCast_mul, ← Int.natCast_mul, ← Int.natCast_mul, ← Int.natCast_mul, ← h0, ← h1, Nat.zero_mul, Nat.zero_mul, wrap_u 0 (by decide), wrap_u x0 (by omega), wrap_u x1 (by omega)]
  have e5 : ((x0 : Int) / 4294967296) = ((x0 / 4294967296 : Nat) : Int) := by omega
  rw [e5, show ((0 : Nat) : Int) + ((x0 / 4294967296 : Nat) : Int) = ((x0 / 4294967296 : Nat) : Int) by omega, wrap_u (x0 / 4294967296) (by omega), mask32 (x0 / 4294967296) (by omega), Nat.mod_eq_of_lt (show x0 / 4294967296 < 4294967296 by omega),
    show ((x0 / 4294967296 : Nat) : Int) / 4294967296 = ((0 : Nat) : Int) by omega, show ((0 : Nat) : Int) + ((0 : Nat) : Int) = ((0 : Nat) : Int) by omega, wrap_u 0 (by decide), show ((x0 / 4294967296 : Nat) : Int) + (x1 : Int) = ((x1 + x0 / 4294967296 : Nat) : Int) by omega, wrap_u (x1 + x0 / 4294967296) (by omega),
    show ((x1 + x0 / 4294967296 : Nat) : Int) / 4294967296 = (((x1 + x0 / 4294967296) / 4294967296 : Nat) : Int) by omega, show ((0 : Nat) : Int) + (((x1 + x0 / 4294967296) / 4294967296 : Nat) : Int) = (((x1 + x0 / 4294967296) / 4294967296 : Nat) : Int) by omega, wrap_u ((x1 + x0 / 4294967296) / 4294967296) (by omega), IntKind.wrap_u64 ((a * b : Nat) : Int)]
  rfl
theorem within_same (s0 s1 : Int) (m w : Nat) (hm : m ≤ 2000000) (hw : w ≤ 2000000) (x : Int) (hx : x ≤ 9223372036854775807) : ∃ (a : Bool) (b : Int), meter_Meter_Within.f s0 s1 (m : Int) (w : Int) x = some (a, b, s0, s1, (m : Int), (w : Int)) ∧ foghornref30_Within.f s0 s1 (m : Int) (w : Int) x = some (a, b) := by
  by_cases h1 : x < 1
  · exact ⟨false, 1, by rw [meter_Meter_Within.f, if_pos h1], by rw [foghornref30_Within.f, if_pos h1]⟩
  · obtain ⟨n, rfl⟩ : ∃ n : Nat, x = (n : Int) := ⟨x.toNat, by omega⟩
    have hn : n < 18446744073709551616 := by omega
    obtain ⟨x0, h0⟩ : ∃ x0, x0 = w * (n % 4294967296) := ⟨_, rfl⟩
    obtain ⟨x1, hx1⟩ : ∃ x1, x1 = w * (n / 4294967296) := ⟨_, rfl⟩
    have hp : w * n = x1 * 4294967296 + x0 := by
      rw [h0, hx1, Nat.mul_assoc, ← Nat.mul_add]
      congr 1
      omega
    obtain ⟨p, hpp⟩ : ∃ p, p = w * n := ⟨_, rfl⟩
    have hM : meter_Meter_Within.f s0 s1 (m : Int) (w : Int) (n : Int) = some (decide (p ≤ m), 0, s0, s1, (m : Int), (w : Int)) := by
      rw [meter_Meter_Within.f, if_neg h1, wrap_u w (by omega), wrap_u n hn, mul64_f w n x0 x1 (by omega) hn h0 hx1, Option.bind_some, ← hpp]
      rw [← hpp] at hp
      by_cases hz : (x1 + x0 / 4294967296) / 4294967296 = 0
      · have hlt : p < 18446744073709551616 := by omega
        rw [if_pos (show ((((x1 + x0 / 4294967296) / 4294967296 : Nat)) : Int) = 0 by omega), Nat.mod_eq_of_lt hlt, wrap_u m (by omega)]
        rw [show decide (((p : Nat) : Int) ≤ (m : Int)) = decide (p ≤ m) from decide_eq_decide.2 (by omega)]
      · rw [if_neg (show ¬ ((((x1 + x0 / 4294967296) / 4294967296 : Nat)) : Int) = 0 by omega), decide_eq_false (by omega)]
    have hR : foghornref30_Within.f s0 s1 (m : Int) (w : Int) (n : Int) = some (decide (p ≤ m), 0) := by
      rw [foghornref30_Within.f, if_neg h1]
      by_cases hz : w = 0
      · rw [if_pos (by omega), decide_eq_true (by rw [hpp, hz, Nat.zero_mul]; exact Nat.zero_le _)]
      · rw [if_neg (by omega)]
        have hd : Int.tdiv (m : Int) (w : Int) = ((m / w : Nat) : Int) := Int.ofNat_tdiv m w |>.symm
        have hle : m / w ≤ m := Nat.div_le_self m w
        have hiff : n ≤ m / w ↔ p ≤ m := by rw [Nat.le_div_iff_mul_le (by omega), hpp, Nat.mul_comm]
        rw [hd]
        obtain ⟨q, hq⟩ : ∃ q, q = m / w := ⟨_, rfl⟩
        rw [← hq] at hle hiff
        rw [← hq, wrap_id (q : Int) (by omega) (by omega), show decide ((n : Int) ≤ (q : Int)) = decide (p ≤ m) from decide_eq_decide.2 (by rw [Int.ofNat_le]; exact hiff)]
    exact ⟨_, _, hM, hR⟩
theorem more_add (x d : Int) (h0 : 0 ≤ x) (h1 : x ≤ 10000000) (h2 : 0 ≤ d) (h3 : d ≤ 10000000) : mtr_more x d = x + d := by
  unfold mtr_more
  rw [wrap_id (9223372036854775807 - x) (by omega) (by omega), if_neg (by omega), wrap_id _ (by omega) (by omega)]
/-- What was counted of j rows. -/
def Cnt (j : Nat) (t : Int × Int × Int × Int) : Prop := (0 ≤ t.1 ∧ t.1 ≤ j) ∧ (0 ≤ t.2.1 ∧ t.2.1 ≤ j) ∧ (0 ≤ t.2.2.1 ∧ t.2.2.1 ≤ 32768 * j) ∧ (0 ≤ t.2.2.2 ∧ t.2.2.2 ≤ 32768 * j)
theorem i64_top {n : Int} (h : (Lit.int .i64 n).wf = true) : n ≤ 9223372036854775807 := by
  simp only [Lit.wf, IntKind.min, IntKind.max, IntKind.signed, IntKind.bits, Bool.and_eq_true] at h
  have := h.2
  simp at this
  omega
theorem step_ev (j : Nat) (hj : j < 40) (t : Int × Int × Int × Int) (ht : Cnt j t) (x : S61) (h0 : x.f0.length ≤ 140737488351232) (h1 : x.f1.length ≤ 140737488351232) (h2 : x.f2 ≤ 9223372036854775807) : ∃ t', Ev (fun k => mc_step k t x) t' ∧ Cnt (j + 1) t' := by
  obtain ⟨t1, t2, t3, t4⟩ := t
  obtain ⟨b1, b2, b3, b4⟩ := ht
  dsimp only at b1 b2 b3 b4
  have hE := errors_ev x.f0 x.f1
  have hR := ref_errors_ev x.f0 x.f1 h0
  have fin : ∀ (c : Int × Int × Int × Int) (e : Int × Int × Int), errs x.f0 x.f1 = e → Ev (fun k => foghornref30_Count.f k t1 t2 t3 t4 x.f0 x.f1) (c.1, c.2.1, c.2.2.1, c.2.2.2, e.2.2) → mtr_next (t1, t2, t3, t4) x.f0.length e = c → Cnt (j + 1) c → ∃ t', Ev (fun k => mc_step k (t1, t2, t3, t4) x) t' ∧ Cnt (j + 1) t' := by
    intro c e he hc hn hb
    obtain ⟨c1, c2, c3, c4⟩ := c
    obtain ⟨d1, d2, d3, d4⟩ := hb
    dsimp only at d1 d2 d3 d4 hc
    obtain ⟨m, rfl⟩ : ∃ m : Nat, c3 = (m : Int) := ⟨c3.toNat, by omega⟩
    obtain ⟨w, rfl⟩ : ∃ w : Nat, c4 = (w : Int) := ⟨c4.toNat, by omega⟩
    obtain ⟨a, b, w1, w2⟩ := within_same c1 c2 m w (by omega) (by omega) x.f2 h2
    refine ⟨(c1, c2, (m : Int), (w : Int)), ?_, ⟨d1, d2, d3, d4⟩⟩
    refine Ev.congr (fun k => by rw [mc_step]) ?_
    refine Ev.bind hc ?_
    rw [he] at hE
    refine Ev.bind hE ?_
    refine Ev.congr (fun k => by rw [w1, Option.bind_some, w2, Option.bind_some, if_pos ⟨rfl, ⟨by omega, by omega⟩, hn, rfl, rfl⟩]) (Ev.now _)
  unfold errs at fin hR
  by_cases hc : x.f0.length ≤ 32768 ∧ x.f0.length = x.f1.length
  · rw [if_pos hc] at fin hR
    obtain ⟨n, hn⟩ : ∃ n, n = C x.f0 x.f1 0 x.f0.length := ⟨_, rfl⟩
    have hnl : n ≤ x.f0.length := by rw [hn]; exact C_le _ _ _ _
    rw [← hn] at fin hR
    refine fin (t1 + 1, t2 + (if (n : Int) < 1 then (n : Int) else 1), t3 + x.f0.length, t4 + n) _ rfl ?_ ?_ ?_
    · refine Ev.congr (fun k => by rw [foghornref30_Count.f]) ?_
      refine Ev.bind hR ?_
      by_cases h : (n : Int) > 0
      · refine Ev.congr (fun k => ?_) (Ev.now _)
        rw [if_pos rfl, if_pos h, if_neg (show ¬ (n : Int) < 1 by omega), wrap_id (t1 + 1) (by omega) (by omega), wrap_id (t2 + 1) (by omega) (by omega), wrap_id (t3 + (x.f0.length : Int)) (by omega) (by omega), wrap_id (t4 + (n : Int)) (by omega) (by omega)]
      · refine Ev.congr (fun k => ?_) (Ev.now _)
        have hn0 : (n : Int) = 0 := by omega
        rw [if_pos rfl, if_neg h, if_pos (show (n : Int) < 1 by omega), wrap_id (t1 + 1) (by omega) (by omega), wrap_id (t3 + (x.f0.length : Int)) (by omega) (by omega), wrap_id (t4 + (n : Int)) (by omega) (by omega)]
        rw [show t2 + (n : Int) = t2 by omega]
    · unfold mtr_next
      rw [if_pos rfl]
      dsimp only
      rw [more_add t1 1 (by omega) (by omega) (by omega) (by omega), more_add t2 _ (by omega) (by omega) (by split <;> omega) (by split <;> omega), more_add t3 _ (by omega) (by omega) (by omega) (by omega), more_add t4 _ (by omega) (by omega) (by omega) (by omega)]
    · refine ⟨?_, ?_, ?_, ?_⟩
      · show 0 ≤ t1 + 1 ∧ t1 + 1 ≤ ((j + 1 : Nat) : Int)
        omega
      · show 0 ≤ t2 + (if (n : Int) < 1 then (n : Int) else 1) ∧ t2 + (if (n : Int) < 1 then (n : Int) else 1) ≤ ((j + 1 : Nat) : Int)
        split <;> omega
      · show 0 ≤ t3 + (x.f0.length : Int) ∧ t3 + (x.f0.length : Int) ≤ 32768 * ((j + 1 : Nat) : Int)
        omega
      · show 0 ≤ t4 + (n : Int) ∧ t4 + (n : Int) ≤ 32768 * ((j + 1 : Nat) : Int)
        omega
  · rw [if_neg hc] at fin hR
    refine fin (t1, t2, t3, t4) _ rfl ?_ ?_ ?_
    · refine Ev.congr (fun k => by rw [foghornref30_Count.f]) ?_
      refine Ev.bind hR ?_
      exact Ev.congr (fun k => by rw [if_neg (by decide)]) (Ev.now _)
    · unfold mtr_next
      rw [if_neg (by decide)]
    · refine ⟨?_, ?_, ?_, ?_⟩
      · show 0 ≤ t1 ∧ t1 ≤ ((j + 1 : Nat) : Int)
        omega
      · show 0 ≤ t2 ∧ t2 ≤ ((j + 1 : Nat) : Int)
        omega
      · show 0 ≤ t3 ∧ t3 ≤ 32768 * ((j + 1 : Nat) : Int)
        omega
      · show 0 ≤ t4 ∧ t4 ≤ 32768 * ((j + 1 : Nat) : Int)
        omega
theorem run_ev : ∀ (n : Nat) (l : List S61) (j : Nat) (t : Int × Int × Int × Int), j + n = 40 → Cnt j t → (∀ x ∈ l, x.f0.length ≤ 140737488351232 ∧ x.f1.length ≤ 140737488351232 ∧ x.f2 ≤ 9223372036854775807) → Ev (fun k => mc_run k l n t) true
  | _, [], _, _, _, _, _ => Ev.congr (fun k => by rw [mc_run]) awake_ev
  | 0, _ :: _, _, _, _, _, _ => Ev.congr (fun k => by rw [mc_run]) awake_ev
  | n + 1, x :: xs, j, t, hj, ht, hl => by
    obtain ⟨h0, h1, h2⟩ := hl x (List.mem_cons_self ..)
    obtain ⟨t', ht', hc⟩ := step_ev j (by omega) t ht x h0 h1 h2
    refine Ev.congr (fun k => by rw [mc_run]) ?_
    exact Ev.bind ht' (run_ev n xs (j + 1) t' (by omega) hc (fun y hy => hl y (List.mem_cons_of_mem _ hy)))
end Go.Proofs.Ythfcafllcgjepaa.Met
namespace Go.Proofs.Ythfcafllcgjepaa.Pure
open Go.RowKit Go.Proofs.Ythfcafllcgjepaa.Q Go.Proofs.YthfcafllcgjepaaW.PrintWords Go.Proofs.YthfcafllcgjepaaW.PrintLast Go.Proofs.Ythfcafllcgjepaa.Met Go.Proofs.Ythfcafllcgjepaa.Feed
theorem MeterCounts : foghornlaw30_MeterCounts.Pure := by
  intro l hl
  refine Ev.rounds (g := fun k => foghornlaw30_MeterCounts.f k l) ?_
  refine Ev.congr (fun k => by rw [foghornlaw30_MeterCounts.f]) ?_
  refine Ev.bind (errors_ev [true] [false]) ?_
  refine run_ev 40 l 0 (0, 0, 0, 0) rfl ⟨by decide, by decide, by decide, by decide⟩ (fun x hx => ?_)
  obtain ⟨h0, h1, h2⟩ := hl.2 x hx
  refine ⟨by have := h0.1; omega, by have := h1.1; omega, ?_⟩
  exact i64_top h2
end Go.Proofs.Ythfcafllcgjepaa.Pure
