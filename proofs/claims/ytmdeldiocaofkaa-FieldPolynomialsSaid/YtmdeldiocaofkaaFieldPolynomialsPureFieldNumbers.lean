import Derived.Test.YtmdeldiocaofkaaFieldPolynomialsF1
import Derived.Test.YtmdeldiocaofkaaFieldPolynomialsRTimes
/-
  Of any two numbers of the field and any exponent: sum, product, quotient, power, exponent and logarithm are the document's answers. No condition.
-/
namespace Go.Proofs.Ytmdeldiocaofkaa.Sem
open Go.RowKit Go.Proofs.Ytmdeldiocaofkaa.Q Go.Proofs.YtmdeldiocaofkaaW.PrintWords Go.Proofs.YtmdeldiocaofkaaW.PrintLast Go.Proofs.Ytmdeldiocaofkaa.Gf

theorem Ev.stepTo' {α : Type} {g : Nat → Option α} {r : α} (f : Nat → Option α) (h : ∀ k, 100 ≤ k → g (k + 1) = f k) (k : Ev f r) : Ev g r := by
  obtain ⟨K, k⟩ := k
  refine ⟨K + 101, fun n hn => ?_⟩
  obtain ⟨m, rfl⟩ : ∃ m, n = m + 1 := ⟨n - 1, by omega⟩
  rw [h m (by omega)]
  exact k m (by omega)
theorem Ev.after {α : Type} {g : Nat → Option α} {r : α} (h : ∀ k, 100 ≤ k → g k = some r) : Ev g r := ⟨100, h⟩
theorem over_ev (a b : F) (hb : b ≠ 0) : Ev (fun k => field_Over.f k (I a) (I b)) (I (a * inv b), 0) :=
  Ev.after (fun k hk => by rw [field_Over.f, if_neg (fun e => hb (I_eq_zero.1 e)), raised_inv k (by omega), Option.bind_some, times k (by omega), Option.bind_some])
theorem rover_l0 (a b : F) (hb : b ≠ 0) (d : Nat) : ∀ (x : Nat), x + d = (a * inv b).val → Ev (fun k => foghornref18_Over.l0 k (I a) (I b) (x : Int)) (I (a * inv b), 0) := by
  induction d with
  | zero =>
    intro x hx
    have hlt := (a * inv b).lt
    have e : ((x : Int)) % 256 = I (a * inv b) := by unfold I; omega
    refine Ev.stepTo' _ (fun k hk => by rw [foghornref18_Over.l0, if_pos (by omega), e, r18times k (by omega), Option.bind_some, if_pos (by rw [mul_assoc, inv_mul b hb, mul_one])]) (Ev.now _)
  | succ d ih =>
    intro x hx
    have hlt := (a * inv b).lt
    have e : ((x : Int)) % 256 = I ⟨x, by omega⟩ := by unfold I; simp only; omega
    refine Ev.stepTo' _ (fun k hk => by
      rw [foghornref18_Over.l0, if_pos (by omega), e, r18times k (by omega), Option.bind_some, if_neg (fun h => ?_), wrap_id' _ (by omega) (by omega), show ((x : Int) + 1) = ((x + 1 : Nat) : Int) from by omega]
      have h1 := congrArg (· * inv b) (I_inj h)
      simp only [mul_assoc, mul_inv b hb, mul_one] at h1
      have h2 := congrArg F.val h1
      simp only at h2
      omega) (ih (x + 1) (by omega))
theorem rover_ev (a b : F) (hb : b ≠ 0) : Ev (fun k => foghornref18_Over.f k (I a) (I b)) (I (a * inv b), 0) :=
  Ev.congr (fun k => by rw [foghornref18_Over.f, if_neg (fun e => hb (I_eq_zero.1 e))] <;> rfl) (rover_l0 a b hb (a * inv b).val 0 (by omega))
theorem power_ev (a : F) (n : Int) (ha : a ≠ 0) : Ev (fun k => field_Power.f k (I a) n) (I (pow a (n % 255).toNat), 0) := by
  have h0 : ¬ I a = 0 := fun e => ha (I_eq_zero.1 e)
  obtain ⟨m, hm⟩ : ∃ m : Nat, n % 255 = (m : Int) := ⟨(n % 255).toNat, by omega⟩
  refine Ev.congr (fun k => by rw [field_Power.f, if_neg h0]) ?_
  refine Ev.stepTo' _ (fun k hk => by rw [field_Power.j0, if_neg (by decide), if_neg h0, mod255, hm, raised k (by omega) a m (by omega), Option.bind_some]) ?_
  rw [hm, Int.toNat_natCast]
  exact Ev.now _
theorem rpow_l0 (a : F) (m : Nat) (hm : m < 255) (d : Nat) : ∀ (i : Nat), i + d = m → Ev (fun k => foghornref18_Power.l0 k (I a) (m : Int) (I (pow a i)) (i : Int)) (I (pow a m), 0) := by
  induction d with
  | zero =>
    intro i hi
    obtain rfl : i = m := by omega
    exact Ev.stepTo' _ (fun k hk => by rw [foghornref18_Power.l0, if_neg (by omega)]) (Ev.now _)
  | succ d ih =>
    intro i hi
    exact Ev.stepTo' _ (fun k hk => by rw [foghornref18_Power.l0, if_pos (by omega), r18times k (by omega), Option.bind_some, wrap_id' _ (by omega) (by omega), show ((i : Int) + 1) = ((i + 1 : Nat) : Int) from by omega] <;> rfl) (ih (i + 1) (by omega))
theorem rpow_ev (a : F) (n : Int) (ha : a ≠ 0) : Ev (fun k => foghornref18_Power.f k (I a) n) (I (pow a (n % 255).toNat), 0) := by
  have h0 : ¬ I a = 0 := fun e => ha (I_eq_zero.1 e)
  obtain ⟨m, hm⟩ : ∃ m : Nat, n % 255 = (m : Int) := ⟨(n % 255).toNat, by omega⟩
  have h1 := Int.tmod_add_mul_tdiv n 255
  have h2 : -255 < Int.tmod n 255 ∧ Int.tmod n 255 < 255 := ⟨by have := Int.lt_tmod_of_pos n (show (0 : Int) < 255 by decide); omega, Int.tmod_lt_of_pos n (by decide)⟩
  rw [hm, Int.toNat_natCast]
  by_cases hn : Int.tmod n 255 < 0
  · have e : wrap64 (Int.tmod n 255 + 255) = (m : Int) := by rw [wrap_id' _ (by omega) (by omega)]; omega
    refine Ev.congr (fun k => by rw [foghornref18_Power.f, if_neg h0, if_pos hn, e]) ?_
    exact Ev.stepTo' _ (fun k hk => by rw [foghornref18_Power.j0] <;> rfl) (rpow_l0 a m (by omega) m 0 (by omega))
  · have e : Int.tmod n 255 = (m : Int) := by omega
    refine Ev.congr (fun k => by rw [foghornref18_Power.f, if_neg h0, if_neg hn, e]) ?_
    exact Ev.stepTo' _ (fun k hk => by rw [foghornref18_Power.j0] <;> rfl) (rpow_l0 a m (by omega) m 0 (by omega))
theorem log_l0 (n : Nat) (hn : n < 255) (d : Nat) : ∀ (i : Nat), i + d = n → Ev (fun k => field_Log.l0 k (I (pow two n)) (i : Int) (I (pow two i))) ((n : Int), 0) := by
  induction d with
  | zero =>
    intro i hi
    obtain rfl : i = n := by omega
    exact Ev.stepTo' _ (fun k hk => by rw [field_Log.l0, if_pos rfl]) (Ev.now _)
  | succ d ih =>
    intro i hi
    refine Ev.stepTo' _ (fun k hk => by
      rw [field_Log.l0, if_neg (fun e => by have := pow_two_inj (by omega) hn (I_inj e); omega), show (2 : Int) = I two from rfl, times k (by omega), Option.bind_some, wrap_id' _ (by omega) (by omega), show ((i : Int) + 1) = ((i + 1 : Nat) : Int) from by omega] <;> rfl) (ih (i + 1) (by omega))
theorem rlog_l0 (n : Nat) (hn : n < 255) (d : Nat) : ∀ (i : Nat), i + d = n → Ev (fun k => foghornref18_Log.l0 k (I (pow two n)) (I (pow two i)) (i : Int)) ((n : Int), 0) := by
  induction d with
  | zero =>
    intro i hi
    obtain rfl : i = n := by omega
    exact Ev.stepTo' _ (fun k hk => by rw [foghornref18_Log.l0, if_pos (by omega), if_pos rfl]) (Ev.now _)
  | succ d ih =>
    intro i hi
    refine Ev.stepTo' _ (fun k hk => by
      rw [foghornref18_Log.l0, if_pos (by omega), if_neg (fun e => by have := pow_two_inj (by omega) hn (I_inj e); omega), show (2 : Int) = I two from rfl, r18times k (by omega), Option.bind_some, wrap_id' _ (by omega) (by omega), show ((i : Int) + 1) = ((i + 1 : Nat) : Int) from by omega] <;> rfl) (ih (i + 1) (by omega))
theorem log_ev (n : Nat) (hn : n < 255) : Ev (fun k => field_Log.f k (I (pow two n))) ((n : Int), 0) :=
  Ev.congr (fun k => by rw [field_Log.f, if_neg (fun e => pow_ne_zero two_ne_zero n (I_eq_zero.1 e))] <;> rfl) (log_l0 n hn n 0 (by omega))
theorem rlog_ev (n : Nat) (hn : n < 255) : Ev (fun k => foghornref18_Log.f k (I (pow two n))) ((n : Int), 0) :=
  Ev.congr (fun k => by rw [foghornref18_Log.f] <;> rfl) (rlog_l0 n hn n 0 (by omega))
theorem rlog_zero_l0 (d : Nat) : ∀ (i : Nat), i + d = 255 → Ev (fun k => foghornref18_Log.l0 k 0 (I (pow two i)) (i : Int)) (0, 6) := by
  induction d with
  | zero =>
    intro i hi
    exact Ev.stepTo' _ (fun k hk => by rw [foghornref18_Log.l0, if_neg (by omega)]) (Ev.now _)
  | succ d ih =>
    intro i hi
    exact Ev.stepTo' _ (fun k hk => by
      rw [foghornref18_Log.l0, if_pos (by omega), if_neg (fun e => pow_ne_zero two_ne_zero i (I_eq_zero.1 e)), show (2 : Int) = I two from rfl, r18times k (by omega), Option.bind_some, wrap_id' _ (by omega) (by omega), show ((i : Int) + 1) = ((i + 1 : Nat) : Int) from by omega] <;> rfl) (ih (i + 1) (by omega))
theorem exp_ev (n : Int) : Ev (fun k => field_Exp.f k n) (I (pow two (n % 255).toNat)) := Ev.after (fun k hk => exp_any k (by omega) n)
theorem rexp_ev (n : Int) : Ev (fun k => foghornref18_Exp.f k n) (I (pow two (n % 255).toNat)) := by
  refine Ev.congr (fun k => by rw [foghornref18_Exp.f, show (2 : Int) = I two from rfl]) ?_
  exact Ev.bind (rpow_ev two n two_ne_zero) (Ev.now _)
theorem wake : Ev (fun k => foghornlaw18_awake.f k) true :=
  Ev.of (fun k => foghornlaw18_awake.mono k) (show foghornlaw18_awake.f 60 = some true by decide +kernel)
end Go.Proofs.Ytmdeldiocaofkaa.Sem
namespace Go.Proofs.Ytmdeldiocaofkaa.Pure
open Go.RowKit Go.Proofs.Ytmdeldiocaofkaa.Q Go.Proofs.YtmdeldiocaofkaaW.PrintWords Go.Proofs.YtmdeldiocaofkaaW.PrintLast Go.Proofs.Ytmdeldiocaofkaa.Gf Go.Proofs.Ytmdeldiocaofkaa.Sem

theorem FieldNumbers_of (a b : F) (n : Int) (x y l : Int × Int) (hx : Ev (fun k => field_Over.f k (I a) (I b)) x) (hx' : Ev (fun k => foghornref18_Over.f k (I a) (I b)) x) (hy : Ev (fun k => field_Power.f k (I a) n) y) (hy' : Ev (fun k => foghornref18_Power.f k (I a) n) y) (hl : Ev (fun k => field_Log.f k (I a)) l) (hl' : Ev (fun k => foghornref18_Log.f k (I a)) l) :
    Ev (fun k => foghornlaw18_FieldNumbers.f k (I a) (I b) n) true := by
  refine Ev.congr (fun k => by rw [foghornlaw18_FieldNumbers.f]) ?_
  refine Ev.bind hx ?_
  refine Ev.bind hx' ?_
  refine Ev.bind hy ?_
  refine Ev.bind hy' ?_
  refine Ev.bind hl ?_
  refine Ev.bind hl' ?_
  refine Ev.congr (fun k => by rw [field_Plus.f, foghornref18_Plus.f, Option.bind_some, Option.bind_some, if_pos rfl]) ?_
  refine Ev.bind (times_ev a b) ?_
  refine Ev.bind (Ev.after (fun k hk => r18times k (by omega) a b)) ?_
  refine Ev.congr (fun k => by rw [if_pos rfl, if_pos rfl, if_pos rfl, if_pos rfl, if_pos rfl, if_pos rfl, if_pos rfl]) ?_
  refine Ev.bind (exp_ev n) ?_
  refine Ev.bind (rexp_ev n) ?_
  refine Ev.congr (fun k => by rw [if_pos rfl]) ?_
  exact Ev.bind wake (Ev.now _)
theorem u8_of {x : Int} (h : (Lit.int .u8 x).wf = true) : ∃ a : F, x = I a := by
  simp only [Lit.wf, IntKind.min, IntKind.max, IntKind.signed, IntKind.bits, Bool.and_eq_true] at h
  exact of_u8 x (by simpa using h.1) (by have := h.2; simp at this; omega)
/-- The statement over numbers. -/
theorem FieldNumbers : foghornlaw18_FieldNumbers.Pure := by
  intro x y n hx hy _
  obtain ⟨a, rfl⟩ := u8_of hx
  obtain ⟨b, rfl⟩ := u8_of hy
  refine Ev.rounds ?_
  have over : ∃ v, Ev (fun k => field_Over.f k (I a) (I b)) v ∧ Ev (fun k => foghornref18_Over.f k (I a) (I b)) v := by
    by_cases hb : b = 0
    · subst hb
      exact ⟨(0, 6), ⟨0, fun k _ => rfl⟩, ⟨0, fun k _ => rfl⟩⟩
    · exact ⟨_, over_ev a b hb, rover_ev a b hb⟩
  obtain ⟨v, h1, h2⟩ := over
  by_cases ha : a = 0
  · subst ha
    have hlog : Ev (fun k => field_Log.f k (I 0)) (0, 6) := ⟨0, fun k _ => rfl⟩
    have hlog' : Ev (fun k => foghornref18_Log.f k (I 0)) (0, 6) := Ev.congr (fun k => by rw [foghornref18_Log.f]; rfl) (rlog_zero_l0 255 0 (by omega))
    have pw : ∃ y, Ev (fun k => field_Power.f k (I 0) n) y ∧ Ev (fun k => foghornref18_Power.f k (I 0) n) y := by
      by_cases h0 : n < 0
      · refine ⟨(0, 6), Ev.congr (fun k => by rw [field_Power.f, if_pos I_zero, decide_eq_true h0]) (Ev.stepTo' _ (fun k hk => by rw [field_Power.j0, if_pos rfl]) (Ev.now _)), ⟨0, fun k _ => ?_⟩⟩
        show foghornref18_Power.f k (I 0) n = some (0, 6)
        rw [foghornref18_Power.f, if_pos I_zero, if_pos h0]
      · by_cases h1 : n = 0
        · subst h1
          refine ⟨(1, 0), Ev.congr (fun k => by rw [field_Power.f, if_pos I_zero, decide_eq_false h0]) (Ev.stepTo' _ (fun k hk => by rw [field_Power.j0, if_neg (by decide), if_pos I_zero, if_neg (by decide), mod255, show ((0 : Int) % 255) = ((0 : Nat) : Int) from rfl, Sem.raised k (by omega) 0 0 (by decide), Option.bind_some] <;> rfl) (Ev.now _)), ⟨0, fun k _ => ?_⟩⟩
          show foghornref18_Power.f k (I 0) 0 = some (1, 0)
          rw [foghornref18_Power.f, if_pos I_zero, if_neg h0, if_pos rfl]
        · refine ⟨(0, 0), Ev.congr (fun k => by rw [field_Power.f, if_pos I_zero, decide_eq_false h0]) (Ev.stepTo' _ (fun k hk => by rw [field_Power.j0, if_neg (by decide), if_pos I_zero, if_pos (by omega)]) (Ev.now _)), ⟨0, fun k _ => ?_⟩⟩
          show foghornref18_Power.f k (I 0) n = some (0, 0)
          rw [foghornref18_Power.f, if_pos I_zero, if_neg h0, if_neg h1]
    obtain ⟨y, h3, h4⟩ := pw
    exact FieldNumbers_of 0 b n _ _ _ h1 h2 h3 h4 hlog hlog'
  · obtain ⟨m, hm, rfl⟩ := log_of a ha
    exact FieldNumbers_of _ b n _ _ _ h1 h2 (power_ev _ n ha) (rpow_ev _ n ha) (log_ev m hm) (rlog_ev m hm)
end Go.Proofs.Ytmdeldiocaofkaa.Pure
