import Derived.Test.YtmdeldiocaofkaaQF0
import Derived.Test.YtmdeldiocaofkaaPureFieldNumbers
/-
  The numbers are a field: sums and products commute and may be grouped anyhow, a product goes over a sum, each number but 0 has an inverse, powers add up and come round behind 255, each number but 0 is one power of 2. No condition.
-/
namespace Go.Proofs.Ytmdeldiocaofkaa.Pure
open Go.RowKit Go.Proofs.Ytmdeldiocaofkaa.Q Go.Proofs.YtmdeldiocaofkaaW.PrintWords Go.Proofs.YtmdeldiocaofkaaW.PrintLast Go.Proofs.Ytmdeldiocaofkaa.Gf Go.Proofs.Ytmdeldiocaofkaa.Sem

theorem plus_ev (a b : F) : Ev (fun _ => field_Plus.f (I a) (I b)) (I (a + b)) := ⟨0, fun k _ => by show field_Plus.f (I a) (I b) = _; rw [field_Plus.f, bx]⟩
theorem pow_sum (a : F) (ha : a ≠ 0) (n m : Int) : pow a (n % 255).toNat * pow a (m % 255).toNat = pow a ((n + m) % 255).toNat := by
  rw [← pow_add, pow_mod a ha]
  congr 1
  omega
theorem FieldLaws_j1 (a b : F) (n m : Int) (x0 x1 x2 : Int) (hn : (Lit.int .i32 n).wf = true) (hm : (Lit.int .i32 m).wf = true) : Ev (fun k => foghornlaw18_FieldLaws.j1 k (I a) (I b) false x0 x1 x2 n m) true := by
  by_cases hb : b = 0
  · subst hb
    refine Ev.stepTo' _ (fun k hk => by rw [foghornlaw18_FieldLaws.j1, if_neg (by decide)]) ?_
    refine Ev.bind (a := (0, 6)) ⟨0, fun k _ => rfl⟩ ?_
    refine Ev.congr (fun k => by rw [if_pos I_zero, if_pos rfl, if_pos rfl]) ?_
    exact Ev.bind wake (Ev.now _)
  · have h0 : ¬ I b = 0 := fun e => hb (I_eq_zero.1 e)
    simp only [Lit.wf, IntKind.min, IntKind.max, IntKind.signed, IntKind.bits, Bool.and_eq_true] at hn hm
    have hn1 := of_decide_eq_true hn.1
    have hn2 := of_decide_eq_true hn.2
    have hm1 := of_decide_eq_true hm.1
    have hm2 := of_decide_eq_true hm.2
    simp at hn1 hn2 hm1 hm2
    obtain ⟨l, hl, rfl⟩ := log_of b hb
    refine Ev.stepTo' _ (fun k hk => by rw [foghornlaw18_FieldLaws.j1, if_neg (by decide)]) ?_
    refine Ev.bind (over_ev a _ hb) ?_
    refine Ev.congr (fun k => by rw [if_neg h0, wrap_id' n (by omega) (by omega), wrap_id' m (by omega) (by omega), wrap_id' (n + m) (by omega) (by omega)]) ?_
    refine Ev.bind (power_ev _ (-1) hb) ?_
    refine Ev.bind (power_ev _ n hb) ?_
    refine Ev.bind (power_ev _ m hb) ?_
    refine Ev.bind (power_ev _ (n + m) hb) ?_
    refine Ev.bind (power_ev _ 255 hb) ?_
    refine Ev.bind (log_ev l hl) ?_
    refine Ev.congr (fun k => by rw [if_pos rfl, if_pos rfl, if_pos rfl, if_pos rfl, if_pos rfl, if_pos rfl, if_pos rfl]) ?_
    refine Ev.bind (times_ev _ _) ?_
    refine Ev.congr (fun k => by rw [if_pos (by rw [mul_assoc, inv_mul _ hb, mul_one])]) ?_
    refine Ev.bind (times_ev _ _) ?_
    refine Ev.congr (fun k => by rw [if_pos (by show I (pow _ 254 * _) = 1; exact congrArg I (inv_mul _ hb))]) ?_
    refine Ev.bind (times_ev _ _) ?_
    refine Ev.congr (fun k => by rw [if_pos (congrArg I (pow_sum _ hb n m)), if_pos (by rfl), if_pos (by show (l : Int) ≥ 0; omega), if_pos (by show (l : Int) < 255; omega)]) ?_
    refine Ev.bind (exp_ev _) ?_
    have e1 : pow two ((l : Int) % 255).toNat = pow two l := by rw [pow_two_mod l]; congr 1
    refine Ev.congr (fun k => by rw [if_pos (congrArg I e1), show wrap64 ((l : Int) + 255) = (l : Int) + 255 from wrap_id' _ (by omega) (by omega)]) ?_
    refine Ev.bind (exp_ev _) ?_
    have e2 : pow two (((l : Int) + 255) % 255).toNat = pow two l := by rw [pow_two_mod l]; congr 1; omega
    have e3 : (I (pow two l) == 1) = ((l : Int) == 0) := by
      rw [Bool.eq_iff_iff, beq_iff_eq, beq_iff_eq]
      constructor
      · intro h
        have := pow_two_inj (n := 0) hl (by decide) (I_inj h)
        omega
      · intro h
        obtain rfl : l = 0 := by omega
        rfl
    refine Ev.congr (fun k => by rw [if_pos (congrArg I e2), if_pos (by show ((I (pow two l) == 1) == ((l : Int) == 0)) = true; rw [e3]; exact beq_self_eq_true _)]) ?_
    exact Ev.bind wake (Ev.now _)
theorem FieldLaws_j0 (a b c : F) (n m : Int) (x0 x1 x2 : Int) (hn : (Lit.int .i32 n).wf = true) (hm : (Lit.int .i32 m).wf = true) : Ev (fun k => foghornlaw18_FieldLaws.j0 k (I a) (I b) (I c) false x0 x1 x2 n m) true := by
  refine Ev.stepTo' _ (fun k hk => by rw [foghornlaw18_FieldLaws.j0, if_neg (by decide)]) ?_
  refine Ev.bind (times_ev _ _) ?_
  refine Ev.bind (times_ev _ _) ?_
  refine Ev.congr (fun k => by rw [if_pos (congrArg I (mul_comm a b))]) ?_
  refine Ev.bind (times_ev _ _) ?_
  refine Ev.bind (times_ev _ _) ?_
  refine Ev.bind (times_ev _ _) ?_
  refine Ev.bind (times_ev _ _) ?_
  refine Ev.congr (fun k => by rw [if_pos (congrArg I (mul_assoc a b c))]) ?_
  refine Ev.bind (times_ev a 1) ?_
  refine Ev.congr (fun k => by rw [if_pos (by rw [mul_one])]) ?_
  refine Ev.bind (times_ev a 0) ?_
  refine Ev.congr (fun k => by rw [if_pos (by rw [mul_zero]; rfl)]) ?_
  refine Ev.bind (plus_ev b c) ?_
  refine Ev.bind (times_ev _ _) ?_
  refine Ev.bind (times_ev _ _) ?_
  refine Ev.bind (times_ev _ _) ?_
  refine Ev.bind (plus_ev _ _) ?_
  refine Ev.congr (fun k => by rw [show (I (a * (b + c)) != I (a * b + a * c)) = false from by rw [mul_add]; simp]) ?_
  exact FieldLaws_j1 a b n m x0 x1 x2 hn hm
/-- The statement over numbers. -/
theorem FieldLaws : foghornlaw18_FieldLaws.Pure := by
  intro x y z n m hx hy hz hn hm
  obtain ⟨a, rfl⟩ := u8_of hx
  obtain ⟨b, rfl⟩ := u8_of hy
  obtain ⟨c, rfl⟩ := u8_of hz
  refine Ev.rounds ?_
  refine Ev.congr (fun k => by rw [foghornlaw18_FieldLaws.f]) ?_
  refine Ev.bind (plus_ev a b) ?_
  refine Ev.bind (plus_ev b a) ?_
  refine Ev.congr (fun k => by rw [if_pos (congrArg I (add_comm a b))]) ?_
  refine Ev.bind (plus_ev a b) ?_
  refine Ev.bind (plus_ev _ c) ?_
  refine Ev.bind (plus_ev b c) ?_
  refine Ev.bind (plus_ev a _) ?_
  refine Ev.congr (fun k => by rw [if_pos (congrArg I (add_assoc a b c))]) ?_
  refine Ev.bind (plus_ev a 0) ?_
  refine Ev.congr (fun k => by rw [if_pos (congrArg I (add_zero a))]) ?_
  refine Ev.bind (plus_ev a a) ?_
  refine Ev.congr (fun k => by rw [show (I (a + a) != 0) = false from by rw [add_self]; rfl]) ?_
  exact FieldLaws_j0 a b c n m _ _ _ hn hm
end Go.Proofs.Ytmdeldiocaofkaa.Pure
