import Derived.Test.YtmdeldiocaofkaaFieldPolynomialsF1
import Derived.Test.YtmdeldiocaofkaaFieldPolynomialsPolyRef
/-
  Any two lists, any number: sums, products, quotients, divisors, roots; what is handed in stays; and so over the same lists with other numbers in them. No condition.
-/
namespace Go.Proofs.Ytmdeldiocaofkaa.Pure
set_option linter.unusedVariables false
open Go.RowKit Go.Proofs.Ytmdeldiocaofkaa.Q Go.Proofs.YtmdeldiocaofkaaW.PrintWords Go.Proofs.YtmdeldiocaofkaaW.PrintLast Go.Proofs.YtmdeldiocaofkaaW.PrintMore Go.Proofs.Ytmdeldiocaofkaa.Gf Go.Proofs.Ytmdeldiocaofkaa.Sem

def three : F := ⟨3, by decide⟩
theorem lent_ev (p : List F) (h : p.length < 140737488355000) : foghornlaw18_lent.f (L p) = some (L p) := by
  have hl : ((([] : List Int) ++ L p) ++ [77]).length = p.length + 1 := by rw [List.nil_append, List.length_append, L_length]; rfl
  unfold foghornlaw18_lent.f
  rw [Option.bind_some, if_pos (by rw [L_length]; show 0 + p.length < _; omega), Option.bind_some, if_pos (by rw [List.nil_append, L_length]; omega), Option.bind_some, hl, if_pos (by omega), if_pos (by rw [L_length]; omega), List.nil_append, Int.toNat_natCast, List.take_left' rfl]
theorem kept_ev (p : List F) (h : p.length < 140737488355000) : Ev (fun k => foghornlaw18_kept.f k (L p) (L p)) true :=
  Ev.congr (fun k => by rw [foghornlaw18_kept.f]) (rSame (L p) (by rw [L_length]; omega))
theorem FieldPolynomials_l0 (p q : List F) (x : F) (hp : p.length < 140737488355000) (hq : q.length < 140737488355000) (d : Nat) : ∀ (i : Nat) (a o : List F), i + d = p.length → a.length = p.length → o.length = p.length → (∀ n, n < p.length → at_ a n = if n < i then at_ p n + three else at_ p n) → (∀ n, n < i → at_ o n = at_ p n + three) →
    Ev (fun k => foghornlaw18_FieldPolynomials.l0 k (L p) (L q) (I x) (L a) (L q) (L o) (i : Int)) true := by
  induction d with
  | zero =>
    intro i a o hi ha ho h1 h2
    have hao : a = o := ext_at (by omega) (fun n hn => by rw [h1 n (by omega), if_pos (by omega), h2 n (by omega)])
    subst hao
    refine Ev.stepTo' _ (fun k _ => by rw [foghornlaw18_FieldPolynomials.l0, if_neg (by rw [L_length]; omega)]) ?_
    refine Ev.bind (polynomials_ev a q x (by omega) (by omega)) ?_
    refine Ev.congr (fun k => by rw [if_pos rfl]) ?_
    refine Ev.bind (kept_ev q hq) ?_
    refine Ev.congr (fun k => by rw [if_pos rfl]) ?_
    exact Ev.bind wake (Ev.now _)
  | succ d ih =>
    intro i a o hi ha ho h1 h2
    have h3 : Go.bits .xor .u8 (I (at_ p i)) 3 = I (at_ p i + three) := bx (at_ p i) three
    refine Ev.stepTo' _ (fun k _ => by rw [foghornlaw18_FieldPolynomials.l0, if_pos (by rw [L_length]; omega), if_pos (by omega), if_pos (by rw [L_length]; omega), Option.bind_some, if_pos (by rw [L_length]; omega), rd_L, Int.toNat_natCast, h3, L_set, rd_L, Int.toNat_natCast, L_set, wrap_id _ (by omega) (by omega), show ((i : Int) + 1) = ((i + 1 : Nat) : Int) from by omega]) ?_
    refine ih (i + 1) _ _ (by omega) (by rw [List.length_set]; exact ha) (by rw [List.length_set]; exact ho) (fun n hn => ?_) (fun n hn => ?_)
    · rw [at_set _ _ _ _ (by omega), at_set _ _ _ _ (by omega), h1 n hn]
      by_cases e : n = i
      · subst e; rw [if_pos rfl, if_pos rfl, if_pos (by omega)]
      · rw [if_neg e]
        by_cases h : n < i
        · rw [if_pos h, if_pos (by omega)]
        · rw [if_neg h, if_neg (by omega)]
    · rw [at_set _ _ _ _ (by omega)]
      by_cases e : n = i
      · rw [if_pos e, e]
      · rw [if_neg e]; exact h2 n (by omega)
/-- The statement over numbers. -/
theorem FieldPolynomials : foghornlaw18_FieldPolynomials.Pure := by
  intro l1 l2 x _ hl1 h1 _ hl2 h2 hx
  obtain ⟨p, rfl⟩ := of_bytes l1 h1
  obtain ⟨q, rfl⟩ := of_bytes l2 h2
  obtain ⟨x, rfl⟩ := u8_of hx
  rw [L_length] at hl1 hl2
  refine Ev.rounds ?_
  refine Ev.congr (fun k => by rw [foghornlaw18_FieldPolynomials.f, lent_ev p (by omega), Option.bind_some, lent_ev q (by omega), Option.bind_some]) ?_
  refine Ev.bind (polynomials_ev p q x (by omega) (by omega)) ?_
  refine Ev.congr (fun k => by rw [if_pos rfl]) ?_
  refine Ev.bind (kept_ev p (by omega)) ?_
  refine Ev.congr (fun k => by rw [if_pos rfl]) ?_
  refine Ev.bind (kept_ev q (by omega)) ?_
  refine Ev.stepTo' _ (fun k _ => by rw [foghornlaw18_FieldPolynomials.j0, if_neg (by decide), L_length, if_pos (by omega), Int.toNat_natCast, if_pos (by omega), L_replicate]) ?_
  exact FieldPolynomials_l0 p q x (by omega) (by omega) p.length 0 p (List.replicate p.length 0) (by omega) rfl List.length_replicate (fun n _ => by rw [if_neg (Nat.not_lt_zero n)]) (fun n hn => absurd hn (Nat.not_lt_zero n))
end Go.Proofs.Ytmdeldiocaofkaa.Pure
