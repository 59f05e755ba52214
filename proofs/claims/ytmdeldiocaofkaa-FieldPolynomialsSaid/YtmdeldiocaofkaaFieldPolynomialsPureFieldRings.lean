import Derived.Test.YtmdeldiocaofkaaFieldPolynomialsF1
import Derived.Test.YtmdeldiocaofkaaFieldPolynomialsPureFieldNumbers
import Derived.Test.YtmdeldiocaofkaaFieldPolynomialsRuns
/-
  Sums and products go through what a polynomial is at a number; degrees add up; quotient and rest make the whole; the greatest divisor divides, and is divided by what divides both. No condition.
-/
namespace Go.Proofs.Ytmdeldiocaofkaa.Pure
open Go.RowKit Go.Proofs.Ytmdeldiocaofkaa.Q Go.Proofs.YtmdeldiocaofkaaW.PrintWords Go.Proofs.YtmdeldiocaofkaaW.PrintLast Go.Proofs.Ytmdeldiocaofkaa.Gf Go.Proofs.Ytmdeldiocaofkaa.Sem

theorem same18_l0 (l : List Int) (d : Nat) : ∀ (i k : Nat), i + d = l.length → l.length < 9223372036854775807 → d < k → foghornlaw18_same.l0 k l l (i : Int) = some true := by
  induction d with
  | zero => intro i k hi hl hk; cases k with
    | zero => omega
    | succ k => rw [foghornlaw18_same.l0, if_neg (by omega)]
  | succ d ih => intro i k hi hl hk; cases k with
    | zero => omega
    | succ k =>
      rw [foghornlaw18_same.l0, if_pos (by omega), if_pos (by omega), if_pos (by omega), if_pos rfl, wrap_id _ (by omega) (by omega), show ((i : Int) + 1) = ((i + 1 : Nat) : Int) from by omega]
      exact ih (i + 1) k (by omega) hl (by omega)
theorem same18 (l : List Int) (h : l.length < 9223372036854775807) : Ev (fun k => foghornlaw18_same.f k l l) true :=
  ⟨l.length + 1, fun k hk => by show foghornlaw18_same.f k l l = _; rw [foghornlaw18_same.f, if_pos rfl]; exact same18_l0 l l.length 0 k (by omega) h (by omega)⟩
theorem degree18 (p : List F) (h : p.length ≤ 512) : foghornlaw18_degree.f (L p) = some ((p.length : Int) - 1) := by rw [foghornlaw18_degree.f, L_length, wrap_id _ (by omega) (by omega)]
theorem IsDiv.len {p d q r : List F} (hd : IsPoly d) (hn : d ≠ []) (h : IsDiv p d q r) (hq : q ≠ []) : q.length + d.length ≤ (trim p).length + 1 := by
  have h0 : 0 < q.length := List.length_pos_iff.2 hq
  have h1 : 0 < d.length := List.length_pos_iff.2 hn
  have h2 := h.2.2.2 (q.length - 1 + (d.length - 1))
  have h3 := h.2.2.1
  rw [at_addL, at_mulL_top q d hq hn, at_ge r _ (by omega), add_zero] at h2
  by_cases e : (trim p).length ≤ q.length - 1 + (d.length - 1)
  · exfalso
    have h4 := at_ge (trim p) _ e
    rw [trim_at, h2] at h4
    exact mul_ne_zero (isPoly_ne h.1 hq) (isPoly_ne hd hn) h4
  · omega
theorem mulP_le (p q : List F) : (mulP p q).length ≤ p.length + q.length := Nat.le_trans (trim_length _) (mulL_length p q)
theorem FieldRings_j2 (a b c : List F) (ha : a.length ≤ 40) (hb : b.length ≤ 40) (hc : c.length ≤ 10) : Ev (fun k => foghornlaw18_FieldRings.j2 k (L a) (L b) (L c) false) true := by
  have l1 := trim_length a
  have l2 := trim_length b
  have l3 := trim_length c
  have m1 := mulP_le a c
  have m2 := mulP_le b c
  have t1 := trim_length (mulP a c)
  have t2 := trim_length (mulP b c)
  obtain ⟨g, hg, hgev⟩ := Gcd_ev (mulP a c) (mulP b c) (by omega) (by omega)
  have hgl : g.length ≤ 512 := by have := hg.2.1; omega
  have hgd := (hg.2.2.2 g).1 (Dvd.refl g)
  have hcd := (hg.2.2.2 c).2 ⟨Dvd.trim_iff.2 ((Dvd.mul a (Dvd.refl c)).congr (mulP_sm a c).symm), Dvd.trim_iff.2 ((Dvd.mul b (Dvd.refl c)).congr (mulP_sm b c).symm)⟩
  refine Ev.stepTo' _ (fun k _ => by rw [foghornlaw18_FieldRings.j2, if_neg (by decide)]) ?_
  refine Ev.bind (Product_ev a c (by omega) (by omega) (.inr (.inr (by omega)))) ?_
  refine Ev.bind (Product_ev b c (by omega) (by omega) (.inr (.inr (by omega)))) ?_
  refine Ev.bind hgev ?_
  refine Ev.congr (fun k => by rw [if_pos (by rfl), if_pos (by rfl), if_pos (by rfl)]) ?_
  refine Ev.bind (divides_ev g (mulP a c) (by omega) hgl (Dvd.trim_iff.1 hgd.1)) ?_
  refine Ev.congr (fun k => by rw [if_pos rfl]) ?_
  refine Ev.bind (divides_ev g (mulP b c) (by omega) hgl (Dvd.trim_iff.1 hgd.2)) ?_
  refine Ev.congr (fun k => by rw [if_pos rfl]) ?_
  refine Ev.bind (divides_ev c g hgl (by omega) hcd) ?_
  refine Ev.congr (fun k => by rw [if_pos rfl]) ?_
  exact Ev.bind wake (Ev.now _)
theorem FieldRings_j1 (a b c : List F) (ha : a.length ≤ 40) (hb : b.length ≤ 40) (hc : c.length ≤ 10) : Ev (fun k => foghornlaw18_FieldRings.j1 k (L a) (L b) (L c) (L (trim a)) (L (trim b)) false) true := by
  have l1 := trim_length a
  have l2 := trim_length b
  refine Ev.stepTo' _ (fun k _ => by rw [foghornlaw18_FieldRings.j1, if_neg (by decide)]) ?_
  by_cases e : trim b = []
  · refine Ev.bind (Divide_none a b (by omega) (by omega) e) ?_
    refine Ev.congr (fun k => by rw [e, L_nil, if_pos (by rfl), if_pos (by rfl)]) ?_
    exact Ev.bind wake (Ev.now _)
  · have h0 : 0 < (trim b).length := List.length_pos_iff.2 e
    obtain ⟨q, r, hd, hev⟩ := Divide_ev a b (by omega) (by omega) e
    have hr := hd.2.2.1
    have hq : q.length ≤ 41 := by
      by_cases eq : q = []
      · rw [eq]; simp
      · have := IsDiv.len (trim_isPoly b) e hd eq
        omega
    have hql := trim_length q
    have hwhole : addP (mulP q b) r = trim a := by
      refine (Sm.eq_trim (p := addL (mulP q b) r) (q := a) ?_)
      refine Sm.trans ?_ hd.2.2.2.symm
      exact Sm.addL ((mulP_sm q b).trans (mulL_right (Sm.trim b).symm)) (Sm.refl r)
    have hm := mulP_le q b
    refine Ev.bind hev ?_
    refine Ev.congr (fun k => by rw [L_length (trim b), if_neg (by omega)]) ?_
    refine Ev.bind (Product_ev q b (by omega) (by omega) (.inr (.inr (by omega)))) ?_
    refine Ev.bind (Sum_ev (mulP q b) r (by omega) (by omega)) ?_
    refine Ev.congr (fun k => by rw [if_pos (by rfl), if_pos (by rfl), if_pos (by rfl), if_neg (by show ¬ ((L r).length : Int) ≥ _; rw [L_length]; omega), hwhole]) ?_
    refine Ev.bind (same18 _ (by rw [L_length]; omega)) ?_
    exact FieldRings_j2 a b c ha hb hc
theorem FieldRings_j0 (a b c : List F) (x : F) (ha : a.length ≤ 40) (hb : b.length ≤ 40) (hc : c.length ≤ 10) : Ev (fun k => foghornlaw18_FieldRings.j0 k (I x) (L a) (L b) (L c) (L (addP a b)) (L (mulP a b)) (L (trim a)) (L (trim b)) false) true := by
  have l1 := trim_length a
  have l2 := trim_length b
  have m1 := mulP_le a b
  have s1 : (addP a b).length ≤ 512 := by have := trim_length (addL a b); rw [addL_length] at this; show (trim (addL a b)).length ≤ 512; omega
  refine Ev.stepTo' _ (fun k _ => by
    rw [foghornlaw18_FieldRings.j0, if_neg (by decide), At_ev a x (by omega), Option.bind_some, At_ev b x (by omega), Option.bind_some, At_ev (addP a b) x s1, Option.bind_some, At_ev (mulP a b) x (by omega), Option.bind_some,
      if_pos (by rfl), if_pos (by rfl), field_Plus.f, Option.bind_some, bx, if_pos (congrArg I (by rw [addP, evp_trim, evp_addL])), times k (by omega), Option.bind_some, if_pos (congrArg I (evp_mulP a b x))]) ?_
  by_cases e1 : trim a = []
  · have hp : mulP a b = [] := by
      rw [mulP_congr (Sm.trim a).symm (Sm.refl b), e1]
      rfl
    refine Ev.congr (fun k => by rw [if_neg (by rw [e1, L_nil]; decide), if_pos (by rw [e1]; rfl), hp, show (((L ([] : List F)).length : Int) != 0) = false from rfl]) ?_
    exact FieldRings_j1 a b c ha hb hc
  · have h1 : 0 < (trim a).length := List.length_pos_iff.2 e1
    by_cases e2 : trim b = []
    · have hp : mulP a b = [] := by
        rw [mulP_congr (Sm.refl a) (Sm.trim b).symm, e2, mulP_comm]
        rfl
      refine Ev.congr (fun k => by rw [if_pos (by rw [L_length]; omega), if_neg (by rw [e2, L_nil]; decide), if_neg (by rw [L_length]; omega), if_pos (by rw [e2]; rfl), hp, show (((L ([] : List F)).length : Int) != 0) = false from rfl]) ?_
      exact FieldRings_j1 a b c ha hb hc
    · have h2 : 0 < (trim b).length := List.length_pos_iff.2 e2
      have hp := mulP_length (trim_isPoly a) (trim_isPoly b) e1 e2
      rw [← mulP_congr (Sm.trim a).symm (Sm.trim b).symm] at hp
      refine Ev.congr (fun k => by rw [if_pos (by rw [L_length]; omega), if_pos (by rw [L_length]; omega), degree18 _ (by omega), Option.bind_some, degree18 _ (by omega), Option.bind_some, degree18 _ (by omega), Option.bind_some, if_pos (by rw [wrap_id _ (by omega) (by omega)]; omega), if_neg (by rw [L_length]; omega), if_neg (by rw [L_length]; omega)]) ?_
      exact FieldRings_j1 a b c ha hb hc
theorem take_min (p : List F) (n : Int) (hn : 0 ≤ n) : 0 ≤ mn (p.length : Int) n ∧ mn (p.length : Int) n ≤ p.length ∧ (p.take (mn (p.length : Int) n).toNat).length ≤ n.toNat := by
  unfold mn
  refine ⟨by split <;> omega, by split <;> omega, ?_⟩
  rw [List.length_take]
  split <;> omega
/-- The statement over numbers. -/
theorem FieldRings : foghornlaw18_FieldRings.Pure := by
  intro l1 l2 l3 x h1 h2 h3 hx
  obtain ⟨p, rfl⟩ := of_bytes l1 h1.2
  obtain ⟨q, rfl⟩ := of_bytes l2 h2.2
  obtain ⟨d, rfl⟩ := of_bytes l3 h3.2
  obtain ⟨x, rfl⟩ := u8_of hx
  have t1 := take_min p 40 (by decide)
  have t2 := take_min q 40 (by decide)
  have t3 := take_min d 10 (by decide)
  refine Ev.rounds ?_
  have a1 : (p.take (mn (p.length : Int) 40).toNat).length ≤ 40 := t1.2.2
  have a2 : (q.take (mn (q.length : Int) 40).toNat).length ≤ 40 := t2.2.2
  have a3 : (d.take (mn (d.length : Int) 10).toNat).length ≤ 10 := t3.2.2
  refine Ev.congr (fun k => by rw [foghornlaw18_FieldRings.f, L_length, L_length, L_length, if_pos t1.1, if_pos t1.2.1, if_pos t2.1, if_pos t2.2.1, if_pos t3.1, if_pos t3.2.1, L_take, L_take, L_take]) ?_
  generalize p.take (mn (p.length : Int) 40).toNat = a at *
  generalize q.take (mn (q.length : Int) 40).toNat = b at *
  generalize d.take (mn (d.length : Int) 10).toNat = c at *
  have l1 := trim_length a
  have l2 := trim_length b
  refine Ev.bind (Sum_ev a b (by omega) (by omega)) ?_
  refine Ev.bind (Product_ev a b (by omega) (by omega) (.inr (.inr (by omega)))) ?_
  refine Ev.bind (a := (L (trim a), 0)) (by rw [← addP_nil]; exact Sum_ev a [] (by omega) (by simp)) ?_
  refine Ev.bind (a := (L (trim b), 0)) (by rw [← addP_nil]; exact Sum_ev b [] (by omega) (by simp)) ?_
  refine Ev.congr (fun k => by rw [if_pos (by rfl), if_pos (by rfl), if_pos (by rfl)]) ?_
  exact FieldRings_j0 a b c x a1 a2 a3
end Go.Proofs.Ytmdeldiocaofkaa.Pure
