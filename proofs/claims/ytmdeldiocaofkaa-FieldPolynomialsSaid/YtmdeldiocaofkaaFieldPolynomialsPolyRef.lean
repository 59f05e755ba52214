import Derived.Test.YtmdeldiocaofkaaFieldPolynomialsF1
import Derived.Test.YtmdeldiocaofkaaFieldPolynomialsPureFieldRoots
/- All calls over polynomials, the program's and the second ones: they agree; the law's function 'polynomials' says true. -/
namespace Go.Proofs.Ytmdeldiocaofkaa.Pure
set_option linter.unusedVariables false
open Go.RowKit Go.Proofs.Ytmdeldiocaofkaa.Q Go.Proofs.YtmdeldiocaofkaaW.PrintWords Go.Proofs.YtmdeldiocaofkaaW.PrintLast Go.Proofs.YtmdeldiocaofkaaW.PrintMore Go.Proofs.Ytmdeldiocaofkaa.Gf Go.Proofs.Ytmdeldiocaofkaa.Sem

theorem agree_Sum (p q : List F) : ∃ (s : List F) (e : Int), s.length ≤ 1100 ∧ Ev (fun k => field_Sum.f k (L p) (L q)) (L s, e) ∧ Ev (fun k => foghornref18_Sum.f k (L p) (L q)) (L s, e) := by
  by_cases h : p.length ≤ 512 ∧ q.length ≤ 512
  · refine ⟨addP p q, 0, ?_, Sum_ev p q h.1 h.2, rSum_ev p q h.1 h.2⟩
    have := addL_isPoly_lt 513 (r := p) (s := q) (by omega) (by omega)
    omega
  · exact ⟨[], 1, by simp, Sum_long p q (by omega), rSum_long p q (by omega)⟩
theorem Product_long (p q : List F) (h : 512 < p.length ∨ 512 < q.length) : Ev (fun k => field_Product.f k (L p) (L q)) ([], 1) :=
  ⟨0, fun k _ => by show field_Product.f k (L p) (L q) = _; rw [field_Product.f, long2, decide_eq_true h, Option.bind_some, if_pos rfl]⟩
theorem rProduct_long (p q : List F) (h : 512 < p.length ∨ 512 < q.length) : Ev (fun k => foghornref18_Product.f k (L p) (L q)) ([], 1) :=
  ⟨0, fun k _ => by show foghornref18_Product.f k (L p) (L q) = _; rw [foghornref18_Product.f, rmay, decide_eq_false (by omega), Option.bind_some, if_neg (by decide)]⟩
theorem mn_pos (a b : Nat) : mn (a : Int) (b : Int) > 0 ↔ 0 < a ∧ 0 < b := by unfold mn; split <;> omega
theorem agree_Product (p q : List F) : ∃ (s : List F) (e : Int), s.length ≤ 1100 ∧ Ev (fun k => field_Product.f k (L p) (L q)) (L s, e) ∧ Ev (fun k => foghornref18_Product.f k (L p) (L q)) (L s, e) := by
  by_cases h : p.length ≤ 512 ∧ q.length ≤ 512
  · have l1 := trim_length p
    have l2 := trim_length q
    have hm : mulP (trim p) (trim q) = mulP p q := mulP_congr (Sm.trim p) (Sm.trim q)
    have hr := rproduct_ev (trim p) (trim q) (by omega)
    rw [hm] at hr
    by_cases c : 0 < (trim p).length ∧ 0 < (trim q).length ∧ 513 < (trim p).length + (trim q).length
    · refine ⟨[], 1, by simp, ?_, ?_⟩
      · refine Ev.congr (fun k => by rw [field_Product.f, long2, decide_eq_false (by omega), Option.bind_some, if_neg (by decide)]) ?_
        refine Ev.bind (poly_ev p (by omega)) ?_
        refine Ev.bind (poly_ev q (by omega)) ?_
        exact Ev.congr (fun k => by rw [L_length, L_length, if_pos ((mn_pos _ _).2 ⟨c.1, c.2.1⟩), wrap_id _ (by omega) (by omega), if_pos (by omega)]; rfl) (Ev.now _)
      · refine Ev.congr (fun k => by rw [foghornref18_Product.f, rmay, decide_eq_true h, Option.bind_some, if_pos rfl]) ?_
        refine Ev.bind (rTrim_ev p (by omega)) ?_
        refine Ev.bind (rTrim_ev q (by omega)) ?_
        exact Ev.congr (fun k => by rw [L_length, L_length, if_pos (by omega), if_pos (by omega), wrap_id (_ + _) (by omega) (by omega), wrap_id _ (by omega) (by omega), if_pos (by omega)]; rfl) (Ev.now _)
    · refine ⟨mulP p q, 0, ?_, Product_ev p q h.1 h.2 ?_, ?_⟩
      · have := mulP_le p q
        omega
      · by_cases e1 : (trim p).length = 0
        · exact .inl (List.eq_nil_of_length_eq_zero e1)
        · by_cases e2 : (trim q).length = 0
          · exact .inr (.inl (List.eq_nil_of_length_eq_zero e2))
          · exact .inr (.inr (by omega))
      · refine Ev.congr (fun k => by rw [foghornref18_Product.f, rmay, decide_eq_true h, Option.bind_some, if_pos rfl]) ?_
        refine Ev.bind (rTrim_ev p (by omega)) ?_
        refine Ev.bind (rTrim_ev q (by omega)) ?_
        by_cases e1 : (trim p).length = 0
        · exact Ev.congr (fun k => by rw [L_length, L_length, if_neg (by omega)]) (Ev.bind hr (Ev.now _))
        · by_cases e2 : (trim q).length = 0
          · exact Ev.congr (fun k => by rw [L_length, L_length, if_pos (by omega), if_neg (by omega)]) (Ev.bind hr (Ev.now _))
          · exact Ev.congr (fun k => by rw [L_length, L_length, if_pos (by omega), if_pos (by omega), wrap_id (_ + _) (by omega) (by omega), wrap_id _ (by omega) (by omega), if_neg (by omega)]) (Ev.bind hr (Ev.now _))
  · exact ⟨[], 1, by simp, Product_long p q (by omega), rProduct_long p q (by omega)⟩

/-! Quotients -/
theorem rdivide_l1 (d O : List F) (at0 : Nat) (f : F) (r : List Int × List Int) (e : Nat) : ∀ (j : Nat) (R : List F), j + e = d.length → at0 + d.length ≤ R.length → R.length < 140737488355328 →
    (∀ R' : List F, R'.length = R.length → (∀ n, at_ R' n = at_ R n + if at0 + j ≤ n then f * at_ d (n - at0) else 0) → Ev (fun k => foghornref18_divide.l0 k (L d) (L (trim R')) (L O)) r) →
    Ev (fun k => foghornref18_divide.l1 k (L d) (L R) (L O) (at0 : Int) (I f) (j : Int)) r := by
  induction e with
  | zero =>
    intro j R hj ho hl h
    refine Ev.stepTo' _ (fun k _ => by rw [foghornref18_divide.l1, if_neg (by rw [L_length]; omega)]) ?_
    refine Ev.bind (rTrim_ev R hl) (h R rfl (fun n => ?_))
    by_cases e : at0 + j ≤ n
    · rw [if_pos e, at_ge d _ (by omega), mul_zero, add_zero]
    · rw [if_neg e, add_zero]
  | succ e ih =>
    intro j R hj ho hl h
    have hij : at0 + j < R.length := by omega
    refine Ev.stepTo' _ (fun k hk => by
      rw [foghornref18_divide.l1, if_pos (by rw [L_length]; omega), wrap_id ((at0 : Int) + _) (by omega) (by omega), if_pos (by omega), if_pos (by rw [L_length]; omega), if_pos (by omega), rd_L, rd_L, r18times k (by omega), Option.bind_some, bx, wrap_id _ (by omega) (by omega), L_set,
        show ((j : Int) + 1) = ((j + 1 : Nat) : Int) from by omega, show ((at0 : Int) + (j : Int)).toNat = at0 + j from by omega, Int.toNat_natCast]) ?_
    refine ih (j + 1) _ (by omega) (by rw [List.length_set]; exact ho) (by rw [List.length_set]; exact hl) (fun o' h1 h2 => h o' (by rw [h1, List.length_set]) (fun n => ?_))
    rw [h2, at_set _ _ _ _ hij]
    by_cases e : n = at0 + j
    · subst e
      rw [if_pos rfl, if_neg (by omega), if_pos (by omega), add_zero, show at0 + j - at0 = j from by omega]
    · rw [if_neg e]
      by_cases e2 : at0 + (j + 1) ≤ n
      · rw [if_pos e2, if_pos (by omega)]
      · rw [if_neg e2, if_neg (by omega)]
theorem lt_of_top_zero {R : List F} {n : Nat} (h : ∀ i, n ≤ i → at_ R i = 0) : (trim R).length ≤ n := by
  rcases trim_isPoly R with e | e
  · rw [e]; exact Nat.zero_le _
  · by_cases hl : (trim R).length ≤ n
    · exact hl
    · rw [trim_at] at e
      exact absurd (h _ (by omega)) e
theorem rdivide_l0 (p d : List F) (hd : IsPoly d) (hn : d ≠ []) (N : Nat) : ∀ (R O : List F), R.length ≤ N → IsPoly R → R.length < 70368744177664 → R.length + 1 ≤ O.length + d.length → d.length < 70368744177664 → O.length < 70368744177664 → (∀ i, i + d.length ≤ R.length → at_ O i = 0) → Sm p (addL (mulL O d) R) →
    ∃ q r, IsDiv p d q r ∧ Ev (fun k => foghornref18_divide.l0 k (L d) (L R) (L O)) (L q, L r) := by
  have hd0 : 0 < d.length := List.length_pos_iff.2 hn
  induction N with
  | zero =>
    intro R O hN hR hl hO hdl hOl hz hs
    refine ⟨trim O, R, ⟨trim_isPoly O, hR, by omega, hs.trans (Sm.addL (mulL_left d (Sm.trim O).symm) (Sm.refl R))⟩, ?_⟩
    refine Ev.stepTo' _ (fun k _ => by rw [foghornref18_divide.l0, if_neg (by rw [L_length, L_length]; omega)]) ?_
    exact Ev.bind (rTrim_ev O (by omega)) (Ev.now _)
  | succ N ih =>
    intro R O hN hR hl hO hdl hOl hz hs
    by_cases c : R.length < d.length
    · refine ⟨trim O, R, ⟨trim_isPoly O, hR, c, hs.trans (Sm.addL (mulL_left d (Sm.trim O).symm) (Sm.refl R))⟩, ?_⟩
      refine Ev.stepTo' _ (fun k _ => by rw [foghornref18_divide.l0, if_neg (by rw [L_length, L_length]; omega)]) ?_
      exact Ev.bind (rTrim_ev O (by omega)) (Ev.now _)
    · have htop := isPoly_ne hd hn
      have hat : R.length - d.length < O.length := by omega
      let f : F := at_ R (R.length - 1) * inv (at_ d (d.length - 1))
      have key : ∀ R' : List F, R'.length = R.length → (∀ n, at_ R' n = at_ R n + if R.length - d.length + 0 ≤ n then f * at_ d (n - (R.length - d.length)) else 0) → ∃ q r, IsDiv p d q r ∧ Ev (fun k => foghornref18_divide.l0 k (L d) (L (trim R')) (L (O.set (R.length - d.length) f))) (L q, L r) := fun R' h1 h2 => by
        have hlt : (trim R').length ≤ R.length - 1 := lt_of_top_zero (fun i hi => by
          rw [h2, if_pos (by omega)]
          by_cases e : i = R.length - 1
          · subst e
            rw [show R.length - 1 - (R.length - d.length) = d.length - 1 from by omega]
            show _ + at_ R (R.length - 1) * inv _ * _ = 0
            rw [mul_assoc, inv_mul _ htop, mul_one, add_self]
          · rw [at_ge R i (by omega), at_ge d _ (by omega), mul_zero, add_zero])
        refine ih (trim R') (O.set (R.length - d.length) f) (by omega) (trim_isPoly _) (by omega) (by rw [List.length_set]; omega) hdl (by rw [List.length_set]; exact hOl) (fun i hi => ?_) (fun i => ?_)
        · rw [at_set _ _ _ _ hat, if_neg (by omega)]
          exact hz i (by omega)
        · rw [at_addL, trim_at, mulL_set O d f _ hat (hz _ (by omega)), h2, hs i, at_addL, Nat.add_zero]
          rw [add_assoc, add_comm (if R.length - d.length ≤ i then _ else _), add_assoc, add_self, add_zero]
      obtain ⟨R', h1, h2⟩ : ∃ R' : List F, R'.length = R.length ∧ ∀ i, at_ R' i = at_ R i + if R.length - d.length + 0 ≤ i then f * at_ d (i - (R.length - d.length)) else 0 := by
        refine ⟨(List.range R.length).map (fun i => at_ R i + if R.length - d.length + 0 ≤ i then f * at_ d (i - (R.length - d.length)) else 0), by simp, fun i => ?_⟩
        by_cases hi : i < R.length
        · rw [at_lt _ i (by simpa using hi)]; simp
        · rw [at_ge _ i (by simp; omega), at_ge R i (by omega), zero_add]
          by_cases e : R.length - d.length + 0 ≤ i
          · rw [if_pos e, at_ge d _ (by omega), mul_zero]
          · rw [if_neg e]
      obtain ⟨q, r, hdiv, hev⟩ := key R' h1 h2
      refine ⟨q, r, hdiv, ?_⟩
      refine Ev.stepTo' _ (fun k _ => by rw [foghornref18_divide.l0, L_length, L_length, if_pos (by omega), wrap_id ((R.length : Int) - 1) (by omega) (by omega), if_pos (by omega), if_pos (by omega), wrap_id ((d.length : Int) - 1) (by omega) (by omega), if_pos (by omega), if_pos (by omega), rd_L, rd_L, show ((R.length : Int) - 1).toNat = R.length - 1 from by omega, show ((d.length : Int) - 1).toNat = d.length - 1 from by omega]) ?_
      refine Ev.bind (rover_ev _ _ htop) ?_
      refine Ev.congr (fun k => by rw [wrap_id ((R.length : Int) - (d.length : Int)) (by omega) (by omega), if_pos (by omega), if_pos (by rw [L_length]; omega), show ((R.length : Int) - (d.length : Int)) = ((R.length - d.length : Nat) : Int) from by omega, Int.toNat_natCast]) ?_
      have hset : ∀ k, foghornref18_divide.l1 k (L d) (L R) ((L O).set (R.length - d.length) (I f)) ((R.length - d.length : Nat) : Int) (I f) ((0 : Nat) : Int) = foghornref18_divide.l1 k (L d) (L R) (L (O.set (R.length - d.length) f)) ((R.length - d.length : Nat) : Int) (I f) ((0 : Nat) : Int) := fun k => by rw [L_set]
      refine Ev.congr hset ?_
      refine rdivide_l1 d _ (R.length - d.length) f _ d.length 0 R (by omega) (by omega) (by omega) (fun R'' g1 g2 => ?_)
      have : R'' = R' := ext_at (by rw [g1, h1]) (fun i _ => by rw [g2, h2])
      rw [this]
      exact hev
theorem rdivide_ev (p d : List F) (hd : IsPoly d) (hn : d ≠ []) (hp : p.length < 70368744177664) (hdl : d.length < 70368744177664) : ∃ q r, IsDiv p d q r ∧ Ev (fun k => foghornref18_divide.f k (L p) (L d)) (L q, L r) := by
  have hd0 : 0 < d.length := List.length_pos_iff.2 hn
  have hl := trim_length p
  by_cases c : (trim p).length < d.length
  · refine ⟨[], trim p, ⟨.inl rfl, trim_isPoly p, c, fun i => by rw [at_addL, show mulL [] d = [] from rfl, at_nil, zero_add, trim_at]⟩, ?_⟩
    refine Ev.congr (fun k => by rw [foghornref18_divide.f]) ?_
    refine Ev.bind (rTrim_ev p (by omega)) ?_
    exact Ev.congr (fun k => by rw [L_length, L_length, if_pos (by omega)]; rfl) (Ev.now _)
  · have hw : wrap64 (wrap64 (((trim p).length : Int) - (d.length : Int)) + 1) = (((trim p).length - d.length + 1 : Nat) : Int) := by
      rw [wrap_id (_ - _) (by omega) (by omega), wrap_id _ (by omega) (by omega)]; omega
    obtain ⟨q, r, hdiv, hev⟩ := rdivide_l0 p d hd hn (trim p).length (trim p) (List.replicate ((trim p).length - d.length + 1) 0) (Nat.le_refl _) (trim_isPoly p) (by omega) (by rw [List.length_replicate]; omega) hdl (by rw [List.length_replicate]; omega) (fun i _ => at_replicate _ i)
      (fun i => by rw [at_addL, mulL_zero _ d (fun n => at_replicate _ n), zero_add, trim_at])
    refine ⟨q, r, hdiv, ?_⟩
    refine Ev.congr (fun k => by rw [foghornref18_divide.f]) ?_
    refine Ev.bind (rTrim_ev p (by omega)) ?_
    refine Ev.congr (fun k => by rw [L_length, L_length, if_neg (by omega), hw, if_pos (by omega), Int.toNat_natCast, if_pos (by omega), L_replicate]) ?_
    exact hev
theorem Divide_long (p q : List F) (h : 512 < p.length ∨ 512 < q.length) : Ev (fun k => field_Divide.f k (L p) (L q)) ([], [], 1) :=
  ⟨0, fun k _ => by show field_Divide.f k (L p) (L q) = _; rw [field_Divide.f, long2, decide_eq_true h, Option.bind_some, if_pos rfl]⟩
theorem rDivide_long (p q : List F) (h : 512 < p.length ∨ 512 < q.length) : Ev (fun k => foghornref18_Divide.f k (L p) (L q)) ([], [], 1) :=
  ⟨0, fun k _ => by show foghornref18_Divide.f k (L p) (L q) = _; rw [foghornref18_Divide.f, rmay, decide_eq_false (by omega), Option.bind_some, if_neg (by decide)]⟩
theorem agree_Divide (p q : List F) : ∃ (s r : List F) (e : Int), s.length ≤ 1100 ∧ r.length ≤ 1100 ∧ Ev (fun k => field_Divide.f k (L p) (L q)) (L s, L r, e) ∧ Ev (fun k => foghornref18_Divide.f k (L p) (L q)) (L s, L r, e) := by
  by_cases h : p.length ≤ 512 ∧ q.length ≤ 512
  · have l1 := trim_length p
    have l2 := trim_length q
    by_cases c : trim q = []
    · refine ⟨[], [], 6, by simp, by simp, Divide_none p q h.1 h.2 c, ?_⟩
      refine Ev.congr (fun k => by rw [foghornref18_Divide.f, rmay, decide_eq_true h, Option.bind_some, if_pos rfl]) ?_
      refine Ev.bind (rTrim_ev q (by omega)) ?_
      exact Ev.congr (fun k => by rw [c, L_nil, if_pos (by rfl)]) (Ev.now _)
    · have h0 : 0 < (trim q).length := List.length_pos_iff.2 c
      obtain ⟨a, b, hd, hev⟩ := Divide_ev p q h.1 h.2 c
      obtain ⟨a', b', hd', hev'⟩ := rdivide_ev p (trim q) (trim_isPoly q) c (by omega) (by omega)
      obtain ⟨rfl, rfl⟩ := hd.unique (trim_isPoly q) c hd'
      refine ⟨a, b, 0, ?_, ?_, hev, ?_⟩
      · by_cases e : a = []
        · rw [e]; simp
        · have := IsDiv.len (trim_isPoly q) c hd e
          omega
      · have := hd.2.2.1
        omega
      · refine Ev.congr (fun k => by rw [foghornref18_Divide.f, rmay, decide_eq_true h, Option.bind_some, if_pos rfl]) ?_
        refine Ev.bind (rTrim_ev q (by omega)) ?_
        refine Ev.congr (fun k => by rw [L_length, if_neg (by omega)]) ?_
        exact Ev.bind hev' (Ev.now _)
  · exact ⟨[], [], 1, by simp, by simp, Divide_long p q (by omega), rDivide_long p q (by omega)⟩

/-! Greatest divisors -/
theorem rGcd_l1 (p : List F) (b : F) (hb : b ≠ 0) (hl : p.length < 70368744177664) (d : Nat) : ∀ (i : Nat) (o : List F), i + d = p.length → o.length = p.length → (∀ n, at_ o n = if n < i then at_ p n * inv b else at_ p n) →
    Ev (fun k => foghornref18_Gcd.l1 k (L o) (I b) (i : Int)) (L (smul (inv b) p), 0) := by
  induction d with
  | zero =>
    intro i o hi ho ha
    refine Ev.stepTo' _ (fun k _ => by rw [foghornref18_Gcd.l1, if_neg (by rw [L_length]; omega)]) ?_
    have : o = smul (inv b) p := ext_at (by rw [ho, smul_length]) (fun n hn => by rw [ha, if_pos (by omega), at_smul, mul_comm])
    rw [this]
    exact Ev.now _
  | succ d ih =>
    intro i o hi ho ha
    refine Ev.stepTo' _ (fun k _ => by rw [foghornref18_Gcd.l1, if_pos (by rw [L_length]; omega), if_pos (by omega), rd_L, Int.toNat_natCast]) ?_
    refine Ev.bind (rover_ev _ _ hb) ?_
    refine Ev.congr (fun k => by rw [L_set, wrap_id _ (by omega) (by omega), show ((i : Int) + 1) = ((i + 1 : Nat) : Int) from by omega]) ?_
    refine ih (i + 1) _ (by omega) (by rw [List.length_set]; exact ho) (fun n => ?_)
    rw [at_set _ _ _ _ (by omega), ha, ha]
    by_cases e : n = i
    · subst e; rw [if_pos rfl, if_neg (by omega), if_pos (by omega)]
    · rw [if_neg e]
      by_cases h : n < i
      · rw [if_pos h, if_pos (by omega)]
      · rw [if_neg h, if_neg (by omega)]
theorem monic_eq (p : List F) (hp : IsPoly p) (hn : p ≠ []) : mulP p [inv (at_ p (p.length - 1))] = smul (inv (at_ p (p.length - 1))) p := by
  have ht := isPoly_ne hp hn
  have hi : IsPoly [inv (at_ p (p.length - 1))] := .inr (inv_ne_zero ht)
  have hl := mulP_length hp hi hn (by simp)
  refine ext_at (by rw [hl, smul_length]; simp) (fun n _ => ?_)
  rw [mulP_sm, mulL_const]
theorem gcd_agree (N : Nat) (hN : N < 70368744177664) (n : Nat) : ∀ (p q : List F), IsPoly p → IsPoly q → q.length ≤ n → p.length ≤ N → q.length ≤ N → ∃ g, g.length ≤ N ∧ Ev (fun k => field_Gcd.l0 k (L p) (L q)) (L g, 0) ∧ Ev (fun k => foghornref18_Gcd.l0 k (L p) (L q)) (L g, 0) := by
  induction n with
  | zero =>
    intro p q hp hq hl h1 h2
    obtain rfl : q = [] := List.eq_nil_of_length_eq_zero (by omega)
    by_cases e : p = []
    · subst e
      refine ⟨[], by simp, ?_, ?_⟩
      · exact Ev.stepTo' _ (fun k _ => by rw [field_Gcd.l0, if_neg (by decide), if_pos (by rfl)]; rfl) (Ev.now _)
      · exact Ev.stepTo' _ (fun k _ => by rw [foghornref18_Gcd.l0, if_neg (by decide), if_neg (by decide)]) (Ev.now _)
    · have hl : 0 < p.length := List.length_pos_iff.2 e
      refine ⟨mulP p [inv (at_ p (p.length - 1))], by rw [monic_eq p hp e, smul_length]; exact h1, ?_, ?_⟩
      · refine Ev.stepTo' _ (fun k _ => by rw [field_Gcd.l0, if_neg (by decide), L_length, if_neg (by omega), wrap_id _ (by omega) (by omega), if_pos (by omega), if_pos (by omega), rd_L, show ((p.length : Int) - 1).toNat = p.length - 1 from by omega]) ?_
        refine Ev.bind ⟨18, fun k hk => raised_inv k hk _⟩ ?_
        exact Ev.bind (product_ev p [inv (at_ p (p.length - 1))] (by simp; omega)) (Ev.now _)
      · refine Ev.stepTo' _ (fun k _ => by rw [foghornref18_Gcd.l0, if_neg (by decide), L_length, if_pos (by omega), wrap_id _ (by omega) (by omega), if_pos (by omega), if_pos (by omega), rd_L, show ((p.length : Int) - 1).toNat = p.length - 1 from by omega]) ?_
        rw [monic_eq p hp e]
        exact rGcd_l1 p _ (isPoly_ne hp e) (by omega) p.length 0 p (by omega) rfl (fun n => by rw [if_neg (Nat.not_lt_zero n)])
  | succ n ih =>
    intro p q hp hq hl h1 h2
    by_cases e : q = []
    · subst e
      exact ih p [] hp hq (by simp) h1 h2
    · have hl0 : 0 < q.length := List.length_pos_iff.2 e
      obtain ⟨a, r, hd, hev⟩ := divide_ev p q hq e (by omega) (by omega)
      obtain ⟨a', r', hd', hev'⟩ := rdivide_ev p q hq e (by omega) (by omega)
      obtain ⟨rfl, rfl⟩ := hd.unique hq e hd'
      have hr := hd.2.2.1
      obtain ⟨g, hg, e1, e2⟩ := ih q r hq hd.2.1 (by omega) h2 (by omega)
      refine ⟨g, hg, ?_, ?_⟩
      · exact Ev.stepTo' _ (fun k _ => by rw [field_Gcd.l0, L_length, if_pos (by omega)]) (Ev.bind hev e1)
      · exact Ev.stepTo' _ (fun k _ => by rw [foghornref18_Gcd.l0, L_length, if_pos (by omega)]) (Ev.bind hev' e2)
theorem agree_Gcd (p q : List F) : ∃ (s : List F) (e : Int), s.length ≤ 1100 ∧ Ev (fun k => field_Gcd.f k (L p) (L q)) (L s, e) ∧ Ev (fun k => foghornref18_Gcd.f k (L p) (L q)) (L s, e) := by
  by_cases h : p.length ≤ 512 ∧ q.length ≤ 512
  · have l1 := trim_length p
    have l2 := trim_length q
    obtain ⟨g, hg, e1, e2⟩ := gcd_agree 512 (by decide) 512 (trim p) (trim q) (trim_isPoly p) (trim_isPoly q) (by omega) (by omega) (by omega)
    refine ⟨g, 0, by omega, ?_, ?_⟩
    · refine Ev.congr (fun k => by rw [field_Gcd.f, long2, decide_eq_false (by omega), Option.bind_some, if_neg (by decide)]) ?_
      exact Ev.bind (poly_ev p (by omega)) (Ev.bind (poly_ev q (by omega)) e1)
    · refine Ev.congr (fun k => by rw [foghornref18_Gcd.f, rmay, decide_eq_true h, Option.bind_some, if_pos rfl]) ?_
      exact Ev.bind (rTrim_ev p (by omega)) (Ev.bind (rTrim_ev q (by omega)) e2)
  · refine ⟨[], 1, by simp, ⟨0, fun k _ => ?_⟩, ⟨0, fun k _ => ?_⟩⟩
    · show field_Gcd.f k (L p) (L q) = _
      rw [field_Gcd.f, long2, decide_eq_true (by omega), Option.bind_some, if_pos rfl]
      rfl
    · show foghornref18_Gcd.f k (L p) (L q) = _
      rw [foghornref18_Gcd.f, rmay, decide_eq_false (by omega), Option.bind_some, if_neg (by decide)]
      rfl

/-! Derivatives, roots, values, products of roots -/
def drl (p : List F) (i : Nat) : List F := (List.range i).map (fun n => if n % 2 = 0 then at_ p (n + 1) else 0)
theorem drl_length (p : List F) (i : Nat) : (drl p i).length = i := by unfold drl; rw [List.length_map, List.length_range]
theorem drl_succ (p : List F) (i : Nat) : drl p (i + 1) = drl p i ++ [if i % 2 = 0 then at_ p (i + 1) else 0] := by unfold drl; rw [List.range_succ, List.map_append]; rfl
theorem at_drl (p : List F) (i n : Nat) : at_ (drl p i) n = if n < i then (if n % 2 = 0 then at_ p (n + 1) else 0) else 0 := by
  by_cases h : n < i
  · rw [if_pos h, at_lt _ n (by rw [drl_length]; exact h)]; simp [drl]
  · rw [if_neg h, at_ge _ n (by rw [drl_length]; omega)]
theorem rSlope_l0 (p : List F) (hl : p.length < 70368744177664) (d : Nat) : ∀ (i : Nat), i + d + 1 = p.length ∨ (d = 0 ∧ p.length ≤ i + 1 ∧ i ≤ p.length) → Ev (fun k => foghornref18_Slope.l0 k (L p) (L (drl p i)) (i : Int)) (L (trim (dr p)), 0) := by
  induction d with
  | zero =>
    intro i hi
    refine Ev.stepTo' _ (fun k _ => by rw [foghornref18_Slope.l0, wrap_id _ (by omega) (by omega), if_neg (by rw [L_length]; omega)]) ?_
    have : trim (dr p) = trim (drl p i) := trim_ext (fun n => by
      rw [at_dr, at_drl]
      by_cases h : n < i
      · rw [if_pos h]
      · rw [if_neg h]
        by_cases e : n % 2 = 0
        · rw [if_pos e, at_ge p _ (by omega)]
        · rw [if_neg e])
    rw [this]
    exact Ev.bind (rTrim_ev _ (by rw [drl_length]; omega)) (Ev.now _)
  | succ d ih =>
    intro i hi
    have hw : wrap64 ((i : Int) + 1) = ((i + 1 : Nat) : Int) := by rw [wrap_id _ (by omega) (by omega)]; omega
    have hnx := ih (i + 1) (by omega)
    rw [drl_succ, L_append] at hnx
    have htm : Int.tmod (i : Int) 2 = ((i % 2 : Nat) : Int) := rfl
    refine Ev.stepTo' _ (fun k _ => by rw [foghornref18_Slope.l0, hw, if_pos (by rw [L_length]; omega), htm]) ?_
    by_cases e : i % 2 = 0
    · rw [if_pos e] at hnx
      refine Ev.congr (fun k => by rw [if_pos (by omega), if_pos (by omega), if_pos (by rw [L_length, drl_length]; omega), rd_L, Int.toNat_natCast]) ?_
      exact hnx
    · rw [if_neg e] at hnx
      refine Ev.congr (fun k => by rw [if_neg (by omega), if_pos (by rw [L_length, drl_length]; omega)]) ?_
      exact hnx
theorem may1 (p : List F) : foghornref18_may.f (L p) [] = some (decide (p.length ≤ 512)) := by
  have := rmay p []
  rw [L_nil] at this
  rw [this]
  congr 1
  rw [Bool.eq_iff_iff, decide_eq_true_iff, decide_eq_true_iff]
  simp
theorem agree_Slope (p : List F) : ∃ (s : List F) (e : Int), s.length ≤ 1100 ∧ Ev (fun k => field_Slope.f k (L p)) (L s, e) ∧ Ev (fun k => foghornref18_Slope.f k (L p)) (L s, e) := by
  by_cases h : p.length ≤ 512
  · refine ⟨trim (dr p), 0, ?_, Slope_ev p h, ?_⟩
    · have := trim_length (dr p); rw [dr_length] at this; omega
    · refine Ev.congr (fun k => by rw [foghornref18_Slope.f, may1, decide_eq_true h, Option.bind_some, if_pos rfl]) ?_
      exact rSlope_l0 p (by omega) (p.length - 1) 0 (by omega)
  · refine ⟨[], 1, by simp, ⟨0, fun k _ => ?_⟩, ⟨0, fun k _ => ?_⟩⟩
    · show field_Slope.f k (L p) = _
      rw [field_Slope.f, long1, decide_eq_true (by omega), Option.bind_some, if_pos rfl]
      rfl
    · show foghornref18_Slope.f k (L p) = _
      rw [foghornref18_Slope.f, may1, decide_eq_false h, Option.bind_some, if_neg (by decide)]
      rfl
theorem rRoots_l0 (p : List F) (hp : p.length < 70368744177664) (d : Nat) : ∀ (x : Nat), x + d = 256 → Ev (fun k => foghornref18_Roots.l0 k (L p) (L (rts p x)) (x : Int)) (L (rts p 256), 0) := by
  have hlen : ∀ x, (rts p x).length ≤ x := fun x => Nat.le_trans (List.length_filter_le _ _) (by rw [List.length_map, List.length_range]; exact Nat.le_refl _)
  induction d with
  | zero =>
    intro x hx
    obtain rfl : x = 256 := by omega
    refine Ev.stepTo' _ (fun k _ => by rw [foghornref18_Roots.l0, if_neg (by omega)]) ?_
    exact Ev.now _
  | succ d ih =>
    intro x hx
    have := hlen x
    have hnx := ih (x + 1) (by omega)
    rw [rts_succ p x] at hnx
    refine Ev.stepTo' _ (fun k _ => by rw [foghornref18_Roots.l0, if_pos (by omega), ← I_ofN, wrap_id _ (by omega) (by omega), show ((x : Int) + 1) = ((x + 1 : Nat) : Int) from by omega]) ?_
    refine Ev.bind (rat_ev p (ofN x) (by omega)) ?_
    by_cases h : evp p (ofN x) = 0
    · rw [if_pos h] at hnx
      refine Ev.congr (fun k => by rw [if_pos (I_eq_zero.2 h), if_pos (by rw [L_length]; omega)]) ?_
      rw [L_append] at hnx
      exact hnx
    · rw [if_neg h, List.append_nil] at hnx
      exact Ev.congr (fun k => by rw [if_neg (fun e => h (I_eq_zero.1 e))]) hnx
theorem agree_Roots (p : List F) : ∃ (s : List F) (e : Int), s.length ≤ 1100 ∧ Ev (fun k => field_Roots.f k (L p)) (L s, e) ∧ Ev (fun k => foghornref18_Roots.f k (L p)) (L s, e) := by
  by_cases h : p.length ≤ 512
  · have l1 := trim_length p
    by_cases c : trim p = []
    · refine ⟨[], 6, by simp, ?_, ?_⟩
      · refine Ev.congr (fun k => by rw [field_Roots.f, long1, decide_eq_false (by omega), Option.bind_some, if_neg (by decide)]) ?_
        refine Ev.bind (poly_ev p (by omega)) ?_
        exact Ev.congr (fun k => by rw [c, L_nil, if_pos (by rfl)]) (Ev.now _)
      · refine Ev.congr (fun k => by rw [foghornref18_Roots.f, may1, decide_eq_true h, Option.bind_some, if_pos rfl]) ?_
        refine Ev.bind (rTrim_ev p (by omega)) ?_
        exact Ev.congr (fun k => by rw [c, L_nil, if_pos (by rfl)]) (Ev.now _)
    · have h0 : 0 < (trim p).length := List.length_pos_iff.2 c
      refine ⟨rts p 256, 0, ?_, Roots_ev p h c, ?_⟩
      · have : (rts p 256).length ≤ 256 := Nat.le_trans (List.length_filter_le _ _) (by rw [List.length_map, List.length_range]; exact Nat.le_refl _)
        omega
      · refine Ev.congr (fun k => by rw [foghornref18_Roots.f, may1, decide_eq_true h, Option.bind_some, if_pos rfl]) ?_
        refine Ev.bind (rTrim_ev p (by omega)) ?_
        refine Ev.congr (fun k => by rw [L_length, if_neg (by omega)]) ?_
        exact rRoots_l0 p (by omega) 256 0 (by omega)
  · refine ⟨[], 1, by simp, ⟨0, fun k _ => ?_⟩, ⟨0, fun k _ => ?_⟩⟩
    · show field_Roots.f k (L p) = _
      rw [field_Roots.f, long1, decide_eq_true (by omega), Option.bind_some, if_pos rfl]
      rfl
    · show foghornref18_Roots.f k (L p) = _
      rw [foghornref18_Roots.f, may1, decide_eq_false h, Option.bind_some, if_neg (by decide)]
      rfl
theorem agree_At (p : List F) (x : F) : ∃ (s : Int) (e : Int), Ev (fun k => field_At.f (L p) (I x)) (s, e) ∧ Ev (fun k => foghornref18_At.f k (L p) (I x)) (s, e) := by
  by_cases h : p.length ≤ 512
  · refine ⟨I (evp p x), 0, ⟨0, fun k _ => At_ev p x h⟩, ?_⟩
    refine Ev.congr (fun k => by rw [foghornref18_At.f, may1, decide_eq_true h, Option.bind_some, if_pos rfl]) ?_
    exact Ev.bind (rat_ev p x (by omega)) (Ev.now _)
  · refine ⟨0, 1, ⟨0, fun k _ => ?_⟩, ⟨0, fun k _ => ?_⟩⟩
    · show field_At.f (L p) (I x) = _
      rw [field_At.f, long1, decide_eq_true (by omega), Option.bind_some, if_pos rfl]
    · show foghornref18_At.f k (L p) (I x) = _
      rw [foghornref18_At.f, may1, decide_eq_false h, Option.bind_some, if_neg (by decide)]
theorem rOf_l0 (l : List F) (d : Nat) : ∀ (i : Nat) (g : List F), i + d = l.length → l.length < 512 → g = ofRoots (l.take i) → Ev (fun k => foghornref18_Of.l0 k (L l) (L g) (i : Int)) (L (ofRoots l), 0) := by
  induction d with
  | zero =>
    intro i g hi hl hg
    refine Ev.stepTo' _ (fun k _ => by rw [foghornref18_Of.l0, if_neg (by rw [L_length]; omega)]) ?_
    rw [hg, List.take_of_length_le (by omega)]
    exact Ev.now _
  | succ d ih =>
    intro i g hi hl hg
    have h1 := ofRoots_length (l.take i)
    rw [← hg, List.length_take] at h1
    refine Ev.stepTo' _ (fun k _ => by rw [foghornref18_Of.l0, if_pos (by rw [L_length]; omega), if_pos (by omega), rd_L, Int.toNat_natCast, wrap_id _ (by omega) (by omega), show ((i : Int) + 1) = ((i + 1 : Nat) : Int) from by omega]) ?_
    refine Ev.bind (rproduct_ev g [at_ l i, 1] (by simp only [List.length_cons, List.length_nil]; omega)) ?_
    refine ih (i + 1) _ (by omega) hl ?_
    rw [List.take_succ_eq_append_getElem (by omega), ofRoots_snoc, ← at_lt l i (by omega), hg]
theorem agree_Of (p : List F) : ∃ (s : List F) (e : Int), s.length ≤ 1100 ∧ Ev (fun k => field_Of.f k (L p)) (L s, e) ∧ Ev (fun k => foghornref18_Of.f k (L p)) (L s, e) := by
  by_cases h : p.length < 512
  · refine ⟨ofRoots p, 0, by rw [ofRoots_length]; omega, of_ev p h, ?_⟩
    refine Ev.congr (fun k => by rw [foghornref18_Of.f, L_length, if_neg (by omega)]) ?_
    exact rOf_l0 p p.length 0 [1] (by omega) h rfl
  · refine ⟨[], 1, by simp, ⟨0, fun k _ => ?_⟩, ⟨0, fun k _ => ?_⟩⟩
    · show field_Of.f k (L p) = _
      rw [field_Of.f, L_length, if_pos (by omega)]
      rfl
    · show foghornref18_Of.f k (L p) = _
      rw [foghornref18_Of.f, L_length, if_pos (by omega)]
      rfl

/-! An answer spoilt -/
theorem spoilt_l2 (n : Nat) (hn : n < 5000) (d : Nat) : ∀ (i : Nat) (y : List Int), i + d = n → y.length = n + 20 → Ev (fun k => foghornlaw18_spoilt.l2 k y true (i : Int)) true := by
  induction d with
  | zero =>
    intro i y hi hy
    exact Ev.stepTo' _ (fun k _ => by rw [foghornlaw18_spoilt.l2, wrap_id _ (by omega) (by omega), if_neg (by omega)]) (Ev.now _)
  | succ d ih =>
    intro i y hi hy
    refine Ev.stepTo' _ (fun k _ => by rw [foghornlaw18_spoilt.l2, wrap_id (_ - _) (by omega) (by omega), if_pos (by omega), if_pos (by omega), if_pos (by omega), wrap_id _ (by omega) (by omega), show ((i : Int) + 1) = ((i + 1 : Nat) : Int) from by omega]) ?_
    exact ih (i + 1) _ (by omega) (by rw [List.length_set]; exact hy)
theorem spoilt_l1 (a : List Int) (ha : a.length < 9223372036854775807) (n : Nat) (hn : n < 5000) (d : Nat) : ∀ (i : Nat) (y : List Int), i + d = 20 → y.length = n + i → Ev (fun k => foghornlaw18_spoilt.l1 k y a a (i : Int)) true := by
  induction d with
  | zero =>
    intro i y hi hy
    refine Ev.stepTo' _ (fun k _ => by rw [foghornlaw18_spoilt.l1, if_neg (by omega)]) ?_
    exact Ev.bind (rSame a ha) (spoilt_l2 n hn n 0 y (by omega) (by omega))
  | succ d ih =>
    intro i y hi hy
    refine Ev.stepTo' _ (fun k _ => by rw [foghornlaw18_spoilt.l1, if_pos (by omega), if_pos (by omega), wrap_id _ (by omega) (by omega), show ((i : Int) + 1) = ((i + 1 : Nat) : Int) from by omega]) ?_
    exact ih (i + 1) _ (by omega) (by rw [List.length_append]; simp only [List.length_cons, List.length_nil]; omega)
theorem spoilt_l0 (a : List Int) (ha : a.length < 9223372036854775807) (n : Nat) (hn : n < 5000) (d : Nat) : ∀ (i : Nat) (y : List Int), i + d = n → y.length = n → Ev (fun k => foghornlaw18_spoilt.l0 k y a a (i : Int)) true := by
  induction d with
  | zero =>
    intro i y hi hy
    refine Ev.stepTo' _ (fun k _ => by rw [foghornlaw18_spoilt.l0, if_neg (by omega)]) ?_
    exact spoilt_l1 a ha n hn 20 0 y (by omega) (by omega)
  | succ d ih =>
    intro i y hi hy
    refine Ev.stepTo' _ (fun k _ => by rw [foghornlaw18_spoilt.l0, if_pos (by omega), if_pos (by omega), wrap_id _ (by omega) (by omega), show ((i : Int) + 1) = ((i + 1 : Nat) : Int) from by omega]) ?_
    exact ih (i + 1) _ (by omega) (by rw [List.length_set]; exact hy)
theorem spoilt_ev (s : List F) (a : List Int) (hs : s.length < 5000) (ha : a.length < 9223372036854775807) : Ev (fun k => foghornlaw18_spoilt.f k (L s) a a) true :=
  Ev.congr (fun k => by rw [foghornlaw18_spoilt.f]; rfl) (spoilt_l0 a ha s.length hs s.length 0 (L s) (by omega) (L_length s))

/-! All calls -/
theorem polynomials_ev (p q : List F) (x : F) (hp : p.length < 9223372036854775807) (hq : q.length < 9223372036854775807) : Ev (fun k => foghornlaw18_polynomials.f k (L p) (L q) (L p) (L q) (I x)) true := by
  have hLp : (L p).length < 9223372036854775807 := by rw [L_length]; exact hp
  have hLq : (L q).length < 9223372036854775807 := by rw [L_length]; exact hq
  have hsame : ∀ s : List F, s.length ≤ 1100 → Ev (fun k => foghornref18_Same.f k (L s) (L s)) true := fun s h => rSame _ (by rw [L_length]; omega)
  obtain ⟨s1, e1, b1, f1, g1⟩ := agree_Sum p q
  obtain ⟨s2, e2, b2, f2, g2⟩ := agree_Product p q
  obtain ⟨s3, r3, e3, b3, c3, f3, g3⟩ := agree_Divide p q
  obtain ⟨s4, e4, b4, f4, g4⟩ := agree_Gcd p q
  obtain ⟨s5, e5, b5, f5, g5⟩ := agree_Slope p
  obtain ⟨s6, e6, b6, f6, g6⟩ := agree_Roots p
  obtain ⟨s7, e7, f7, g7⟩ := agree_At p x
  obtain ⟨s8, e8, b8, f8, g8⟩ := agree_Of q
  refine Ev.congr (fun k => by rw [foghornlaw18_polynomials.f]) ?_
  refine Ev.bind f1 (Ev.bind g1 (Ev.congr (fun k => by rw [if_pos rfl]) (Ev.bind (hsame s1 b1) (Ev.congr (fun k => by rw [if_pos rfl]) (Ev.bind (spoilt_ev s1 _ (by omega) hLp) ?_)))))
  refine Ev.stepTo' _ (fun k _ => by rw [foghornlaw18_polynomials.j0, if_neg (by decide)]) ?_
  refine Ev.bind f2 (Ev.bind g2 (Ev.congr (fun k => by rw [if_pos rfl]) (Ev.bind (hsame s2 b2) (Ev.congr (fun k => by rw [if_pos rfl]) (Ev.bind (spoilt_ev s2 _ (by omega) hLq) ?_)))))
  refine Ev.stepTo' _ (fun k _ => by rw [foghornlaw18_polynomials.j1, if_neg (by decide)]) ?_
  refine Ev.bind f3 (Ev.bind g3 (Ev.congr (fun k => by rw [if_pos rfl]) (Ev.bind (hsame s3 b3) (Ev.congr (fun k => by rw [if_pos rfl]) (Ev.bind (hsame r3 c3) (Ev.congr (fun k => by rw [if_pos rfl]) (Ev.bind (spoilt_ev r3 _ (by omega) hLp) (Ev.congr (fun k => by rw [if_pos rfl]) (Ev.bind (hsame s3 b3) ?_)))))))))
  refine Ev.stepTo' _ (fun k _ => by rw [foghornlaw18_polynomials.j2, if_neg (by decide)]) ?_
  refine Ev.bind f4 (Ev.bind g4 (Ev.congr (fun k => by rw [if_pos rfl]) (Ev.bind (hsame s4 b4) (Ev.congr (fun k => by rw [if_pos rfl]) (Ev.bind (spoilt_ev s4 _ (by omega) hLp) ?_)))))
  refine Ev.stepTo' _ (fun k _ => by rw [foghornlaw18_polynomials.j3, if_neg (by decide)]) ?_
  refine Ev.bind f5 (Ev.bind g5 (Ev.congr (fun k => by rw [if_pos rfl]) (Ev.bind (hsame s5 b5) (Ev.congr (fun k => by rw [if_pos rfl]) (Ev.bind (spoilt_ev s5 _ (by omega) hLp) ?_)))))
  refine Ev.stepTo' _ (fun k _ => by rw [foghornlaw18_polynomials.j4, if_neg (by decide)]) ?_
  refine Ev.bind f6 (Ev.bind g6 (Ev.bind f7 (Ev.bind g7 (Ev.bind f8 (Ev.bind g8 (Ev.congr (fun k => by rw [if_pos rfl]) (Ev.bind (hsame s6 b6) (Ev.congr (fun k => by rw [if_pos rfl, if_pos rfl, if_pos rfl, if_pos rfl]) (Ev.bind (hsame s8 b8) (Ev.now _))))))))))
end Go.Proofs.Ytmdeldiocaofkaa.Pure
