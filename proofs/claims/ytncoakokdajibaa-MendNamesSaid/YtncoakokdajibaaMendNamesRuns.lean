import Derived.Test.YtncoakokdajibaaMendNamesBase
import Derived.Test.YtncoakokdajibaaMendNamesF0
/- What the printed product, the polynomial with given roots and the generators come to. -/
namespace Go.Proofs.Ytncoakokdajibaa.Sem
open Go.RowKit Go.Proofs.Ytncoakokdajibaa.Q Go.Proofs.YtncoakokdajibaaW.PrintWords Go.Proofs.YtncoakokdajibaaW.PrintLast Go.Proofs.Ytncoakokdajibaa.Gf

theorem Ev.stepTo {α : Type} {g : Nat → Option α} {r : α} (f : Nat → Option α) (h : ∀ k, 18 ≤ k → g (k + 1) = f k) (k : Ev f r) : Ev g r := by
  obtain ⟨K, k⟩ := k
  refine ⟨K + 19, fun n hn => ?_⟩
  obtain ⟨m, rfl⟩ : ∃ m, n = m + 1 := ⟨n - 1, by omega⟩
  rw [h m (by omega)]
  exact k m (by omega)

theorem product_l1 (p q : List F) (i : Nat) (a : F) (r : List Int) (d : Nat) : ∀ (j : Nat) (o : List F), j + d = q.length → i + q.length ≤ o.length → o.length < 140737488355328 → 
    (∀ o' : List F, o'.length = o.length → (∀ n, at_ o' n = at_ o n + if i + j ≤ n then a * at_ q (n - i) else 0) → Ev (fun k => field_product.l0 k (L q) (L o') (L p) (p.length : Int) ((i : Int) + 1)) r) →
    Ev (fun k => field_product.l1 k (L q) (L o) (i : Int) (I a) (L p) (p.length : Int) (i : Int) (L q) (q.length : Int) (j : Int)) r := by
  induction d with
  | zero =>
    intro j o hj ho hl h
    refine Ev.stepTo _ (fun k _ => by rw [field_product.l1, if_neg (by omega), wrap_id _ (by omega) (by omega)]) (h o rfl (fun n => ?_))
    by_cases e : i + j ≤ n
    · rw [if_pos e, at_ge q _ (by omega), mul_zero, add_zero]
    · rw [if_neg e, add_zero]
  | succ d ih =>
    intro j o hj ho hl h
    have hij : i + j < o.length := by omega
    refine Ev.stepTo _ (fun k hk => by
      rw [field_product.l1, if_pos (by omega), if_pos (by omega), if_pos (by rw [L_length]; omega), wrap_id _ (by omega) (by omega), if_pos (by omega), if_pos (by rw [L_length]; omega), rd_L, rd_L, times k (by omega), Option.bind_some, bx, wrap_id _ (by omega) (by omega), L_set,
        show ((j : Int) + 1) = ((j + 1 : Nat) : Int) from by omega, show ((i : Int) + (j : Int)).toNat = i + j from by omega, Int.toNat_natCast]) ?_
    refine ih (j + 1) _ (by omega) (by rw [List.length_set]; exact ho) (by rw [List.length_set]; exact hl) (fun o' h1 h2 => h o' (by rw [h1, List.length_set]) (fun n => ?_))
    rw [h2, at_set _ _ _ _ hij]
    by_cases e : n = i + j
    · subst e
      rw [if_pos rfl, if_neg (by omega), if_pos (by omega), add_zero, show i + j - i = j from by omega]
    · rw [if_neg e]
      by_cases e2 : i + (j + 1) ≤ n
      · rw [if_pos e2, if_pos (by omega)]
      · rw [if_neg e2, if_neg (by omega)]
theorem product_l0 (p q : List F) (r : List Int) (d : Nat) : ∀ (i : Nat) (o : List F), i + d = p.length → p.length + q.length ≤ o.length → o.length < 140737488355328 → (∀ n, at_ o n = at_ (mulL (p.take i) q) n) → r = L (trim (mulL p q)) →
    Ev (fun k => field_product.l0 k (L q) (L o) (L p) (p.length : Int) (i : Int)) r := by
  induction d with
  | zero =>
    intro i o hi ho hl ha hr
    refine Ev.stepTo _ (fun k _ => by rw [field_product.l0, if_neg (by omega)]) ?_
    rw [List.take_of_length_le (by omega)] at ha
    rw [hr, ← trim_ext ha]
    exact Ev.bind (poly_ev o hl) (Ev.now _)
  | succ d ih =>
    intro i o hi ho hl ha hr
    refine Ev.stepTo _ (fun k _ => by rw [field_product.l0, if_pos (by omega), if_pos (by omega), if_pos (by rw [L_length]; omega), rd_L, Int.toNat_natCast, L_length]) ?_
    refine product_l1 p q i (at_ p i) r q.length 0 o (by omega) (by omega) hl (fun o' h1 h2 => ?_)
    rw [show ((i : Int) + 1) = ((i + 1 : Nat) : Int) from by omega]
    refine ih (i + 1) o' (by omega) (by omega) (by omega) (fun n => ?_) hr
    rw [List.take_succ_eq_append_getElem (by omega), mulL_snoc, h2, ha, List.length_take, Nat.min_eq_left (by omega), ← at_lt p i (by omega), Nat.add_zero]
theorem product_ev (p q : List F) (hl : p.length + q.length < 140737488355328) : Ev (fun k => field_product.f k (L p) (L q)) (L (mulP p q)) := by
  refine Ev.congr (fun k => by rw [field_product.f, L_length, L_length, wrap_id _ (by omega) (by omega), if_pos (by omega), if_pos (by omega), show ((p.length : Int) + (q.length : Int)).toNat = p.length + q.length from by omega, L_replicate]) ?_
  exact product_l0 p q _ p.length 0 _ (by omega) (by rw [List.length_replicate]; omega) (by rw [List.length_replicate]; exact hl) (fun n => by rw [at_replicate, List.take_zero, show mulL [] q = [] from rfl, at_nil]) rfl

theorem of_l0 (l : List F) (d : Nat) : ∀ (i : Nat) (g : List F), i + d = l.length → l.length < 512 → g = ofRoots (l.take i) → Ev (fun k => field_Of.l0 k (L g) (L l) (l.length : Int) (i : Int)) (L (ofRoots l), 0) := by
  induction d with
  | zero =>
    intro i g hi hl hg
    rw [List.take_of_length_le (by omega)] at hg
    subst hg
    exact Ev.stepTo _ (fun k _ => by rw [field_Of.l0, if_neg (by omega)]) (Ev.now _)
  | succ d ih =>
    intro i g hi hl hg
    refine Ev.stepTo _ (fun k _ => by rw [field_Of.l0, if_pos (by omega), if_pos (by omega), if_pos (by rw [L_length]; omega), rd_L, Int.toNat_natCast]) ?_
    have hgl : g.length = i + 1 := by rw [hg, ofRoots_length, List.length_take]; omega
    refine Ev.bind (product_ev g [at_ l i, 1] (by rw [hgl]; simp; omega)) ?_
    refine Ev.congr (fun k => by rw [wrap_id _ (by omega) (by omega), show ((i : Int) + 1) = ((i + 1 : Nat) : Int) from by omega]) ?_
    refine ih (i + 1) _ (by omega) hl ?_
    rw [List.take_succ_eq_append_getElem (by omega), ofRoots_snoc, ← hg, at_lt l i (by omega)]
theorem of_ev (l : List F) (hl : l.length < 512) : Ev (fun k => field_Of.f k (L l)) (L (ofRoots l), 0) := by
  refine Ev.congr (fun k => by rw [field_Of.f, if_neg (by rw [L_length]; omega), L_length]) ?_
  exact of_l0 l l.length 0 [1] (by omega) hl rfl

/-- The roots of the codewords: powers of 2. -/
def pows (r : Nat) : List F := (List.range r).map (pow two)
theorem pows_length (r : Nat) : (pows r).length = r := by unfold pows; rw [List.length_map, List.length_range]
theorem pows_succ (r : Nat) : pows (r + 1) = pows r ++ [pow two r] := by unfold pows; rw [List.range_succ, List.map_append]; rfl
def gen (r : Nat) : List F := ofRoots (pows r)
theorem gen_succ (r : Nat) : gen (r + 1) = mulP (gen r) [pow two r, 1] := by unfold gen; rw [pows_succ, ofRoots_snoc]
theorem gen_length (r : Nat) : (gen r).length = r + 1 := by unfold gen; rw [ofRoots_length, pows_length]
theorem gen_isPoly (r : Nat) : IsPoly (gen r) := ofRoots_isPoly _
theorem gen_top (r : Nat) : at_ (gen r) r = 1 := by have := ofRoots_top (pows r); rwa [pows_length] at this
/-- May there be so many checks? -/
def isChecks (r : Int) : Bool := decide (2 ≤ r ∧ r ≤ 64 ∧ Int.tmod r 2 = 0)
theorem checks (r : Int) : reed_checks.f r = some (isChecks r) := by
  unfold reed_checks.f isChecks
  by_cases h1 : r ≥ 2
  · rw [if_pos h1]
    by_cases h2 : r ≤ 64
    · rw [if_pos h2]
      congr 1
      by_cases h3 : Int.tmod r 2 = 0
      · rw [h3]; simp; omega
      · rw [decide_eq_false (fun h => h3 h.2.2)]; simpa using h3
    · rw [if_neg h2, decide_eq_false (by omega)]
  · rw [if_neg h1, decide_eq_false (by omega)]
theorem generator_l0 (r : Nat) (hr : r ≤ 64) (d : Nat) : ∀ (i : Nat) (o : List F), i + d = r → o.length = r → (∀ n, n < i → at_ o n = pow two n) → Ev (fun k => reed_Generator.l0 k (L o) (r : Int) (i : Int)) (L (gen r), 0) := by
  induction d with
  | zero =>
    intro i o hi ho h
    refine Ev.stepTo _ (fun k _ => by rw [reed_Generator.l0, if_neg (by omega)]) ?_
    have : o = pows r := ext_at (by rw [ho, pows_length]) (fun n hn => by
      rw [h n (by omega), at_lt _ n (by rw [pows_length]; omega)]
      unfold pows
      rw [List.getElem_map, List.getElem_range])
    rw [this]
    exact Ev.bind (of_ev (pows r) (by rw [pows_length]; omega)) (Ev.now _)
  | succ d ih =>
    intro i o hi ho h
    refine Ev.stepTo _ (fun k hk => by rw [reed_Generator.l0, if_pos (by omega), exp_nat k hk, Option.bind_some, if_pos (by omega), if_pos (by rw [L_length]; omega), Int.toNat_natCast, L_set, wrap_id _ (by omega) (by omega), show ((i : Int) + 1) = ((i + 1 : Nat) : Int) from by omega]) ?_
    refine ih (i + 1) _ (by omega) (by rw [List.length_set]; exact ho) (fun n hn => ?_)
    rw [at_set _ _ _ _ (by omega)]
    by_cases e : n = i
    · rw [if_pos e, e]
    · rw [if_neg e, h n (by omega)]
theorem generator_ev (r : Int) (h : isChecks r = true) : Ev (fun k => reed_Generator.f k r) (L (gen r.toNat), 0) := by
  have h2 := of_decide_eq_true h
  refine Ev.congr (fun k => by rw [reed_Generator.f, checks, h, Option.bind_some, if_pos rfl, if_pos (by omega), if_pos (by omega), L_replicate]) ?_
  have := generator_l0 r.toNat (by omega) r.toNat 0 (List.replicate r.toNat 0) (by omega) (List.length_replicate) (fun n hn => by omega)
  rwa [show ((r.toNat : Nat) : Int) = r from by omega] at this
theorem generator_none (r : Int) (h : isChecks r = false) (k : Nat) : reed_Generator.f k r = some ([], 1) := by
  rw [reed_Generator.f, checks, h, Option.bind_some, if_neg (by decide)]
end Go.Proofs.Ytncoakokdajibaa.Sem

/- Sums, quotients and greatest divisors, as the program has them. -/
namespace Go.Proofs.Ytncoakokdajibaa.Sem
open Go.RowKit Go.Proofs.Ytncoakokdajibaa.Q Go.Proofs.YtncoakokdajibaaW.PrintWords Go.Proofs.YtncoakokdajibaaW.PrintLast Go.Proofs.YtncoakokdajibaaW.PrintMore Go.Proofs.Ytncoakokdajibaa.Gf

theorem sum_step (big small : List F) (l0 : Nat → List Int → List Int → Int → Int → Option (List Int))
    (hl : ∀ k x5 x17 x18 x19, l0 (k + 1) x5 x17 x18 x19 = if x19 < x18 then (if 0 ≤ x19 then (if x19 < (x17.length : Int) then (if x19 < (x5.length : Int) then (l0 k (x5.set (x19 : Int).toNat (Go.bits .xor .u8 (rd x5 x19) (rd x17 x19))) x17 x18 (wrap64 (x19 + 1))) else (none)) else (none)) else (none)) else ((field_poly.f k x5).bind fun t160 => (some t160)))
    (d : Nat) : ∀ (i : Nat) (o : List F), i + d = small.length → o.length = big.length → small.length ≤ big.length → big.length < 140737488355328 → (∀ n, at_ o n = at_ big n + if n < i then at_ small n else 0) → Ev (fun k => l0 k (L o) (L small) (small.length : Int) (i : Int)) (L (addP big small)) := by
  induction d with
  | zero =>
    intro i o hi ho hs hb ha
    refine Ev.stepTo _ (fun k _ => by rw [hl, if_neg (by omega)]) ?_
    have : addP big small = trim o := trim_ext (fun n => by
      rw [at_addL, ha]
      by_cases h : n < i
      · rw [if_pos h]
      · rw [if_neg h, at_ge small n (by omega)])
    rw [this]
    exact Ev.bind (poly_ev o (by omega)) (Ev.now _)
  | succ d ih =>
    intro i o hi ho hs hb ha
    refine Ev.stepTo _ (fun k _ => by rw [hl, if_pos (by omega), if_pos (by omega), if_pos (by rw [L_length]; omega), if_pos (by rw [L_length]; omega), rd_L, rd_L, bx, Int.toNat_natCast, L_set, wrap_id _ (by omega) (by omega), show ((i : Int) + 1) = ((i + 1 : Nat) : Int) from by omega]) ?_
    refine ih (i + 1) _ (by omega) (by rw [List.length_set]; exact ho) hs hb (fun n => ?_)
    rw [at_set _ _ _ _ (by omega), ha, ha]
    by_cases e : n = i
    · subst e; rw [if_pos rfl, if_neg (by omega), if_pos (by omega), add_zero]
    · rw [if_neg e]
      by_cases h : n < i
      · rw [if_pos h, if_pos (by omega)]
      · rw [if_neg h, if_neg (by omega)]
theorem addP_comm (p q : List F) : addP p q = addP q p := trim_ext (fun n => by rw [at_addL, at_addL, add_comm])
theorem sum_ev (p q : List F) (hp : p.length < 140737488355328) (hq : q.length < 140737488355328) : Ev (fun k => field_sum.f k (L p) (L q)) (L (addP p q)) := by
  by_cases h : (p.length : Int) < q.length
  · refine Ev.congr (fun k => by rw [field_sum.f, L_length, L_length, if_pos h, clone q hq, Option.bind_some]) ?_
    rw [addP_comm]
    exact sum_step q p field_sum.l0 (fun _ _ _ _ _ => by rw [field_sum.l0]) p.length 0 q (by omega) rfl (by omega) hq (fun n => by rw [if_neg (by omega), add_zero])
  · refine Ev.congr (fun k => by rw [field_sum.f, L_length, L_length, if_neg h, clone p hp, Option.bind_some]) ?_
    exact sum_step p q field_sum.l102 (fun _ _ _ _ _ => by rw [field_sum.l102]) q.length 0 p (by omega) rfl (by omega) hp (fun n => by rw [if_neg (by omega), add_zero])
theorem long2 (p q : List F) : field_long.f [L p, L q] = some (decide (512 < p.length ∨ 512 < q.length)) := by
  unfold field_long.f
  simp only [List.any_cons, List.any_nil, L_length, Bool.or_false]
  congr 1
  rw [Bool.eq_iff_iff, Bool.or_eq_true, decide_eq_true_iff, decide_eq_true_iff, decide_eq_true_iff]
  omega
theorem long1 (p : List F) : field_long.f [L p] = some (decide (512 < p.length)) := by
  unfold field_long.f
  simp only [List.any_cons, List.any_nil, L_length, Bool.or_false]
  congr 1
  rw [Bool.eq_iff_iff, decide_eq_true_iff, decide_eq_true_iff]
  omega
theorem Sum_ev (p q : List F) (hp : p.length ≤ 512) (hq : q.length ≤ 512) : Ev (fun k => field_Sum.f k (L p) (L q)) (L (addP p q), 0) := by
  refine Ev.congr (fun k => by rw [field_Sum.f, long2, decide_eq_false (by omega), Option.bind_some, if_neg (by decide)]) ?_
  exact Ev.bind (sum_ev p q (by omega) (by omega)) (Ev.now _)
theorem Sum_long (p q : List F) (h : 512 < p.length ∨ 512 < q.length) : Ev (fun k => field_Sum.f k (L p) (L q)) ([], 1) :=
  ⟨0, fun k _ => by show field_Sum.f k (L p) (L q) = _; rw [field_Sum.f, long2, decide_eq_true h, Option.bind_some, if_pos rfl]⟩
theorem Product_ev (p q : List F) (hp : p.length ≤ 512) (hq : q.length ≤ 512) (h : trim p = [] ∨ trim q = [] ∨ (trim p).length + (trim q).length ≤ 513) : Ev (fun k => field_Product.f k (L p) (L q)) (L (mulP p q), 0) := by
  have l1 := trim_length p
  have l2 := trim_length q
  refine Ev.congr (fun k => by rw [field_Product.f, long2, decide_eq_false (by omega), Option.bind_some, if_neg (by decide)]) ?_
  refine Ev.bind (poly_ev p (by omega)) ?_
  refine Ev.bind (poly_ev q (by omega)) ?_
  have hm : mulP p q = mulP (trim p) (trim q) := mulP_congr (Sm.trim p).symm (Sm.trim q).symm
  have hw : wrap64 (((trim p).length : Int) + ((trim q).length : Int)) = ((trim p).length : Int) + ((trim q).length : Int) := wrap_id _ (by omega) (by omega)
  have hp := product_ev (trim p) (trim q) (by omega)
  rw [← hm] at hp
  by_cases c : mn ((trim p).length : Int) ((trim q).length : Int) > 0
  · have hn : ¬ ((trim p).length : Int) + ((trim q).length : Int) > 513 := by
      have c1 : (trim p).length ≠ 0 := fun e => by rw [e] at c; unfold mn at c; split at c <;> omega
      have c2 : (trim q).length ≠ 0 := fun e => by rw [e] at c; unfold mn at c; split at c <;> omega
      rcases h with h | h | h
      · exact absurd (by rw [h]; rfl) c1
      · exact absurd (by rw [h]; rfl) c2
      · omega
    refine Ev.congr (fun k => by rw [L_length, L_length, if_pos c, hw, if_neg hn]) ?_
    exact Ev.bind hp (Ev.now _)
  · refine Ev.congr (fun k => by rw [L_length, L_length, if_neg c]) ?_
    exact Ev.bind hp (Ev.now _)
theorem at_step (x s n : F) : (field_at.step (I x) (I s) (I n)).getD 0 = I (s * x + n) := by
  unfold field_at.step
  rw [times 9 (by decide), Option.map_some, Option.getD_some, bx]
theorem at_ev (p : List F) (x : F) : field_at.f (L p) (I x) = some (I (evp p x)) := by
  unfold field_at.f
  rw [if_pos ⟨I_lo x, I_hi x⟩]
  congr 1
  induction p with
  | nil => rfl
  | cons a p ih => rw [L_cons, List.foldr_cons, ih, at_step, evp, mul_comm, add_comm]
theorem At_ev (p : List F) (x : F) (hp : p.length ≤ 512) : field_At.f (L p) (I x) = some (I (evp p x), 0) := by
  rw [field_At.f, long1, decide_eq_false (by omega), Option.bind_some, if_neg (by decide), at_ev, Option.bind_some]

/-! Division -/
theorem mulL_set (q d : List F) (f : F) : ∀ (i : Nat), i < q.length → at_ q i = 0 → ∀ n, at_ (mulL (q.set i f) d) n = at_ (mulL q d) n + if i ≤ n then f * at_ d (n - i) else 0 := by
  induction q with
  | nil => intro i hi; simp at hi
  | cons a q ih =>
    intro i hi h0 n
    cases i with
    | zero =>
      have ha : a = 0 := h0
      subst ha
      rw [List.set_cons_zero, if_pos (Nat.zero_le _), Nat.sub_zero, mulL, mulL, at_addL, at_addL, at_smul, at_smul, zero_mul, zero_add, add_comm]
    | succ i =>
      rw [List.set_cons_succ]
      have hi' : i < q.length := by simpa using hi
      cases n with
      | zero => rw [at_mulL_zero, at_mulL_zero, if_neg (by omega), add_zero]
      | succ n =>
        rw [at_mulL_succ, at_mulL_succ, ih i hi' h0, add_assoc]
        congr 2
        by_cases h : i ≤ n
        · rw [if_pos h, if_pos (by omega), show n + 1 - (i + 1) = n - i from by omega]
        · rw [if_neg h, if_neg (by omega)]
theorem divide_l1 (d : List F) (x6 : Int) (Q : List F) (at0 : Nat) (f : F) (r : List Int × List Int) (e : Nat) : ∀ (j : Nat) (R : List F), j + e = d.length → at0 + d.length ≤ R.length → R.length < 140737488355328 →
    (∀ R' : List F, R'.length = R.length → (∀ n, at_ R' n = at_ R n + if at0 + j ≤ n then f * at_ d (n - at0) else 0) → Ev (fun k => field_divide.l0 k (L d) (L Q) (L R') x6 ((at0 : Int) - 1)) r) →
    Ev (fun k => field_divide.l1 k (L d) (L Q) (L R) x6 (at0 : Int) (I f) (L d) (d.length : Int) (j : Int)) r := by
  induction e with
  | zero =>
    intro j R hj ho hl h
    refine Ev.stepTo _ (fun k _ => by rw [field_divide.l1, if_neg (by omega), wrap_id _ (by omega) (by omega)]) (h R rfl (fun n => ?_))
    by_cases e : at0 + j ≤ n
    · rw [if_pos e, at_ge d _ (by omega), mul_zero, add_zero]
    · rw [if_neg e, add_zero]
  | succ e ih =>
    intro j R hj ho hl h
    have hij : at0 + j < R.length := by omega
    refine Ev.stepTo _ (fun k hk => by
      rw [field_divide.l1, if_pos (by omega), if_pos (by omega), if_pos (by rw [L_length]; omega), wrap_id _ (by omega) (by omega), if_pos (by omega), if_pos (by rw [L_length]; omega), rd_L, rd_L, times k (by omega), Option.bind_some, bx, wrap_id _ (by omega) (by omega), L_set,
        show ((j : Int) + 1) = ((j + 1 : Nat) : Int) from by omega, show ((at0 : Int) + (j : Int)).toNat = at0 + j from by omega, Int.toNat_natCast]) ?_
    refine ih (j + 1) _ (by omega) (by rw [List.length_set]; exact ho) (by rw [List.length_set]; exact hl) (fun o' h1 h2 => h o' (by rw [h1, List.length_set]) (fun n => ?_))
    rw [h2, at_set _ _ _ _ hij]
    by_cases e : n = at0 + j
    · subst e
      rw [if_pos rfl, if_neg (by omega), if_pos (by omega), add_zero, show at0 + j - at0 = j from by omega]
    · rw [if_neg e]
      by_cases e2 : at0 + (j + 1) ≤ n
      · rw [if_pos e2, if_pos (by omega)]
      · rw [if_neg e2, if_neg (by omega)]
/-- What a division comes to. -/
def IsDiv (p d q r : List F) : Prop := IsPoly q ∧ IsPoly r ∧ r.length < d.length ∧ Sm p (addL (mulL q d) r)
theorem divide_l0 (p d : List F) (hd : IsPoly d) (hn : d ≠ []) (m : Nat) (hm : p.length + 1 = m + d.length ∨ m = 0 ∧ p.length < d.length) (hp : IsPoly p) (hl : p.length < 140737488355328) (hdl : d.length < 140737488355328) :
    ∀ (n : Nat) (Q R : List F), n ≤ m → Q.length = m → R.length = p.length → (∀ i, i < n → at_ Q i = 0) → (∀ i, n + d.length - 1 ≤ i → at_ R i = 0) ∨ n = m → (n < m → at_ Q (m - 1) ≠ 0) → (n = m → Sm p R) → Sm p (addL (mulL Q d) R) →
      ∃ q r, IsDiv p d q r ∧ Ev (fun k => field_divide.l0 k (L d) (L Q) (L R) (I (inv (at_ d (d.length - 1)))) ((n : Int) - 1)) (L q, L r) := by
  have hd0 : 0 < d.length := List.length_pos_iff.2 hn
  intro n
  induction n with
  | zero =>
    intro Q R _ hQ hR h0 hz ht hs hsum
    refine ⟨Q, trim R, ⟨?_, trim_isPoly R, ?_, ?_⟩, ?_⟩
    · by_cases e : m = 0
      · exact .inl (List.eq_nil_of_length_eq_zero (by omega))
      · right; rw [hQ]; exact ht (by omega)
    · rcases hz with hz | hz
      · by_cases e : (trim R).length < d.length
        · exact e
        · have h1 := trim_isPoly R
          rcases h1 with h1 | h1
          · rw [h1]; exact hd0
          · exact absurd ((trim_at R _).trans (hz _ (by omega))) h1
      · have := trim_length R
        omega
    · exact fun i => by rw [hsum i, at_addL, at_addL, trim_at]
    · refine Ev.stepTo _ (fun k _ => by rw [field_divide.l0, if_neg (by omega)]) ?_
      exact Ev.bind (poly_ev R (by omega)) (Ev.now _)
  | succ n ih =>
    intro Q R hnm hQ hR h0 hz ht hs hsum
    have hm' : p.length + 1 = m + d.length := by rcases hm with h | h <;> omega
    have e1 : ((n + 1 : Nat) : Int) - 1 = (n : Int) := by omega
    let f : F := at_ R (n + d.length - 1) * inv (at_ d (d.length - 1))
    have htop : at_ d (d.length - 1) ≠ 0 := isPoly_ne hd hn
    have hn1 : n < Q.length := by omega
    have hsum' : ∀ R', (∀ i, at_ R' i = at_ R i + if n + 0 ≤ i then f * at_ d (i - n) else 0) → Sm p (addL (mulL (Q.set n f) d) R') := fun R' h i => by
      rw [at_addL, mulL_set Q d f n hn1 (h0 n (by omega)), h, hsum i, at_addL, Nat.add_zero]
      rw [add_assoc, add_comm (if n ≤ i then _ else _), add_assoc, add_self, add_zero]
    have hz' : ∀ R', (∀ i, at_ R' i = at_ R i + if n + 0 ≤ i then f * at_ d (i - n) else 0) → R'.length = R.length → ∀ i, n + d.length - 1 ≤ i → at_ R' i = 0 := fun R' h hl' i hi => by
      rw [h, if_pos (by omega)]
      by_cases e : i = n + d.length - 1
      · subst e
        rw [show n + d.length - 1 - n = d.length - 1 from by omega]
        show _ + at_ R (n + d.length - 1) * inv _ * _ = 0
        rw [mul_assoc, inv_mul _ htop, mul_one, add_self]
      · rw [at_ge d (i - n) (by omega), mul_zero, add_zero]
        rcases hz with hz | hz
        · exact hz i (by omega)
        · exact at_ge R i (by omega)
    have htop' : at_ (Q.set n f) (m - 1) ≠ 0 := by
      rw [at_set _ _ _ _ hn1]
      by_cases e : m - 1 = n
      · rw [if_pos e]
        have hRp := hs (by omega)
        have : at_ R (n + d.length - 1) ≠ 0 := by
          rw [← hRp, show n + d.length - 1 = p.length - 1 from by omega]
          exact isPoly_ne hp (fun e => by rw [e] at hm'; simp at hm'; omega)
        exact mul_ne_zero this (inv_ne_zero htop)
      · rw [if_neg e]; exact ht (by omega)
    -- the next round, whatever the rest has become
    have key : ∀ R' : List F, R'.length = R.length → (∀ i, at_ R' i = at_ R i + if n + 0 ≤ i then f * at_ d (i - n) else 0) → ∃ q r, IsDiv p d q r ∧ Ev (fun k => field_divide.l0 k (L d) (L (Q.set n f)) (L R') (I (inv (at_ d (d.length - 1)))) ((n : Int) - 1)) (L q, L r) := fun R' h1 h2 =>
      ih (Q.set n f) R' (by omega) (by rw [List.length_set]; exact hQ) (by omega) (fun i hi => by rw [at_set _ _ _ _ hn1, if_neg (by omega)]; exact h0 i (by omega)) (.inl (hz' R' h2 h1)) (fun _ => htop') (fun e => by omega) (hsum' R' h2)
    -- what it becomes is one list
    obtain ⟨R', h1, h2⟩ : ∃ R' : List F, R'.length = R.length ∧ ∀ i, at_ R' i = at_ R i + if n + 0 ≤ i then f * at_ d (i - n) else 0 := by
      refine ⟨(List.range R.length).map (fun i => at_ R i + if n + 0 ≤ i then f * at_ d (i - n) else 0), by simp, fun i => ?_⟩
      by_cases hi : i < R.length
      · rw [at_lt _ i (by simpa using hi)]; simp
      · rw [at_ge _ i (by simp; omega), at_ge R i (by omega), zero_add]
        by_cases e : n + 0 ≤ i
        · rw [if_pos e, at_ge d _ (by omega), mul_zero]
        · rw [if_neg e]
    obtain ⟨q, r, hdiv, hev⟩ := key R' h1 h2
    refine ⟨q, r, hdiv, ?_⟩
    refine Ev.stepTo _ (fun k hk => by
      rw [e1, field_divide.l0, if_pos (by omega), L_length, wrap_id ((n : Int) + _) (by omega) (by omega), wrap_id _ (by omega) (by omega), if_pos (by omega), if_pos (by rw [L_length]; omega), rd_L, show ((n : Int) + (d.length : Int) - 1).toNat = n + d.length - 1 from by omega, times k (by omega), Option.bind_some, if_pos (by omega), if_pos (by rw [L_length]; omega), Int.toNat_natCast, L_set]) ?_
    refine divide_l1 d _ (Q.set n f) n f _ d.length 0 R (by omega) (by omega) (by omega) (fun R'' g1 g2 => ?_)
    have : R'' = R' := ext_at (by rw [g1, h1]) (fun i _ => by rw [g2, h2])
    rw [this]
    exact hev
theorem divide_ev (p d : List F) (hd : IsPoly d) (hn : d ≠ []) (hp : p.length < 140737488355328) (hdl : d.length < 140737488355328) : ∃ q r, IsDiv p d q r ∧ Ev (fun k => field_divide.f k (L p) (L d)) (L q, L r) := by
  have hd0 : 0 < d.length := List.length_pos_iff.2 hn
  have hl := trim_length p
  let m : Nat := (trim p).length + 1 - d.length
  have hmx : mx 0 (wrap64 ((wrap64 (((trim p).length : Int) - (d.length : Int))) + 1)) = (m : Int) := by
    rw [wrap_id (((trim p).length : Int) - _) (by omega) (by omega), wrap_id _ (by omega) (by omega)]
    show (if (0 : Int) < ((trim p).length : Int) - (d.length : Int) + 1 then ((trim p).length : Int) - (d.length : Int) + 1 else 0) = (((trim p).length + 1 - d.length : Nat) : Int)
    split <;> omega
  obtain ⟨q, r, hdiv, hev⟩ := divide_l0 (trim p) d hd hn m (by show _ ∨ _; simp only [m]; omega) (trim_isPoly p) (by omega) hdl m (List.replicate m 0) (trim p) (Nat.le_refl _) List.length_replicate rfl (fun i _ => at_replicate m i) (.inr rfl) (fun h => by omega) (fun _ => Sm.refl _)
    (fun i => by rw [at_addL, mulL_zero _ d (fun n => at_replicate m n), zero_add])
  refine ⟨q, r, ⟨hdiv.1, hdiv.2.1, hdiv.2.2.1, (Sm.trim p).symm.trans hdiv.2.2.2⟩, ?_⟩
  refine Ev.congr (fun k => by rw [field_divide.f]) ?_
  refine Ev.bind (poly_ev p hp) ?_
  refine Ev.congr (fun k => by rw [L_length, L_length, wrap_id ((d.length : Int) - 1) (by omega) (by omega), if_pos (by omega), if_pos (by omega), rd_L, show ((d.length : Int) - 1).toNat = d.length - 1 from by omega]) ?_
  refine Ev.bind ⟨18, fun k hk => raised_inv k hk (at_ d (d.length - 1))⟩ ?_
  refine Ev.congr (fun k => by rw [hmx, if_pos (by omega), if_pos (by simp only [m]; omega), Int.toNat_natCast, Option.bind_some, L_replicate, L_length, List.length_replicate, wrap_id _ (by omega) (by simp only [m]; omega)]) ?_
  exact hev
end Go.Proofs.Ytncoakokdajibaa.Sem
