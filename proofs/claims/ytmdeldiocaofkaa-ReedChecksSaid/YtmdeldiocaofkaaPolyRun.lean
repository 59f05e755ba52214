/- What the printed product, the polynomial with given roots and the generators come to. -/
import Derived.Test.YtmdeldiocaofkaaAlg
import Derived.Test.YtmdeldiocaofkaaQ2
namespace Go.Proofs.Ytmdeldiocaofkaa.Sem
open Go.RowKit Go.Proofs.Ytmdeldiocaofkaa.Q Go.Proofs.YtmdeldiocaofkaaW.PrintWords Go.Proofs.YtmdeldiocaofkaaW.PrintLast Go.Proofs.Ytmdeldiocaofkaa.Gf

theorem Ev.stepTo {α : Type} {g : Nat → Option α} {r : α} (f : Nat → Option α) (h : ∀ k, 18 ≤ k → g (k + 1) = f k) (k : Ev f r) : Ev g r := by
  obtain ⟨K, k⟩ := k
  refine ⟨K + 19, fun n hn => ?_⟩
  obtain ⟨m, rfl⟩ : ∃ m, n = m + 1 := ⟨n - 1, by omega⟩
  rw [h m (by omega)]
  exact k m (by omega)

theorem product_l1 (p q : List F) (i : Nat) (a : F) (r : List Int) (d : Nat) : ∀ (j : Nat) (o : List F), j + d = q.length → i + q.length ≤ o.length → o.length < 140737488355328 → 
    (∀ o' : List F, o'.length = o.length → (∀ n, at_ o' n = at_ o n + if i + j ≤ n then a * at_ q (n - i) else 0) → Ev (fun k => field_product.l0 k (L q) (L o') (L p) (p.length : Int) ((i : Int) + 1)) r) →
    Ev (fun k => field_product.l1 k (L q) (L o) (i : Int) (I a) (L p) (p.length : Int) (i : Int) (L q) (q.length : Int) (j : Int)) r := by
  induction d with
  | zero =>
    intro j o hj ho hl h
    refine Ev.stepTo _ (fun k _ => by rw [field_product.l1, if_neg (by omega), wrap_id _ (by omega) (by omega)]) (h o rfl (fun n => ?_))
    by_cases e : i + j ≤ n
    · rw [if_pos e, at_ge q _ (by omega), mul_zero, add_zero]
    · rw [if_neg e, add_zero]
  | succ d ih =>
    intro j o hj ho hl h
    have hij : i + j < o.length := by omega
    refine Ev.stepTo _ (fun k hk => by
      rw [field_product.l1, if_pos (by omega), if_pos (by omega), if_pos (by rw [L_length]; omega), wrap_id _ (by omega) (by omega), if_pos (by omega), if_pos (by rw [L_length]; omega), rd_L, rd_L, times k (by omega), Option.bind_some, bx, wrap_id _ (by omega) (by omega), L_set,
        show ((j : Int) + 1) = ((j + 1 : Nat) : Int) from by omega, show ((i : Int) + (j : Int)).toNat = i + j from by omega, Int.toNat_natCast]) ?_
    refine ih (j + 1) _ (by omega) (by rw [List.length_set]; exact ho) (by rw [List.length_set]; exact hl) (fun o' h1 h2 => h o' (by rw [h1, List.length_set]) (fun n => ?_))
    rw [h2, at_set _ _ _ _ hij]
    by_cases e : n = i + j
    · subst e
      rw [if_pos rfl, if_neg (by omega), if_pos (by omega), add_zero, show i + j - i = j from by omega]
    · rw [if_neg e]
      by_cases e2 : i + (j + 1) ≤ n
      · rw [if_pos e2, if_pos (by omega)]
      · rw [if_neg e2, if_neg (by omega)]
theorem product_l0 (p q : List F) (r : List Int) (d : Nat) : ∀ (i : Nat) (o : List F), i + d = p.length → p.length + q.length ≤ o.length → o.length < 140737488355328 → (∀ n, at_ o n = at_ (mulL (p.take i) q) n) → r = L (trim (mulL p q)) →
    Ev (fun k => field_product.l0 k (L q) (L o) (L p) (p.length : Int) (i : Int)) r := by
  induction d with
  | zero =>
    intro i o hi ho hl ha hr
    refine Ev.stepTo _ (fun k _ => by rw [field_product.l0, if_neg (by omega)]) ?_
    rw [List.take_of_length_le (by omega)] at ha
    rw [hr, ← trim_ext ha]
    exact Ev.bind (poly_ev o hl) (Ev.now _)
  | succ d ih =>
    intro i o hi ho hl ha hr
    refine Ev.stepTo _ (fun k _ => by rw [field_product.l0, if_pos (by omega), if_pos (by omega), if_pos (by rw [L_length]; omega), rd_L, Int.toNat_natCast, L_length]) ?_
    refine product_l1 p q i (at_ p i) r q.length 0 o (by omega) (by omega) hl (fun o' h1 h2 => ?_)
    rw [show ((i : Int) + 1) = ((i + 1 : Nat) : Int) from by omega]
    refine ih (i + 1) o' (by omega) (by omega) (by omega) (fun n => ?_) hr
    rw [List.take_succ_eq_append_getElem (by omega), mulL_snoc, h2, ha, List.length_take, Nat.min_eq_left (by omega), ← at_lt p i (by omega), Nat.add_zero]
theorem product_ev (p q : List F) (hl : p.length + q.length < 140737488355328) : Ev (fun k => field_product.f k (L p) (L q)) (L (mulP p q)) := by
  refine Ev.congr (fun k => by rw [field_product.f, L_length, L_length, wrap_id _ (by omega) (by omega), if_pos (by omega), if_pos (by omega), show ((p.length : Int) + (q.length : Int)).toNat = p.length + q.length from by omega, L_replicate]) ?_
  exact product_l0 p q _ p.length 0 _ (by omega) (by rw [List.length_replicate]; omega) (by rw [List.length_replicate]; exact hl) (fun n => by rw [at_replicate, List.take_zero, show mulL [] q = [] from rfl, at_nil]) rfl

theorem of_l0 (l : List F) (d : Nat) : ∀ (i : Nat) (g : List F), i + d = l.length → l.length < 512 → g = ofRoots (l.take i) → Ev (fun k => field_Of.l0 k (L g) (L l) (l.length : Int) (i : Int)) (L (ofRoots l), 0) := by
  induction d with
  | zero =>
    intro i g hi hl hg
    rw [List.take_of_length_le (by omega)] at hg
    subst hg
    exact Ev.stepTo _ (fun k _ => by rw [field_Of.l0, if_neg (by omega)]) (Ev.now _)
  | succ d ih =>
    intro i g hi hl hg
    refine Ev.stepTo _ (fun k _ => by rw [field_Of.l0, if_pos (by omega), if_pos (by omega), if_pos (by rw [L_length]; omega), rd_L, Int.toNat_natCast]) ?_
    have hgl : g.length = i + 1 := by rw [hg, ofRoots_length, List.length_take]; omega
    refine Ev.bind (product_ev g [at_ l i, 1] (by rw [hgl]; simp; omega)) ?_
    refine Ev.congr (fun k => by rw [wrap_id _ (by omega) (by omega), show ((i : Int) + 1) = ((i + 1 : Nat) : Int) from by omega]) ?_
    refine ih (i + 1) _ (by omega) hl ?_
    rw [List.take_succ_eq_append_getElem (by omega), ofRoots_snoc, ← hg, at_lt l i (by omega)]
theorem of_ev (l : List F) (hl : l.length < 512) : Ev (fun k => field_Of.f k (L l)) (L (ofRoots l), 0) := by
  refine Ev.congr (fun k => by rw [field_Of.f, if_neg (by rw [L_length]; omega), L_length]) ?_
  exact of_l0 l l.length 0 [1] (by omega) hl rfl

/-- The roots of the codewords: powers of 2. -/
def pows (r : Nat) : List F := (List.range r).map (pow two)
theorem pows_length (r : Nat) : (pows r).length = r := by unfold pows; rw [List.length_map, List.length_range]
theorem pows_succ (r : Nat) : pows (r + 1) = pows r ++ [pow two r] := by unfold pows; rw [List.range_succ, List.map_append]; rfl
def gen (r : Nat) : List F := ofRoots (pows r)
theorem gen_succ (r : Nat) : gen (r + 1) = mulP (gen r) [pow two r, 1] := by unfold gen; rw [pows_succ, ofRoots_snoc]
theorem gen_length (r : Nat) : (gen r).length = r + 1 := by unfold gen; rw [ofRoots_length, pows_length]
theorem gen_isPoly (r : Nat) : IsPoly (gen r) := ofRoots_isPoly _
theorem gen_top (r : Nat) : at_ (gen r) r = 1 := by have := ofRoots_top (pows r); rwa [pows_length] at this
/-- May there be so many checks? -/
def isChecks (r : Int) : Bool := decide (2 ≤ r ∧ r ≤ 64 ∧ Int.tmod r 2 = 0)
theorem checks (r : Int) : reed_checks.f r = some (isChecks r) := by
  unfold reed_checks.f isChecks
  by_cases h1 : r ≥ 2
  · rw [if_pos h1]
    by_cases h2 : r ≤ 64
    · rw [if_pos h2]
      congr 1
      by_cases h3 : Int.tmod r 2 = 0
      · rw [h3]; simp; omega
      · rw [decide_eq_false (fun h => h3 h.2.2)]; simpa using h3
    · rw [if_neg h2, decide_eq_false (by omega)]
  · rw [if_neg h1, decide_eq_false (by omega)]
theorem generator_l0 (r : Nat) (hr : r ≤ 64) (d : Nat) : ∀ (i : Nat) (o : List F), i + d = r → o.length = r → (∀ n, n < i → at_ o n = pow two n) → Ev (fun k => reed_Generator.l0 k (L o) (r : Int) (i : Int)) (L (gen r), 0) := by
  induction d with
  | zero =>
    intro i o hi ho h
    refine Ev.stepTo _ (fun k _ => by rw [reed_Generator.l0, if_neg (by omega)]) ?_
    have : o = pows r := ext_at (by rw [ho, pows_length]) (fun n hn => by
      rw [h n (by omega), at_lt _ n (by rw [pows_length]; omega)]
      unfold pows
      rw [List.getElem_map, List.getElem_range])
    rw [this]
    exact Ev.bind (of_ev (pows r) (by rw [pows_length]; omega)) (Ev.now _)
  | succ d ih =>
    intro i o hi ho h
    refine Ev.stepTo _ (fun k hk => by rw [reed_Generator.l0, if_pos (by omega), exp_nat k hk, Option.bind_some, if_pos (by omega), if_pos (by rw [L_length]; omega), Int.toNat_natCast, L_set, wrap_id _ (by omega) (by omega), show ((i : Int) + 1) = ((i + 1 : Nat) : Int) from by omega]) ?_
    refine ih (i + 1) _ (by omega) (by rw [List.length_set]; exact ho) (fun n hn => ?_)
    rw [at_set _ _ _ _ (by omega)]
    by_cases e : n = i
    · rw [if_pos e, e]
    · rw [if_neg e, h n (by omega)]
theorem generator_ev (r : Int) (h : isChecks r = true) : Ev (fun k => reed_Generator.f k r) (L (gen r.toNat), 0) := by
  have h2 := of_decide_eq_true h
  refine Ev.congr (fun k => by rw [reed_Generator.f, checks, h, Option.bind_some, if_pos rfl, if_pos (by omega), if_pos (by omega), L_replicate]) ?_
  have := generator_l0 r.toNat (by omega) r.toNat 0 (List.replicate r.toNat 0) (by omega) (List.length_replicate) (fun n hn => by omega)
  rwa [show ((r.toNat : Nat) : Int) = r from by omega] at this
theorem generator_none (r : Int) (h : isChecks r = false) (k : Nat) : reed_Generator.f k r = some ([], 1) := by
  rw [reed_Generator.f, checks, h, Option.bind_some, if_neg (by decide)]
end Go.Proofs.Ytmdeldiocaofkaa.Sem
