import Derived.Test.YtmdeldiocaofkaaFieldPolynomialsF1
import Derived.Test.YtmdeldiocaofkaaFieldPolynomialsPureFieldNumbers
import Derived.Test.YtmdeldiocaofkaaFieldPolynomialsRuns
/- The second polynomials (foghornref18): trimming, products, sums, what one is at a number. -/
namespace Go.Proofs.Ytmdeldiocaofkaa.Sem
open Go.RowKit Go.Proofs.Ytmdeldiocaofkaa.Q Go.Proofs.YtmdeldiocaofkaaW.PrintWords Go.Proofs.YtmdeldiocaofkaaW.PrintLast Go.Proofs.YtmdeldiocaofkaaW.PrintMore Go.Proofs.Ytmdeldiocaofkaa.Gf Go.Proofs.Ytmdeldiocaofkaa.Pure

theorem rTrim_l0 (n : Nat) : ∀ (k : Nat) (p : List F), n ≤ p.length → p.length < 140737488355328 → n < k → foghornref18_Trim.l0 k (L p) (n : Int) = some (L (trimTo n p)) := by
  induction n with
  | zero =>
    intro k p hn hl hk
    obtain ⟨k, rfl⟩ : ∃ m, k = m + 1 := ⟨k - 1, by omega⟩
    rw [foghornref18_Trim.l0, if_neg (by decide), Option.bind_some, if_pos (by decide), if_pos (by omega), if_pos (by simp)]
    rfl
  | succ n ih =>
    intro k p hn hl hk
    obtain ⟨k, rfl⟩ : ∃ m, k = m + 1 := ⟨k - 1, by omega⟩
    rw [foghornref18_Trim.l0, if_pos (by omega), wrap_id _ (by omega) (by omega), if_pos (by omega), if_pos (by rw [L_length]; omega), show ((n + 1 : Nat) : Int) - 1 = (n : Int) from by omega, rd_L, Int.toNat_natCast]
    by_cases hz : at_ p n = 0
    · rw [if_pos (I_eq_zero.2 hz), ih k p (by omega) hl (by omega), trimTo, if_pos hz]
    · rw [if_neg (fun e => hz (I_eq_zero.1 e)), Option.bind_some, if_pos (by omega), if_pos (by rw [L_length]; omega), L_take, if_pos (by rw [L_length, List.length_take]; show 0 + _ < _; omega), List.nil_append, trimTo, if_neg hz]
      rfl
theorem rTrim_ev (p : List F) (hl : p.length < 140737488355328) : Ev (fun k => foghornref18_Trim.f k (L p)) (L (trim p)) :=
  ⟨p.length + 1, fun k hk => by show foghornref18_Trim.f k (L p) = _; rw [foghornref18_Trim.f, L_length]; exact rTrim_l0 p.length k p (Nat.le_refl _) hl (by omega)⟩
theorem rproduct_l1 (p q : List F) (i : Nat) (hi : i < p.length) (r : List Int) (d : Nat) : ∀ (j : Nat) (o : List F), j + d = q.length → i + q.length ≤ o.length → o.length < 140737488355328 → 
    (∀ o' : List F, o'.length = o.length → (∀ n, at_ o' n = at_ o n + if i + j ≤ n then at_ p i * at_ q (n - i) else 0) → Ev (fun k => foghornref18_product.l0 k (L p) (L q) (L o') ((i : Int) + 1)) r) →
    Ev (fun k => foghornref18_product.l1 k (L p) (L q) (L o) (i : Int) (j : Int)) r := by
  induction d with
  | zero =>
    intro j o hj ho hl h
    refine Ev.stepTo _ (fun k _ => by rw [foghornref18_product.l1, if_neg (by rw [L_length]; omega), wrap_id _ (by omega) (by omega)]) (h o rfl (fun n => ?_))
    by_cases e : i + j ≤ n
    · rw [if_pos e, at_ge q _ (by omega), mul_zero, add_zero]
    · rw [if_neg e, add_zero]
  | succ d ih =>
    intro j o hj ho hl h
    have hij : i + j < o.length := by omega
    refine Ev.stepTo' _ (fun k hk => by
      rw [foghornref18_product.l1, if_pos (by rw [L_length]; omega), wrap_id ((i : Int) + _) (by omega) (by omega), if_pos (by omega), if_pos (by rw [L_length]; omega), if_pos (by omega), if_pos (by rw [L_length]; omega), if_pos (by omega), rd_L, rd_L, rd_L, Int.toNat_natCast, Int.toNat_natCast, r18times k (by omega), Option.bind_some, bx, wrap_id _ (by omega) (by omega), L_set,
        show ((j : Int) + 1) = ((j + 1 : Nat) : Int) from by omega, show ((i : Int) + (j : Int)).toNat = i + j from by omega]) ?_
    refine ih (j + 1) _ (by omega) (by rw [List.length_set]; exact ho) (by rw [List.length_set]; exact hl) (fun o' h1 h2 => h o' (by rw [h1, List.length_set]) (fun n => ?_))
    rw [h2, at_set _ _ _ _ hij]
    by_cases e : n = i + j
    · subst e
      rw [if_pos rfl, if_neg (by omega), if_pos (by omega), add_zero, show i + j - i = j from by omega]
    · rw [if_neg e]
      by_cases e2 : i + (j + 1) ≤ n
      · rw [if_pos e2, if_pos (by omega)]
      · rw [if_neg e2, if_neg (by omega)]
theorem rproduct_l0 (p q : List F) (r : List Int) (d : Nat) : ∀ (i : Nat) (o : List F), i + d = p.length → p.length + q.length ≤ o.length → o.length < 140737488355328 → (∀ n, at_ o n = at_ (mulL (p.take i) q) n) → r = L (trim (mulL p q)) →
    Ev (fun k => foghornref18_product.l0 k (L p) (L q) (L o) (i : Int)) r := by
  induction d with
  | zero =>
    intro i o hi ho hl ha hr
    refine Ev.stepTo _ (fun k _ => by rw [foghornref18_product.l0, if_neg (by rw [L_length]; omega)]) ?_
    rw [List.take_of_length_le (by omega)] at ha
    rw [hr, ← trim_ext ha]
    exact Ev.bind (rTrim_ev o hl) (Ev.now _)
  | succ d ih =>
    intro i o hi ho hl ha hr
    refine Ev.stepTo _ (fun k _ => by rw [foghornref18_product.l0, if_pos (by rw [L_length]; omega)]) ?_
    refine rproduct_l1 p q i (by omega) r q.length 0 o (by omega) (by omega) hl (fun o' h1 h2 => ?_)
    rw [show ((i : Int) + 1) = ((i + 1 : Nat) : Int) from by omega]
    refine ih (i + 1) o' (by omega) (by omega) (by omega) (fun n => ?_) hr
    rw [List.take_succ_eq_append_getElem (by omega), mulL_snoc, h2, ha, List.length_take, Nat.min_eq_left (by omega), ← at_lt p i (by omega), Nat.add_zero]
theorem rproduct_ev (p q : List F) (hl : p.length + q.length < 140737488355328) : Ev (fun k => foghornref18_product.f k (L p) (L q)) (L (mulP p q)) := by
  refine Ev.congr (fun k => by rw [foghornref18_product.f, L_length, L_length, wrap_id _ (by omega) (by omega), if_pos (by omega), if_pos (by omega), show ((p.length : Int) + (q.length : Int)).toNat = p.length + q.length from by omega, L_replicate]) ?_
  exact rproduct_l0 p q _ p.length 0 _ (by omega) (by rw [List.length_replicate]; omega) (by rw [List.length_replicate]; exact hl) (fun n => by rw [at_replicate, List.take_zero, show mulL [] q = [] from rfl, at_nil]) rfl
theorem rat_l0 (p : List F) (hl : p.length < 140737488355328) (x : F) (n : Nat) : ∀ (s : F), n ≤ p.length → s = evp (p.drop n) x → Ev (fun k => foghornref18_at.l0 k (L p) (I x) (I s) ((n : Int) - 1)) (I (evp p x)) := by
  induction n with
  | zero =>
    intro s hn hs
    refine Ev.stepTo _ (fun k _ => by rw [foghornref18_at.l0, if_neg (by omega)]) ?_
    rw [hs, List.drop_zero]
    exact Ev.now _
  | succ n ih =>
    intro s hn hs
    refine Ev.stepTo' _ (fun k _ => by rw [foghornref18_at.l0, show ((n + 1 : Nat) : Int) - 1 = (n : Int) from by omega, if_pos (by omega), r18times k (by omega), Option.bind_some, if_pos (by omega), if_pos (by rw [L_length]; omega), rd_L, Int.toNat_natCast, bx, wrap_id _ (by omega) (by omega)]) ?_
    refine ih _ (by omega) ?_
    rw [hs, List.drop_eq_getElem_cons (show n < p.length by omega), evp, ← at_lt p n (by omega), add_comm, mul_comm]
theorem rat_ev (p : List F) (x : F) (hl : p.length < 140737488355328) : Ev (fun k => foghornref18_at.f k (L p) (I x)) (I (evp p x)) := by
  refine Ev.congr (fun k => by rw [foghornref18_at.f, L_length, wrap_id _ (by omega) (by omega)]) ?_
  exact rat_l0 p hl x p.length 0 (Nat.le_refl _) (by rw [List.drop_length]; rfl)
theorem rmay (p q : List F) : foghornref18_may.f (L p) (L q) = some (decide (p.length ≤ 512 ∧ q.length ≤ 512)) := by
  rw [foghornref18_may.f, L_length, L_length]
  by_cases h : p.length ≤ 512
  · rw [if_pos (by omega)]
    congr 1
    rw [Bool.eq_iff_iff, decide_eq_true_iff, decide_eq_true_iff]
    omega
  · rw [if_neg (by omega), decide_eq_false (by omega)]
theorem rSum_l1 (p q : List F) (d : Nat) : ∀ (i : Nat) (o : List F), i + d = q.length → q.length ≤ o.length → o.length < 140737488355328 → (∀ n, at_ o n = at_ p n + if n < i then at_ q n else 0) → Ev (fun k => foghornref18_Sum.l1 k (L q) (L o) (i : Int)) (L (addP p q), 0) := by
  induction d with
  | zero =>
    intro i o hi ho hl ha
    refine Ev.stepTo _ (fun k _ => by rw [foghornref18_Sum.l1, if_neg (by rw [L_length]; omega)]) ?_
    have : addP p q = trim o := trim_ext (fun n => by
      rw [at_addL, ha]
      by_cases h : n < i
      · rw [if_pos h]
      · rw [if_neg h, at_ge q n (by omega)])
    rw [this]
    exact Ev.bind (rTrim_ev o hl) (Ev.now _)
  | succ d ih =>
    intro i o hi ho hl ha
    refine Ev.stepTo _ (fun k _ => by rw [foghornref18_Sum.l1, if_pos (by rw [L_length]; omega), if_pos (by omega), if_pos (by rw [L_length]; omega), rd_L, rd_L, bx, Int.toNat_natCast, L_set, wrap_id _ (by omega) (by omega), show ((i : Int) + 1) = ((i + 1 : Nat) : Int) from by omega]) ?_
    refine ih (i + 1) _ (by omega) (by rw [List.length_set]; exact ho) (by rw [List.length_set]; exact hl) (fun n => ?_)
    rw [at_set _ _ _ _ (by omega), ha, ha]
    by_cases e : n = i
    · subst e; rw [if_pos rfl, if_neg (by omega), if_pos (by omega), add_zero]
    · rw [if_neg e]
      by_cases h : n < i
      · rw [if_pos h, if_pos (by omega)]
      · rw [if_neg h, if_neg (by omega)]
theorem rSum_l0 (p q : List F) (d : Nat) : ∀ (i : Nat) (o : List F), i + d = p.length → p.length ≤ o.length → q.length ≤ o.length → o.length < 140737488355328 → (∀ n, at_ o n = if n < i then at_ p n else 0) → Ev (fun k => foghornref18_Sum.l0 k (L p) (L q) (L o) (i : Int)) (L (addP p q), 0) := by
  induction d with
  | zero =>
    intro i o hi ho hq hl ha
    refine Ev.stepTo _ (fun k _ => by rw [foghornref18_Sum.l0, if_neg (by rw [L_length]; omega)]) ?_
    refine rSum_l1 p q q.length 0 o (by omega) hq hl (fun n => ?_)
    rw [ha, if_neg (Nat.not_lt_zero n), add_zero]
    by_cases h : n < i
    · rw [if_pos h]
    · rw [if_neg h, at_ge p n (by omega)]
  | succ d ih =>
    intro i o hi ho hq hl ha
    refine Ev.stepTo _ (fun k _ => by rw [foghornref18_Sum.l0, if_pos (by rw [L_length]; omega), if_pos (by omega), if_pos (by rw [L_length]; omega), rd_L, Int.toNat_natCast, L_set, wrap_id _ (by omega) (by omega), show ((i : Int) + 1) = ((i + 1 : Nat) : Int) from by omega]) ?_
    refine ih (i + 1) _ (by omega) (by rw [List.length_set]; exact ho) (by rw [List.length_set]; exact hq) (by rw [List.length_set]; exact hl) (fun n => ?_)
    rw [at_set _ _ _ _ (by omega), ha]
    by_cases e : n = i
    · subst e; rw [if_pos rfl, if_pos (by omega)]
    · rw [if_neg e]
      by_cases h : n < i
      · rw [if_pos h, if_pos (by omega)]
      · rw [if_neg h, if_neg (by omega)]
theorem rSum_ev (p q : List F) (hp : p.length ≤ 512) (hq : q.length ≤ 512) : Ev (fun k => foghornref18_Sum.f k (L p) (L q)) (L (addP p q), 0) := by
  have hmx : mx (p.length : Int) (q.length : Int) = (max p.length q.length : Nat) := by
    unfold mx
    split <;> omega
  refine Ev.congr (fun k => by rw [foghornref18_Sum.f, rmay, decide_eq_true ⟨hp, hq⟩, Option.bind_some, if_pos rfl, L_length, L_length, hmx, if_pos (by omega), Int.toNat_natCast, if_pos (by omega), L_replicate]) ?_
  exact rSum_l0 p q p.length 0 _ (by omega) (by rw [List.length_replicate]; omega) (by rw [List.length_replicate]; omega) (by rw [List.length_replicate]; omega) (fun n => by rw [at_replicate, if_neg (Nat.not_lt_zero n)])
theorem rSum_long (p q : List F) (h : 512 < p.length ∨ 512 < q.length) : Ev (fun k => foghornref18_Sum.f k (L p) (L q)) ([], 1) :=
  ⟨0, fun k _ => by show foghornref18_Sum.f k (L p) (L q) = _; rw [foghornref18_Sum.f, rmay, decide_eq_false (by omega), Option.bind_some, if_neg (by decide)]⟩
theorem rSame_l0 (l : List Int) (d : Nat) : ∀ (i k : Nat), i + d = l.length → l.length < 9223372036854775807 → d < k → foghornref18_Same.l0 k l l (i : Int) = some true := by
  induction d with
  | zero => intro i k hi hl hk; cases k with
    | zero => omega
    | succ k => rw [foghornref18_Same.l0, if_neg (by omega)]
  | succ d ih => intro i k hi hl hk; cases k with
    | zero => omega
    | succ k =>
      rw [foghornref18_Same.l0, if_pos (by omega), if_pos (by omega), if_pos (by omega), if_pos rfl, wrap_id _ (by omega) (by omega), show ((i : Int) + 1) = ((i + 1 : Nat) : Int) from by omega]
      exact ih (i + 1) k (by omega) hl (by omega)
theorem rSame (l : List Int) (h : l.length < 9223372036854775807) : Ev (fun k => foghornref18_Same.f k l l) true :=
  ⟨l.length + 1, fun k hk => by show foghornref18_Same.f k l l = _; rw [foghornref18_Same.f, if_pos rfl]; exact rSame_l0 l l.length 0 k (by omega) h (by omega)⟩
end Go.Proofs.Ytmdeldiocaofkaa.Sem

/- Roots, and the polynomial through points. -/
namespace Go.Proofs.Ytmdeldiocaofkaa.Sem
open Go.RowKit Go.Proofs.Ytmdeldiocaofkaa.Q Go.Proofs.YtmdeldiocaofkaaW.PrintWords Go.Proofs.YtmdeldiocaofkaaW.PrintLast Go.Proofs.YtmdeldiocaofkaaW.PrintMore Go.Proofs.Ytmdeldiocaofkaa.Gf Go.Proofs.Ytmdeldiocaofkaa.Pure

theorem evp_lin (r x : F) : evp [r, 1] x = r + x := by show r + x * (1 + x * 0) = _; rw [mul_zero, add_zero, mul_one]
theorem evp_const (r x : F) : evp [r] x = r := by show r + x * 0 = _; rw [mul_zero, add_zero]
theorem snoc_ind {α : Type} {P : List α → Prop} (h0 : P []) (h1 : ∀ l a, P l → P (l ++ [a])) (l : List α) : P l := by
  have h : ∀ l : List α, P l.reverse := fun l => by
    induction l with
    | nil => exact h0
    | cons a l ih => rw [List.reverse_cons]; exact h1 _ a ih
  have := h l.reverse
  rwa [List.reverse_reverse] at this
theorem root_iff (l : List F) (x : F) : evp (ofRoots l) x = 0 ↔ x ∈ l := by
  induction l using snoc_ind with
  | h0 => exact ⟨fun h => absurd ((evp_const 1 x).symm.trans h) one_ne_zero, fun h => by simp at h⟩
  | h1 l a ih =>
    rw [ofRoots_snoc, evp_mulP, evp_lin, List.mem_append, List.mem_singleton]
    constructor
    · intro h
      rcases mul_eq_zero h with h | h
      · exact .inl (ih.1 h)
      · exact .inr (eq_of_add_zero h).symm
    · rintro (h | rfl)
      · rw [ih.2 h, zero_mul]
      · rw [add_self, mul_zero]
theorem IsDiv.len' {p d q r : List F} (hd : IsPoly d) (hn : d ≠ []) (h : IsDiv p d q r) (hq : q ≠ []) : q.length + d.length ≤ (trim p).length + 1 := by
  have h0 : 0 < q.length := List.length_pos_iff.2 hq
  have h1 : 0 < d.length := List.length_pos_iff.2 hn
  have h2 := h.2.2.2 (q.length - 1 + (d.length - 1))
  have h3 := h.2.2.1
  rw [at_addL, at_mulL_top q d hq hn, at_ge r _ (by omega), add_zero] at h2
  by_cases e : (trim p).length ≤ q.length - 1 + (d.length - 1)
  · exfalso
    have h4 := at_ge (trim p) _ e
    rw [trim_at, h2] at h4
    exact mul_ne_zero (isPoly_ne h.1 hq) (isPoly_ne hd hn) h4
  · omega
theorem factor (p : List F) (hp : p.length ≤ 600) (r : F) (h : evp p r = 0) : ∃ q, IsDiv p [r, 1] q [] := by
  obtain ⟨q, c, hd, _⟩ := divide_ev p [r, 1] (lin_isPoly r) (by simp) (by omega) (by simp)
  have he := evp_congr hd.2.2.2 r
  rw [evp_addL, evp_mulL, evp_lin, add_self, mul_zero, zero_add, h] at he
  have hl := hd.2.2.1
  match c, hd, he, hl with
  | [], hd, _, _ => exact ⟨q, hd⟩
  | [c], hd, he, _ =>
    rw [evp_const] at he
    rcases hd.2.1 with h | h
    · exact absurd h (by simp)
    · exact absurd he.symm h
  | _ :: _ :: _, _, _, hl => simp only [List.length_cons, List.length_nil] at hl; omega
theorem roots_zero (rs : List F) : ∀ p : List F, rs.Nodup → p.length ≤ rs.length → p.length ≤ 600 → (∀ r, r ∈ rs → evp p r = 0) → ∀ n, at_ p n = 0 := by
  induction rs with
  | nil =>
    intro p _ hl _ _ n
    exact at_ge p n (by simp at hl; simp [hl])
  | cons r rs ih =>
    intro p hn hl h6 h n
    obtain ⟨q, hd⟩ := factor p h6 r (h r (List.mem_cons_self ..))
    have hpq : Sm p (mulL q [r, 1]) := hd.2.2.2.trans (fun n => by rw [at_addL, at_nil, add_zero])
    have hnr := List.nodup_cons.1 hn
    have hq : ∀ n, at_ q n = 0 := by
      by_cases e : q = []
      · intro n; rw [e, at_nil]
      · have := IsDiv.len' (lin_isPoly r) (by simp) hd e
        have ht := trim_length p
        simp only [List.length_cons, List.length_nil] at this hl
        refine ih q hnr.2 (by omega) (by omega) (fun s hs => ?_)
        have hs0 := h s (List.mem_cons_of_mem _ hs)
        rw [evp_congr hpq, evp_mulL, evp_lin] at hs0
        rcases mul_eq_zero hs0 with h | h
        · exact h
        · exact absurd (eq_of_add_zero h ▸ hs) hnr.1
    rw [hpq n]
    exact mulL_zero q _ hq n
/-- Two that are one at as many places as they are long. -/
theorem interp_unique (rs : List F) (p q : List F) (hn : rs.Nodup) (hp : p.length ≤ rs.length) (hq : q.length ≤ rs.length) (h6 : rs.length ≤ 600) (h : ∀ r, r ∈ rs → evp p r = evp q r) : Sm p q := fun n => by
  have := roots_zero rs (addL p q) hn (by rw [addL_length]; omega) (by rw [addL_length]; omega) (fun r hr => by rw [evp_addL, h r hr, add_self]) n
  rw [at_addL] at this
  exact eq_of_add_zero this

/-! Points, by their numbers -/
def Xs (f : Nat → F × F) (n : Nat) : List F := (List.range n).map (fun i => (f i).1)
theorem Xs_succ (f : Nat → F × F) (n : Nat) : Xs f (n + 1) = Xs f n ++ [(f n).1] := by unfold Xs; rw [List.range_succ, List.map_append]; rfl
theorem Xs_length (f : Nat → F × F) (n : Nat) : (Xs f n).length = n := by unfold Xs; rw [List.length_map, List.length_range]
theorem mem_Xs {f : Nat → F × F} {n : Nat} {x : F} : x ∈ Xs f n ↔ ∃ i, i < n ∧ (f i).1 = x := by
  unfold Xs
  rw [List.mem_map]
  exact ⟨fun ⟨i, h, e⟩ => ⟨i, List.mem_range.1 h, e⟩, fun ⟨i, h, e⟩ => ⟨i, List.mem_range.2 h, e⟩⟩
theorem Xs_nodup_succ {f : Nat → F × F} {n : Nat} : (Xs f (n + 1)).Nodup ↔ (Xs f n).Nodup ∧ (f n).1 ∉ Xs f n := by
  rw [Xs_succ, List.nodup_append]
  constructor
  · intro ⟨h, _, k⟩
    exact ⟨h, fun e => k _ e _ (List.mem_singleton.2 rfl) rfl⟩
  · intro ⟨h, k⟩
    refine ⟨h, List.nodup_cons.2 ⟨by simp, List.nodup_nil⟩, fun a ha b hb e => ?_⟩
    rw [List.mem_singleton] at hb
    subst hb; subst e
    exact k ha
theorem Xs_nodup_le {f : Nat → F × F} {m : Nat} : ∀ n, m ≤ n → (Xs f n).Nodup → (Xs f m).Nodup := by
  intro n h
  induction h with
  | refl => exact id
  | step _ ih => exact fun k => ih (Xs_nodup_succ.1 k).1
theorem Xs_inj {f : Nat → F × F} {n : Nat} (h : (Xs f n).Nodup) {i j : Nat} (hi : i < n) (hj : j < n) (e : (f i).1 = (f j).1) : i = j := by
  have key : ∀ i j : Nat, i < j → j < n → (f i).1 ≠ (f j).1 := fun i j hij hj e => by
    have := (Xs_nodup_succ.1 (Xs_nodup_le n (by omega : j + 1 ≤ n) h)).2
    exact this (mem_Xs.2 ⟨i, hij, e⟩)
  rcases Nat.lt_trichotomy i j with h1 | h1 | h1
  · exact absurd e (key i j h1 hj)
  · exact h1
  · exact absurd e.symm (key j i h1 hi)
def newt (f : Nat → F × F) : Nat → List F
  | 0 => []
  | n + 1 => addP (newt f n) (mulP (ofRoots (Xs f n)) [(evp (newt f n) (f n).1 + (f n).2) * inv (evp (ofRoots (Xs f n)) (f n).1)])
theorem newt_isPoly (f : Nat → F × F) (n : Nat) : IsPoly (newt f n) := by
  cases n with
  | zero => exact .inl rfl
  | succ n => exact trim_isPoly _
theorem mulP_const_length (p : List F) (b : F) : (mulP p [b]).length ≤ p.length := by
  show (trim _).length ≤ _
  rw [trim_ext (mulL_const p b)]
  exact Nat.le_trans (trim_length _) (by rw [smul_length]; exact Nat.le_refl _)
theorem newt_length (f : Nat → F × F) (n : Nat) : (newt f n).length ≤ n := by
  induction n with
  | zero => exact Nat.le_refl _
  | succ n ih =>
    have h1 := mulP_const_length (ofRoots (Xs f n)) ((evp (newt f n) (f n).1 + (f n).2) * inv (evp (ofRoots (Xs f n)) (f n).1))
    rw [ofRoots_length, Xs_length] at h1
    have := addL_isPoly_lt (n + 2) (r := newt f n) (s := mulP (ofRoots (Xs f n)) [(evp (newt f n) (f n).1 + (f n).2) * inv (evp (ofRoots (Xs f n)) (f n).1)]) (by omega) (by omega)
    rw [newt]
    omega
theorem newt_at (f : Nat → F × F) (n : Nat) : (Xs f n).Nodup → ∀ i, i < n → evp (newt f n) (f i).1 = (f i).2 := by
  induction n with
  | zero => intro _ i hi; omega
  | succ n ih =>
    intro h i hi
    have hn := Xs_nodup_succ.1 h
    rw [newt, addP, evp_trim, evp_addL, evp_mulP, evp_const]
    by_cases e : i = n
    · subst e
      have hz : evp (ofRoots (Xs f i)) (f i).1 ≠ 0 := fun e => hn.2 ((root_iff _ _).1 e)
      rw [mul_left_comm, mul_inv _ hz, mul_one, add_cancel]
    · have hi : i < n := by omega
      rw [ih hn.1 i hi, (root_iff _ _).2 (mem_Xs.2 ⟨i, hi, rfl⟩), zero_mul, add_zero]
theorem newt_unique (f : Nat → F × F) (n : Nat) (h6 : n ≤ 600) (h : (Xs f n).Nodup) (p : List F) (hp : IsPoly p) (hl : p.length ≤ n) (hat : ∀ i, i < n → evp p (f i).1 = (f i).2) : newt f n = p := by
  refine poly_ext (newt_isPoly f n) hp (interp_unique (Xs f n) _ _ h (by rw [Xs_length]; exact newt_length f n) (by rw [Xs_length]; exact hl) (by rw [Xs_length]; exact h6) (fun r hr => ?_))
  obtain ⟨i, hi, rfl⟩ := mem_Xs.1 hr
  rw [newt_at f n h i hi, hat i hi]

/-! The program's: one point after the other -/
def P45 (f : Nat → F × F) (n : Nat) : List S45 := (List.range n).map (fun i => ⟨I (f i).1, I (f i).2⟩)
theorem P45_length (f : Nat → F × F) (n : Nat) : (P45 f n).length = n := by unfold P45; rw [List.length_map, List.length_range]
theorem rd_P45 (f : Nat → F × F) (n i : Nat) (h : i < n) : rd_T45 (P45 f n) (i : Int) = ⟨I (f i).1, I (f i).2⟩ := by
  unfold rd_T45 P45
  rw [Int.toNat_natCast, List.getD_eq_getElem?_getD, List.getElem?_map, List.getElem?_range h]
  rfl
theorem rd_P45_0 (f : Nat → F × F) (n i : Nat) (h : i < n) : (rd_T45 (P45 f n) (i : Int)).f0 = I (f i).1 := by rw [rd_P45 f n i h]
theorem rd_P45_1 (f : Nat → F × F) (n i : Nat) (h : i < n) : (rd_T45 (P45 f n) (i : Int)).f1 = I (f i).2 := by rw [rd_P45 f n i h]
open Classical in
theorem through_l0 (f : Nat → F × F) (n : Nat) (hn : n ≤ 256) (d : Nat) : ∀ (i : Nat) (c : List Int), i + d = n → c.length = 256 → (Xs f i).Nodup → (∀ x : F, rd c (I x) = if x ∈ Xs f i then 1 else 0) →
    Ev (fun k => field_Through.l0 k c (L (newt f i)) (L (ofRoots (Xs f i))) (P45 f n) (n : Int) (i : Int)) (if (Xs f n).Nodup then (L (newt f n), 0) else ([], 1)) := by
  induction d with
  | zero =>
    intro i c hi hc hnd hx
    obtain rfl : i = n := by omega
    refine Ev.stepTo _ (fun k _ => by rw [field_Through.l0, if_neg (by omega)]) ?_
    rw [if_pos hnd]
    exact Ev.now _
  | succ d ih =>
    intro i c hi hc hnd hx
    have hI0 := I_lo (f i).1
    have hI1 := I_hi (f i).1
    have hset : rd (c.set (I (f i).1).toNat (wrap64 (rd c (I (f i).1) + 1))) (I (f i).1) = wrap64 (rd c (I (f i).1) + 1) := by
      show (c.set _ _).getD _ _ = _
      rw [List.getD_eq_getElem?_getD, List.getElem?_set_self (by omega)]
      rfl
    refine Ev.stepTo _ (fun k _ => by
      rw [field_Through.l0, if_pos (by omega), if_pos (by omega), if_pos (by rw [P45_length]; omega), rd_P45_0 f n i (by omega), rd_P45_1 f n i (by omega), if_pos hI0, if_pos (by omega), if_pos (by omega), Option.bind_some, hset, hx, at_ev, Option.bind_some, at_ev, Option.bind_some, bx]) ?_
    by_cases hm : (f i).1 ∈ Xs f i
    · refine Ev.congr (fun k => by rw [if_pos hm, if_pos (by rw [wrap_id _ (by decide) (by decide)]; decide)]) ?_
      rw [if_neg (fun h => (Xs_nodup_succ.1 (Xs_nodup_le n (by omega : i + 1 ≤ n) h)).2 hm)]
      exact Ev.now _
    · have h1 := newt_length f i
      have h2 := ofRoots_length (Xs f i)
      rw [Xs_length] at h2
      have h3 := mulP_const_length (ofRoots (Xs f i)) ((evp (newt f i) (f i).1 + (f i).2) * inv (evp (ofRoots (Xs f i)) (f i).1))
      refine Ev.congr (fun k => by rw [if_neg hm, if_neg (by rw [wrap_id _ (by decide) (by decide)]; decide)]) ?_
      refine Ev.bind ⟨18, fun k hk => raised_inv k hk _⟩ ?_
      refine Ev.bind (times_ev _ _) ?_
      refine Ev.bind (product_ev (ofRoots (Xs f i)) [(evp (newt f i) (f i).1 + (f i).2) * inv (evp (ofRoots (Xs f i)) (f i).1)] (by simp only [List.length_cons, List.length_nil]; omega)) ?_
      refine Ev.bind (sum_ev (newt f i) _ (by omega) (by omega)) ?_
      refine Ev.bind (product_ev (ofRoots (Xs f i)) [(f i).1, 1] (by simp only [List.length_cons, List.length_nil]; omega)) ?_
      have hw : wrap64 ((i : Int) + 1) = ((i + 1 : Nat) : Int) := by rw [wrap_id _ (by omega) (by omega)]; omega
      have hnx := ih (i + 1) (c.set (I (f i).1).toNat (wrap64 (0 + 1))) (by omega) (by rw [List.length_set]; exact hc) (Xs_nodup_succ.2 ⟨hnd, hm⟩) (fun x => by
        have hx0 := I_lo x
        have hx1 := I_hi x
        rw [Xs_succ]
        by_cases e : x = (f i).1
        · subst e
          rw [if_pos (List.mem_append.2 (.inr (List.mem_singleton.2 rfl)))]
          show (c.set _ _).getD _ _ = _
          rw [List.getD_eq_getElem?_getD, List.getElem?_set_self (by omega), wrap_id _ (by decide) (by decide)]
          rfl
        · have hne : (I (f i).1).toNat ≠ (I x).toNat := fun h => e (I_inj (by omega))
          have h4 : rd (c.set (I (f i).1).toNat (wrap64 (0 + 1))) (I x) = rd c (I x) := by
            show (c.set _ _).getD _ _ = c.getD _ _
            rw [List.getD_eq_getElem?_getD, List.getElem?_set_ne hne, List.getD_eq_getElem?_getD]
          rw [h4, hx]
          have : (x ∈ Xs f i ++ [(f i).1]) = (x ∈ Xs f i) := by
            rw [List.mem_append, List.mem_singleton]
            exact propext ⟨fun h => h.elim id (fun h => absurd h e), .inl⟩
          simp only [this])
      rw [Xs_succ, ofRoots_snoc] at hnx
      refine Ev.congr (fun k => ?_) hnx
      show field_Through.l0 k _ _ _ _ _ (wrap64 ((i : Int) + 1)) = _
      rw [hw]
      rfl
open Classical in
theorem through_ev (f : Nat → F × F) (n : Nat) (hn : n ≤ 256) : Ev (fun k => field_Through.f k (P45 f n)) (if (Xs f n).Nodup then (L (newt f n), 0) else ([], 1)) := by
  refine Ev.congr (fun k => by rw [field_Through.f, P45_length, if_neg (by omega)]) ?_
  exact through_l0 f n hn n 0 (List.replicate 256 0) (by omega) (by rw [List.length_replicate]) (by unfold Xs; exact List.nodup_nil) (fun x => by
    rw [if_neg (by unfold Xs; simp)]
    show (List.replicate 256 0).getD _ _ = _
    rw [List.getD_eq_getElem?_getD, List.getElem?_replicate]
    split <;> rfl)
end Go.Proofs.Ytmdeldiocaofkaa.Sem
