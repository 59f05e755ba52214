import Derived.Test.YtmdeldiocaofkaaFieldPolynomialsF1
import Derived.Test.YtmdeldiocaofkaaFieldPolynomialsPureFieldRings
import Derived.Test.YtmdeldiocaofkaaFieldPolynomialsThru
/-
  The polynomial with some roots has these and no others, twice where they stand twice; the one through points is the one from which they were taken. No condition.
-/
namespace Go.Proofs.Ytmdeldiocaofkaa.Pure
set_option linter.unusedVariables false
open Go.RowKit Go.Proofs.Ytmdeldiocaofkaa.Q Go.Proofs.YtmdeldiocaofkaaW.PrintWords Go.Proofs.YtmdeldiocaofkaaW.PrintLast Go.Proofs.YtmdeldiocaofkaaW.PrintMore Go.Proofs.Ytmdeldiocaofkaa.Gf Go.Proofs.Ytmdeldiocaofkaa.Sem

def ofN (n : Nat) : F := ⟨n % 256, Nat.mod_lt _ (by decide)⟩
theorem I_ofN (n : Nat) : I (ofN n) = (n : Int) % 256 := by show ((n % 256 : Nat) : Int) = _; omega
theorem ofN_inj {m n : Nat} (h : ofN m = ofN n) : m % 256 = n % 256 := congrArg F.val h
theorem ofN_val (x : F) : ofN x.val = x := F.ext (Nat.mod_eq_of_lt x.lt)
theorem Xs_nodup_of (f : Nat → F × F) (n : Nat) (h : ∀ i j, i < n → j < n → (f i).1 = (f j).1 → i = j) : (Xs f n).Nodup := by
  induction n with
  | zero => unfold Xs; exact List.nodup_nil
  | succ n ih =>
    refine Xs_nodup_succ.2 ⟨ih (fun i j hi hj => h i j (by omega) (by omega)), fun e => ?_⟩
    obtain ⟨i, hi, e⟩ := mem_Xs.1 e
    have := h i n (by omega) (by omega) e
    omega
/-- The roots below n, in their order. -/
def rts (p : List F) (n : Nat) : List F := ((List.range n).map ofN).filter (fun x => decide (evp p x = 0))
theorem rts_succ (p : List F) (n : Nat) : rts p (n + 1) = rts p n ++ if evp p (ofN n) = 0 then [ofN n] else [] := by
  unfold rts
  rw [List.range_succ, List.map_append, List.filter_append]
  congr 1
  by_cases h : evp p (ofN n) = 0
  · rw [if_pos h]; simp [h]
  · rw [if_neg h]; simp [h]
theorem rts_root {p : List F} {n : Nat} {x : F} (h : x ∈ rts p n) : evp p x = 0 := by
  have := (List.mem_filter.1 h).2
  exact of_decide_eq_true this
theorem rts_nodup (p : List F) (n : Nat) (hn : n ≤ 256) : (rts p n).Nodup := by
  have h : ((List.range n).map ofN).Nodup := Xs_nodup_of (fun i => (ofN i, 0)) n (fun i j hi hj e => by have := ofN_inj e; omega)
  exact List.Pairwise.filter _ h
/-- The roots from x on. -/
theorem rts_from (p : List F) (x d : Nat) (h : x + d ≤ 256) : ∃ t, rts p (x + d) = rts p x ++ t ∧ (0 < d → evp p (ofN x) = 0 → ∃ t', t = ofN x :: t') ∧ (evp p (ofN x) ≠ 0 → ∀ y ∈ t, y ≠ ofN x) := by
  induction d with
  | zero => exact ⟨[], (List.append_nil _).symm, fun h => absurd h (by omega), fun _ y hy => by simp at hy⟩
  | succ d ih =>
    obtain ⟨t, h1, h2, h3⟩ := ih (by omega)
    refine ⟨t ++ (if evp p (ofN (x + d)) = 0 then [ofN (x + d)] else []), by rw [← Nat.add_assoc, rts_succ, h1, List.append_assoc], fun _ hr => ?_, fun hr y hy => ?_⟩
    · by_cases e : d = 0
      · subst e
        have : t = [] := by
          have : rts p (x + 0) = rts p x ++ t := h1
          rw [Nat.add_zero] at this
          exact List.self_eq_append_right.1 this
        subst this
        refine ⟨[], ?_⟩
        rw [Nat.add_zero, if_pos hr]
        rfl
      · obtain ⟨t', ht⟩ := h2 (by omega) hr
        exact ⟨t' ++ _, by rw [ht, List.cons_append]⟩
    · rcases List.mem_append.1 hy with hy | hy
      · exact h3 hr y hy
      · by_cases e : evp p (ofN (x + d)) = 0
        · rw [if_pos e, List.mem_singleton] at hy
          rw [hy]
          intro he
          rw [he] at e
          exact hr e
        · rw [if_neg e] at hy
          simp at hy
theorem rts_ev_l0 (p : List F) (d : Nat) : ∀ (x : Nat), x + d = 256 → Ev (fun k => field_Roots.l0 k (L p) (L (rts p x)) (x : Int)) (L (rts p 256), 0) := by
  have hlen : ∀ x, (rts p x).length ≤ x := fun x => Nat.le_trans (List.length_filter_le _ _) (by rw [List.length_map, List.length_range]; exact Nat.le_refl _)
  induction d with
  | zero =>
    intro x hx
    obtain rfl : x = 256 := by omega
    refine Ev.stepTo' _ (fun k _ => by rw [field_Roots.l0, if_neg (by omega)]) ?_
    exact Ev.now _
  | succ d ih =>
    intro x hx
    have := hlen x
    have hnx := ih (x + 1) (by omega)
    rw [rts_succ] at hnx
    refine Ev.stepTo' _ (fun k _ => by rw [field_Roots.l0, if_pos (by omega), ← I_ofN, at_ev, Option.bind_some, wrap_id _ (by omega) (by omega), show ((x : Int) + 1) = ((x + 1 : Nat) : Int) from by omega]) ?_
    by_cases h : evp p (ofN x) = 0
    · rw [if_pos h] at hnx
      refine Ev.congr (fun k => by rw [if_pos (I_eq_zero.2 h), if_pos (by rw [L_length]; omega)]) ?_
      rw [L_append] at hnx
      exact hnx
    · rw [if_neg h, List.append_nil] at hnx
      exact Ev.congr (fun k => by rw [if_neg (fun e => h (I_eq_zero.1 e))]) hnx
theorem Roots_ev (p : List F) (hp : p.length ≤ 512) (hn : trim p ≠ []) : Ev (fun k => field_Roots.f k (L p)) (L (rts p 256), 0) := by
  have h0 : 0 < (trim p).length := List.length_pos_iff.2 hn
  refine Ev.congr (fun k => by rw [field_Roots.f, long1, decide_eq_false (by omega), Option.bind_some, if_neg (by decide)]) ?_
  refine Ev.bind (poly_ev p (by omega)) ?_
  refine Ev.congr (fun k => by rw [L_length, if_neg (by omega)]) ?_
  exact rts_ev_l0 p 256 0 (by omega)

/-! The derivative -/
def dr (p : List F) : List F := (List.range p.length).map (fun n => if n % 2 = 0 then at_ p (n + 1) else 0)
theorem dr_length (p : List F) : (dr p).length = p.length := by unfold dr; rw [List.length_map, List.length_range]
theorem at_dr (p : List F) (n : Nat) : at_ (dr p) n = if n % 2 = 0 then at_ p (n + 1) else 0 := by
  by_cases h : n < p.length
  · rw [at_lt _ n (by rw [dr_length]; exact h)]; simp [dr]
  · rw [at_ge _ n (by rw [dr_length]; omega), at_ge p (n + 1) (by omega)]; split <;> rfl
theorem dr_congr {p q : List F} (h : Sm p q) : Sm (dr p) (dr q) := fun n => by rw [at_dr, at_dr, h]
theorem at_lin (p : List F) (r : F) (n : Nat) : at_ (mulL p [r, 1]) n = r * at_ p n + match n with | 0 => 0 | m + 1 => at_ p m := by
  rw [mulL_comm p [r, 1] n]
  cases n with
  | zero => rw [at_mulL_zero, add_zero]
  | succ n => rw [at_mulL_succ, mulL_one_left]
theorem dr_mul (p : List F) (r : F) : Sm (dr (mulL p [r, 1])) (addL (mulL (dr p) [r, 1]) p) := fun n => by
  rw [at_dr, at_addL, at_lin, at_lin, at_dr]
  cases n with
  | zero => simp only [Nat.zero_mod, if_pos]; rw [add_zero]
  | succ n =>
    simp only []
    rw [at_dr]
    by_cases h : (n + 1) % 2 = 0
    · rw [if_pos h, if_pos h, if_neg (by omega), add_zero]
    · rw [if_neg h, if_neg h, if_pos (by omega), mul_zero, zero_add, add_self]
theorem slope_root (x : F) (l : List F) : x ∈ l → (evp (dr (ofRoots l)) x = 0 ↔ 1 < l.count x) := by
  induction l using snoc_ind with
  | h0 => intro h; simp at h
  | h1 l a ih =>
    intro hx
    have he : evp (dr (ofRoots (l ++ [a]))) x = evp (dr (ofRoots l)) x * (a + x) + evp (ofRoots l) x := by
      rw [ofRoots_snoc, evp_congr ((dr_congr (mulP_sm _ _)).trans (dr_mul _ _)), evp_addL, evp_mulL, evp_lin]
    rw [he, List.count_append, List.count_singleton]
    by_cases e : a = x
    · subst e
      rw [add_self, mul_zero, zero_add, root_iff, ← List.count_pos_iff]
      simp
    · have hl : x ∈ l := by
        rcases List.mem_append.1 hx with h | h
        · exact h
        · exact absurd (List.mem_singleton.1 h).symm e
      have h5 : evp (dr (ofRoots l)) x * (a + x) = 0 ↔ evp (dr (ofRoots l)) x = 0 := ⟨fun h => (mul_eq_zero h).elim id (fun h => absurd (eq_of_add_zero h) e), fun h => by rw [h, zero_mul]⟩
      rw [(root_iff l x).2 hl, add_zero, h5, ih hl]
      have : (a == x) = false := by simpa using e
      rw [this]
      simp
theorem slope_l0 (p : List F) (m : Nat) (hm : m < 140737488355328) (d : Nat) : ∀ (i : Nat) (o : List F), i + d = m → o.length = m → m + 1 = p.length ∨ (m = 0 ∧ p.length = 0) → (∀ n, at_ o n = if n < i ∧ n % 2 = 1 then 0 else at_ p (n + 1)) →
    Ev (fun k => field_Slope.l0 k (L o) (m : Int) (i : Int)) (L (trim (dr p)), 0) := by
  induction d with
  | zero =>
    intro i o hi ho hp ha
    refine Ev.stepTo' _ (fun k _ => by rw [field_Slope.l0, if_neg (by omega)]) ?_
    have : trim (dr p) = trim o := trim_ext (fun n => by
      rw [at_dr, ha]
      by_cases h : n % 2 = 0
      · rw [if_pos h, if_neg (by omega)]
      · rw [if_neg h]
        by_cases e : n < i
        · rw [if_pos (by omega)]
        · rw [if_neg (by omega), at_ge p _ (by omega)])
    rw [this]
    exact Ev.bind (poly_ev o (by omega)) (Ev.now _)
  | succ d ih =>
    intro i o hi ho hp ha
    have hw : wrap64 ((i : Int) + 1) = ((i + 1 : Nat) : Int) := by rw [wrap_id _ (by omega) (by omega)]; omega
    refine Ev.stepTo' _ (fun k _ => by rw [field_Slope.l0, if_pos (by omega), and_one_i64 i (by omega), hw]) ?_
    by_cases h : i % 2 = 0
    · refine Ev.congr (fun k => by rw [if_neg (by omega)]) ?_
      refine ih (i + 1) o (by omega) ho hp (fun n => ?_)
      rw [ha]
      by_cases e : n < i ∧ n % 2 = 1
      · rw [if_pos e, if_pos (by omega)]
      · rw [if_neg e, if_neg (by omega)]
    · refine Ev.congr (fun k => by rw [if_pos (by omega), if_pos (by omega), if_pos (by rw [L_length]; omega), Int.toNat_natCast, show (0 : Int) = I 0 from rfl, L_set]) ?_
      refine ih (i + 1) _ (by omega) (by rw [List.length_set]; exact ho) hp (fun n => ?_)
      rw [at_set _ _ _ _ (by omega), ha]
      by_cases e : n = i
      · rw [if_pos e, if_pos (by omega)]
      · rw [if_neg e]
        by_cases e : n < i ∧ n % 2 = 1
        · rw [if_pos e, if_pos (by omega)]
        · rw [if_neg e, if_neg (by omega)]
theorem Slope_ev (p : List F) (hp : p.length ≤ 512) : Ev (fun k => field_Slope.f k (L p)) (L (trim (dr p)), 0) := by
  have hm : mn 1 (p.length : Int) = ((min 1 p.length : Nat) : Int) := by unfold mn; split <;> omega
  refine Ev.congr (fun k => by rw [field_Slope.f, long1, decide_eq_false (by omega), Option.bind_some, if_neg (by decide), L_length, hm, if_pos (by omega), if_pos (by omega), Int.toNat_natCast, L_drop, clone _ (by rw [List.length_drop]; omega), Option.bind_some, L_length, List.length_drop]) ?_
  refine slope_l0 p (p.length - min 1 p.length) (by omega) _ 0 (p.drop (min 1 p.length)) (Nat.zero_add _) (by rw [List.length_drop]) (by omega) (fun n => ?_)
  rw [if_neg (by omega), at_drop]
  by_cases h : p.length = 0
  · rw [at_ge p _ (by omega), at_ge p _ (by omega)]
  · rw [show min 1 p.length + n = n + 1 from by omega]

/-! The statement -/
theorem FieldRoots_l2 (l : List F) (q : List F) (hq : IsPoly q) (hql : q.length ≤ 20) (s : F) (told : List Int) (ht : told.length < 1000) (f : Nat → F × F) (hf : f = fun i => (ofN (s.val + i), evp q (ofN (s.val + i)))) (d : Nat) :
    ∀ i : Nat, i + d = q.length + 3 → Ev (fun k => foghornlaw18_FieldRoots.l2 k (I s) told (told.length : Int) (L q) 0 (P45 f i) (i : Int)) true := by
  induction d with
  | zero =>
    intro i hi
    have hnd : (Xs f i).Nodup := Xs_nodup_of f i (fun a b ha hb e => by subst hf; have := ofN_inj e; omega)
    have hnewt : newt f i = q := newt_unique f i (by omega) hnd q hq (by omega) (fun j _ => by subst hf; rfl)
    have hg : P45 (fun j => if j < i then f j else f 0) (i + 1) = P45 f i ++ [⟨(rd_T45 (P45 f i) 0).f0, (rd_T45 (P45 f i) 0).f1⟩] := by
      rw [show (0 : Int) = ((0 : Nat) : Int) from rfl, rd_P45_0 f i 0 (by omega), rd_P45_1 f i 0 (by omega)]
      unfold P45
      rw [List.range_succ, List.map_append]
      congr 1
      · refine List.map_congr_left (fun j hj => ?_)
        have hj := List.mem_range.1 hj
        simp [hj]
      · simp
    have hgn : ¬ (Xs (fun j => if j < i then f j else f 0) (i + 1)).Nodup := fun e => by
      have := (Xs_nodup_succ.1 e).2
      refine this (mem_Xs.2 ⟨0, by omega, ?_⟩)
      show (if 0 < i then f 0 else f 0).1 = (if i < i then f i else f 0).1
      rw [if_neg (Nat.lt_irrefl i), ite_self]
    have h1 := through_ev f i (by omega)
    rw [if_pos hnd, hnewt] at h1
    have h2 := through_ev (fun j => if j < i then f j else f 0) (i + 1) (by omega)
    rw [if_neg hgn, hg] at h2
    refine Ev.stepTo' _ (fun k _ => by rw [foghornlaw18_FieldRoots.l2, L_length, wrap_id ((q.length : Int) + 3) (by omega) (by omega), if_neg (by omega)]) ?_
    refine Ev.bind h1 ?_
    refine Ev.congr (fun k => by rw [P45_length, if_pos (by omega), if_pos (by omega)]) ?_
    refine Ev.bind h2 ?_
    refine Ev.congr (fun k => by rw [if_pos rfl, if_pos rfl, if_pos (by rfl)]) ?_
    refine Ev.bind (same18 _ (by rw [L_length]; omega)) ?_
    refine Ev.congr (fun k => by rw [if_pos rfl, if_pos (by rfl), if_pos (by rfl)]) ?_
    exact Ev.bind wake (Ev.now _)
  | succ d ih =>
    intro i hi
    have hx : (I s + (i : Int)) % 256 = I (ofN (s.val + i)) := by rw [I_ofN]; unfold I; omega
    have hfi : f i = (ofN (s.val + i), evp q (ofN (s.val + i))) := by rw [hf]
    have hP : P45 f (i + 1) = P45 f i ++ [⟨I (ofN (s.val + i)), I (evp q (ofN (s.val + i)))⟩] := by
      unfold P45; rw [List.range_succ, List.map_append]; simp [hfi]
    have hw : wrap64 ((i : Int) + 1) = ((i + 1 : Nat) : Int) := by rw [wrap_id _ (by omega) (by omega)]; omega
    refine Ev.stepTo' _ (fun k _ => by rw [foghornlaw18_FieldRoots.l2, L_length, wrap_id ((q.length : Int) + 3) (by omega) (by omega), if_pos (by omega), hx, At_ev q _ (by omega), Option.bind_some, if_pos rfl, P45_length, if_pos (by omega), ← hP, hw]) ?_
    exact ih (i + 1) (by omega)
theorem FieldRoots_l1 (l : List F) (hl : l.length ≤ 30) (p : List F) (s : F) (c : List Int) (hc : c.length = 256) (hcount : ∀ x : F, rd c (I x) = (l.count x : Int)) (d : Nat) :
    ∀ x : Nat, x + d = 256 → Ev (fun k => foghornlaw18_FieldRoots.l1 k (L p) (I s) (L (rts (ofRoots l) 256)) (L (trim (dr (ofRoots l)))) c ((rts (ofRoots l) x).length : Int) (x : Int)) true := by
  have hlen : ∀ x, (rts (ofRoots l) x).length ≤ x := fun x => Nat.le_trans (List.length_filter_le _ _) (by rw [List.length_map, List.length_range]; exact Nat.le_refl _)
  have hdl : (trim (dr (ofRoots l))).length ≤ 512 := by
    have h1 := trim_length (dr (ofRoots l))
    rw [dr_length, ofRoots_length] at h1
    omega
  induction d with
  | zero =>
    intro x hx
    obtain rfl : x = 256 := by omega
    have hk := hlen 256
    have t1 := take_min p 20 (by decide)
    have a1 : (p.take (mn (p.length : Int) 20).toNat).length ≤ 20 := t1.2.2
    have l1 := trim_length (p.take (mn (p.length : Int) 20).toNat)
    refine Ev.stepTo' _ (fun k _ => by rw [foghornlaw18_FieldRoots.l1, if_neg (by omega), L_length p, if_pos t1.1, if_pos t1.2.1, L_take]) ?_
    refine Ev.bind (a := (L (trim (p.take (mn (p.length : Int) 20).toNat)), 0)) (by rw [← addP_nil]; exact Sum_ev _ [] (by omega) (by simp)) ?_
    have := FieldRoots_l2 l (trim (p.take (mn (p.length : Int) 20).toNat)) (trim_isPoly _) (by omega) s (L (rts (ofRoots l) 256)) (by rw [L_length]; omega) _ rfl _ 0 (Nat.zero_add _)
    rw [L_length] at this
    exact this
  | succ d ih =>
    intro x hx
    have hk := hlen x
    have hnx := ih (x + 1) (by omega)
    rw [rts_succ (ofRoots l) x] at hnx
    have hcx : rd c (x : Int) = (l.count (ofN x) : Int) := by
      have := hcount (ofN x)
      rwa [I_ofN, Int.emod_eq_of_lt (by omega) (by omega)] at this
    have hw : wrap64 ((x : Int) + 1) = ((x + 1 : Nat) : Int) := by rw [wrap_id _ (by omega) (by omega)]; omega
    have hw2 : wrap64 (((rts (ofRoots l) x).length : Int) + 1) = (((rts (ofRoots l) x).length + 1 : Nat) : Int) := by rw [wrap_id _ (by omega) (by omega)]; omega
    obtain ⟨t, h1, h2, h3⟩ := rts_from (ofRoots l) x (d + 1) (by omega)
    rw [hx] at h1
    by_cases hr : evp (ofRoots l) (ofN x) = 0
    · obtain ⟨t', rfl⟩ := h2 (by omega) hr
      have hm := (root_iff l _).1 hr
      have hpos := List.count_pos_iff.2 hm
      rw [if_pos hr] at hnx
      have hsl := slope_root (ofN x) l hm
      refine Ev.stepTo' _ (fun k _ => by rw [foghornlaw18_FieldRoots.l1, if_pos (by omega), if_pos (by rw [L_length, h1, List.length_append, List.length_cons]; omega), if_pos (by omega), rd_L, Int.toNat_natCast,
        show at_ (rts (ofRoots l) 256) (rts (ofRoots l) x).length = ofN x from by rw [h1, at_append, if_neg (Nat.lt_irrefl _), Nat.sub_self]; rfl, I_ofN, show ((x : Int) % 256 == (x : Int) % 256) = true from beq_self_eq_true _]) ?_
      refine Ev.stepTo' _ (fun k _ => by rw [foghornlaw18_FieldRoots.j3, if_pos rfl, ← I_ofN, At_ev _ _ hdl, Option.bind_some, if_pos rfl, if_pos (by omega), if_pos (by omega), if_pos (by omega), hcx, decide_eq_true (show (l.count (ofN x) : Int) > 0 by omega), if_neg (by decide),
        show ((I (evp (trim (dr (ofRoots l))) (ofN x)) == 0) != decide ((l.count (ofN x) : Int) > 1)) = false from by
          rw [bne_eq_false_iff_eq, Bool.eq_iff_iff, beq_iff_eq, decide_eq_true_iff, I_eq_zero, evp_trim, hsl]; omega, if_neg (by decide), hw, hw2]) ?_
      rw [List.length_append] at hnx
      exact hnx
    · have hm : ofN x ∉ l := fun e => hr ((root_iff l _).2 e)
      have h0 : l.count (ofN x) = 0 := List.count_eq_zero.2 hm
      rw [if_neg hr, List.append_nil] at hnx
      have hj3 : Ev (fun k => foghornlaw18_FieldRoots.j3 k (L p) (I s) (L (rts (ofRoots l) 256)) (L (trim (dr (ofRoots l)))) c ((rts (ofRoots l) x).length : Int) (x : Int) false) true := by
        refine Ev.stepTo' _ (fun k _ => by rw [foghornlaw18_FieldRoots.j3, if_neg (by decide), ← I_ofN, At_ev _ _ hdl, Option.bind_some, if_pos rfl, if_pos (by omega), if_pos (by omega), if_pos (by omega), hcx, h0, if_neg (by decide), hw]) ?_
        exact hnx
      by_cases e : (rts (ofRoots l) x).length < (rts (ofRoots l) 256).length
      · have hne : (I (at_ (rts (ofRoots l) 256) (rts (ofRoots l) x).length) == (x : Int) % 256) = false := by
          rw [beq_eq_false_iff_ne, ← I_ofN]
          intro he
          have he := I_inj he
          rw [at_lt _ _ e] at he
          have hmem : (rts (ofRoots l) 256)[(rts (ofRoots l) x).length] ∈ t := by
            have : (rts (ofRoots l) 256)[(rts (ofRoots l) x).length]? = t[0]? := by
              rw [h1, List.getElem?_append_right (Nat.le_refl _), Nat.sub_self]
            rw [List.getElem?_eq_getElem e] at this
            exact List.mem_of_getElem? this.symm
          exact h3 hr _ hmem he
        refine Ev.stepTo' _ (fun k _ => by rw [foghornlaw18_FieldRoots.l1, if_pos (by omega), if_pos (by rw [L_length]; omega), if_pos (by omega), rd_L, Int.toNat_natCast, hne]) ?_
        exact hj3
      · refine Ev.stepTo' _ (fun k _ => by rw [foghornlaw18_FieldRoots.l1, if_pos (by omega), if_neg (by rw [L_length]; omega)]) ?_
        exact hj3
theorem FieldRoots_l0 (l : List F) (hl : l.length ≤ 30) (p : List F) (s : F) (d : Nat) :
    ∀ (i : Nat) (c : List Int), i + d = l.length → c.length = 256 → (∀ x : F, rd c (I x) = ((l.take i).count x : Int)) → Ev (fun k => foghornlaw18_FieldRoots.l0 k (L p) (I s) (L l) (L (rts (ofRoots l) 256)) (L (trim (dr (ofRoots l)))) c (i : Int)) true := by
  induction d with
  | zero =>
    intro i c hi hc hx
    rw [List.take_of_length_le (by omega)] at hx
    refine Ev.stepTo' _ (fun k _ => by rw [foghornlaw18_FieldRoots.l0, if_neg (by rw [L_length]; omega)]) ?_
    exact FieldRoots_l1 l hl p s c hc hx 256 0 (by omega)
  | succ d ih =>
    intro i c hi hc hx
    have hI0 := I_lo (at_ l i)
    have hI1 := I_hi (at_ l i)
    have hcl : (l.take i).count (at_ l i) ≤ 30 := Nat.le_trans List.count_le_length (by rw [List.length_take]; omega)
    refine Ev.stepTo' _ (fun k _ => by rw [foghornlaw18_FieldRoots.l0, if_pos (by rw [L_length]; omega), if_pos (by omega), rd_L, Int.toNat_natCast, if_pos hI0, if_pos (by omega), if_pos (by omega), hx, wrap_id ((i : Int) + 1) (by omega) (by omega), wrap_id _ (by omega) (by omega), show ((i : Int) + 1) = ((i + 1 : Nat) : Int) from by omega]) ?_
    refine ih (i + 1) _ (by omega) (by rw [List.length_set]; exact hc) (fun x => ?_)
    have hx0 := I_lo x
    have hx1 := I_hi x
    rw [List.take_succ_eq_append_getElem (by omega), List.count_append, List.count_singleton, ← at_lt l i (by omega)]
    by_cases e : x = at_ l i
    · subst e
      show (c.set _ _).getD _ _ = _
      rw [List.getD_eq_getElem?_getD, List.getElem?_set_self (by omega)]
      simp
    · have hne : (I (at_ l i)).toNat ≠ (I x).toNat := fun h => e (I_inj (by omega))
      have h4 : ∀ v, rd (c.set (I (at_ l i)).toNat v) (I x) = rd c (I x) := fun v => by
        show (c.set _ _).getD _ _ = c.getD _ _
        rw [List.getD_eq_getElem?_getD, List.getElem?_set_ne hne, List.getD_eq_getElem?_getD]
      rw [h4, hx]
      have : (at_ l i == x) = false := by simpa using fun h => e h.symm
      rw [this]
      simp
/-- The statement over numbers. -/
theorem FieldRoots : foghornlaw18_FieldRoots.Pure := by
  intro l1 l2 s _ _ h1 _ _ h2 hs
  obtain ⟨l, rfl⟩ := of_bytes l1 h1
  obtain ⟨p, rfl⟩ := of_bytes l2 h2
  obtain ⟨s, rfl⟩ := u8_of hs
  have t1 := take_min l 30 (by decide)
  have a1 : (l.take (mn (l.length : Int) 30).toNat).length ≤ 30 := t1.2.2
  refine Ev.rounds ?_
  refine Ev.congr (fun k => by rw [foghornlaw18_FieldRoots.f, L_length l, if_pos t1.1, if_pos t1.2.1, L_take]) ?_
  generalize l.take (mn (l.length : Int) 30).toNat = l at *
  have hol := ofRoots_length l
  have hne : trim (ofRoots l) ≠ [] := by
    rw [trim_of_isPoly (ofRoots_isPoly l)]
    intro e
    rw [e] at hol
    simp at hol
  have htold : (rts (ofRoots l) 256).length ≤ l.length := by
    by_cases e : (rts (ofRoots l) 256).length ≤ l.length
    · exact e
    · exfalso
      have := roots_zero (rts (ofRoots l) 256) (ofRoots l) (rts_nodup _ 256 (Nat.le_refl _)) (by omega) (by omega) (fun r hr => rts_root hr) l.length
      rw [ofRoots_top] at this
      exact one_ne_zero this
  refine Ev.bind (of_ev l (by omega)) ?_
  refine Ev.bind (Roots_ev (ofRoots l) (by omega) hne) ?_
  refine Ev.bind (Slope_ev (ofRoots l) (by omega)) ?_
  refine Ev.congr (fun k => by rw [if_pos rfl, if_pos rfl, if_pos rfl, degree18 _ (by omega), Option.bind_some, if_pos (by rw [L_length]; omega), L_length, L_length, decide_eq_false (by omega)]) ?_
  refine Ev.stepTo' _ (fun k _ => by rw [foghornlaw18_FieldRoots.j0, if_neg (by decide)]) ?_
  refine FieldRoots_l0 l a1 p s l.length 0 (List.replicate 256 0) (by omega) (by rw [List.length_replicate]) (fun x => ?_)
  rw [List.take_zero]
  show (List.replicate 256 0).getD _ _ = _
  rw [List.getD_eq_getElem?_getD, List.getElem?_replicate]
  split <;> rfl
end Go.Proofs.Ytmdeldiocaofkaa.Pure
