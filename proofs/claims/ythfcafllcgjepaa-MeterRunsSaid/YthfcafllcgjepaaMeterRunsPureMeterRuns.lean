import Derived.Test.YthfcafllcgjepaaMeterRunsMeter1
import Derived.Test.YthfcafllcgjepaaMeterRunsF0
/- MeterRuns: the runs' wrong bits are all of them, runs are apart by more than the gap; with a greater gap there are not more; the sides changed tell the same. -/
namespace Go.Proofs.Ythfcafllcgjepaa.Met
open Go.RowKit Go.Proofs.Ythfcafllcgjepaa.Q Go.Proofs.YthfcafllcgjepaaW.PrintWords Go.Proofs.YthfcafllcgjepaaW.PrintLast Go.Proofs.YthfcafllcgjepaaW.PrintMore Go.Proofs.Ythfcafllcgjepaa.Feed
theorem un_comm (a b : List Bool) (i : Nat) : un b a i = un a b i := by unfold un; rw [bne_comm]
theorem C_comm (a b : List Bool) (d : Nat) : ∀ i, C b a i d = C a b i d := by
  induction d with
  | zero => intro i; rfl
  | succ d ih => intro i; unfold C; rw [ih, un_comm]
theorem F_comm (a b : List Bool) (d : Nat) : ∀ i, F b a i d = F a b i d := by
  induction d with
  | zero => intro i; rfl
  | succ d ih => intro i; unfold F; rw [ih, un_comm]
/-- What holds of each run. -/
def One (a b : List Bool) (i : Nat) (r : S49) : Prop := 0 ≤ r.f0 ∧ 1 ≤ r.f1 ∧ r.f0 + r.f1 ≤ i ∧ 1 ≤ r.f2 ∧ r.f2 ≤ r.f1 ∧ un a b r.f0.toNat = true ∧ un a b (r.f0 + r.f1 - 1).toNat = true
def sumW (l : List S49) : Int := (l.map fun r => r.f2).sum
def hd (l : List S49) : Int := match l with | [] => -1 | r :: _ => r.f0
/-- The runs ahead of i. -/
structure St (a b : List Bool) (gap : Int) (l : List S49) (i : Nat) : Prop where
  one : ∀ r ∈ l, One a b i r
  apart : l.Pairwise fun r s => r.f0 + r.f1 + gap < s.f0
theorem One.up {a b : List Bool} {i : Nat} {r : S49} (h : One a b i r) : One a b (i + 1) r := by
  obtain ⟨q1, q2, q3, q4, q5, q6, q7⟩ := h
  exact ⟨q1, q2, by omega, q4, q5, q6, q7⟩
theorem St.up {a b : List Bool} {gap : Int} {l : List S49} {i : Nat} (h : St a b gap l i) : St a b gap l (i + 1) := ⟨fun r hr => (h.one r hr).up, h.apart⟩
theorem last_split {l : List S49} {r : S49} (h : l.getLast? = some r) : l = l.dropLast ++ [r] := by
  obtain ⟨m, rfl⟩ := List.getLast?_eq_some_iff.1 h
  rw [List.dropLast_concat]
theorem apart_end {gap : Int} {l : List S49} {r s : S49} (hg : 0 ≤ gap) (h : (l ++ [r]).Pairwise fun r s => r.f0 + r.f1 + gap < s.f0) (hl : ∀ x ∈ l ++ [r], 1 ≤ x.f1) (hs : r.f0 + r.f1 + gap < s.f0) : (l ++ [r] ++ [s]).Pairwise fun r s => r.f0 + r.f1 + gap < s.f0 := by
  rw [List.pairwise_append]
  refine ⟨h, List.pairwise_singleton _ _, fun x hx y hy => ?_⟩
  rw [List.mem_singleton.1 hy]
  rcases List.mem_append.1 hx with q | q
  · have h2 := (List.pairwise_append.1 h).2.2 x q r (List.mem_singleton.2 rfl)
    have := hl r (List.mem_append.2 (Or.inr (List.mem_singleton.2 rfl)))
    omega
  · rw [List.mem_singleton.1 q]; exact hs
theorem St.more {a b : List Bool} {gap : Int} {l : List S49} {i : Nat} (hg : 0 ≤ gap) (h : St a b gap l i) (hu : un a b i = true) : St a b gap (more gap l i) (i + 1) := by
  have new : One a b (i + 1) ⟨i, 1, 1⟩ := ⟨by show (0 : Int) ≤ i; omega, Int.le_refl 1, by show (i : Int) + 1 ≤ ((i + 1 : Nat) : Int); omega, Int.le_refl 1, Int.le_refl 1, by show un a b (i : Int).toNat = true; rw [Int.toNat_natCast]; exact hu, by show un a b ((i : Int) + 1 - 1).toNat = true; rw [show ((i : Int) + 1 - 1) = i by omega, Int.toNat_natCast]; exact hu⟩
  unfold Met.more
  cases hl : l.getLast? with
  | none =>
    have : l = [] := List.getLast?_eq_none_iff.1 hl
    subst this
    exact ⟨fun r hr => by rw [List.mem_singleton.1 hr]; exact new, List.pairwise_singleton _ _⟩
  | some r =>
    have hsp := last_split hl
    have hr : r ∈ l := by rw [hsp]; exact List.mem_append.2 (Or.inr (List.mem_singleton.2 rfl))
    have h1 := h.one r hr
    show St a b gap (if (i : Int) - r.f0 - r.f1 ≤ gap then _ else _) (i + 1)
    by_cases c : (i : Int) - r.f0 - r.f1 ≤ gap
    · rw [if_pos c]
      refine ⟨fun s hs => ?_, ?_⟩
      · rcases List.mem_append.1 hs with q | q
        · exact (h.one s (by rw [hsp]; exact List.mem_append.2 (Or.inl q))).up
        · rw [List.mem_singleton.1 q]
          obtain ⟨q1, q2, q3, q4, q5, q6, q7⟩ := h1
          refine ⟨q1, ?_, ?_, ?_, ?_, q6, ?_⟩
          · show (1 : Int) ≤ (i : Int) - r.f0 + 1; omega
          · show r.f0 + ((i : Int) - r.f0 + 1) ≤ ((i + 1 : Nat) : Int); omega
          · show (1 : Int) ≤ r.f2 + 1; omega
          · show r.f2 + 1 ≤ (i : Int) - r.f0 + 1; omega
          · show un a b (r.f0 + ((i : Int) - r.f0 + 1) - 1).toNat = true
            rw [show r.f0 + ((i : Int) - r.f0 + 1) - 1 = i by omega, Int.toNat_natCast]
            exact hu
      · have h2 := h.apart
        rw [hsp] at h2
        rw [List.pairwise_append] at h2 ⊢
        refine ⟨h2.1, List.pairwise_singleton _ _, fun x hx y hy => ?_⟩
        rw [List.mem_singleton.1 hy]
        exact h2.2.2 x hx r (List.mem_singleton.2 rfl)
    · rw [if_neg c]
      refine ⟨fun s hs => ?_, ?_⟩
      · rcases List.mem_append.1 hs with q | q
        · exact (h.one s q).up
        · rw [List.mem_singleton.1 q]; exact new
      · rw [hsp]
        refine apart_end hg (by rw [← hsp]; exact h.apart) (fun x hx => (h.one x (by rw [hsp]; exact hx)).2.1) ?_
        show r.f0 + r.f1 + gap < (i : Int)
        omega
theorem sum_app (l m : List S49) : sumW (l ++ m) = sumW l + sumW m := by unfold sumW; rw [List.map_append, List.sum_append]
theorem sum_one (r : S49) : sumW [r] = r.f2 := by unfold sumW; simp
theorem sum_more (gap : Int) (l : List S49) (i : Nat) : sumW (more gap l i) = sumW l + 1 := by
  unfold more
  cases hl : l.getLast? with
  | none => show sumW (l ++ [⟨i, 1, 1⟩]) = _; rw [sum_app, sum_one]
  | some r =>
    show sumW (if (i : Int) - r.f0 - r.f1 ≤ gap then _ else _) = _
    have hsp := last_split hl
    split
    · rw [sum_app, sum_one]
      conv => rhs; rw [hsp, sum_app, sum_one]
      show sumW l.dropLast + (r.f2 + 1) = _
      omega
    · rw [sum_app, sum_one]
theorem hd_app (l : List S49) (r : S49) (h : l ≠ []) : hd (l ++ [r]) = hd l := by
  cases l with
  | nil => exact absurd rfl h
  | cons a t => rfl
theorem hd_more (gap : Int) (l : List S49) (i : Nat) : hd (more gap l i) = if l = [] then (i : Int) else hd l := by
  unfold more
  cases hl : l.getLast? with
  | none =>
    have : l = [] := List.getLast?_eq_none_iff.1 hl
    subst this
    rfl
  | some r =>
    have hsp := last_split hl
    have hne : l ≠ [] := fun e => by rw [e] at hl; cases hl
    rw [if_neg hne]
    show hd (if (i : Int) - r.f0 - r.f1 ≤ gap then _ else _) = _
    split
    · cases hd' : l.dropLast with
      | nil =>
        rw [hd'] at hsp
        rw [hsp]
        rfl
      | cons a t =>
        rw [hd'] at hsp
        rw [hsp]
        rfl
    · exact hd_app _ _ hne
theorem more_ne (gap : Int) (l : List S49) (i : Nat) : more gap l i ≠ [] := by
  unfold more
  split
  · simp
  · split <;> simp
theorem more_len (gap : Int) (l : List S49) (i : Nat) : (more gap l i).length = if l = [] ∨ gap < (i : Int) - lastOf l - 1 then l.length + 1 else l.length := by
  unfold more lastOf
  cases hl : l.getLast? with
  | none =>
    have : l = [] := List.getLast?_eq_none_iff.1 hl
    rw [if_pos (Or.inl this)]
    show (l ++ [_]).length = _
    rw [List.length_append]
    rfl
  | some r =>
    have hne : l ≠ [] := fun e => by rw [e] at hl; cases hl
    have hpos : 0 < l.length := List.length_pos_iff.2 hne
    show (if (i : Int) - r.f0 - r.f1 ≤ gap then l.dropLast ++ [_] else l ++ [_]).length = if l = [] ∨ gap < (i : Int) - (r.f0 + r.f1 - 1) - 1 then _ else _
    by_cases c : (i : Int) - r.f0 - r.f1 ≤ gap
    · rw [if_pos c, if_neg (fun h => h.elim hne (by omega)), List.length_append, List.length_dropLast]
      simp
      omega
    · rw [if_neg c, if_pos (Or.inr (by omega)), List.length_append]
      rfl
/-- All that is said of the runs of two rows. -/
theorem runs_all (a b : List Bool) (gap : Int) (hg : 0 ≤ gap) (d : Nat) : ∀ (i : Nat) (l : List S49), St a b gap l i → St a b gap (runs a b gap i d l) (i + d) ∧ sumW (runs a b gap i d l) = sumW l + C a b i d ∧ hd (runs a b gap i d l) = if l = [] then (if C a b i d = 0 then -1 else (F a b i d : Int)) else hd l := by
  induction d with
  | zero =>
    intro i l h
    refine ⟨h, ?_, ?_⟩
    · show sumW l = sumW l + ((0 : Nat) : Int); omega
    · show hd l = if l = [] then (if (0 : Nat) = 0 then -1 else _) else hd l
      by_cases c : l = []
      · rw [if_pos c, if_pos rfl, c]; rfl
      · rw [if_neg c]
  | succ d ih =>
    intro i l h
    have hC : C a b i (d + 1) = C a b (i + 1) d + (if un a b i then 1 else 0) := rfl
    have hF : F a b i (d + 1) = if un a b i then i else F a b (i + 1) d := rfl
    have hr : runs a b gap i (d + 1) l = runs a b gap (i + 1) d (if un a b i then more gap l i else l) := rfl
    rw [hr, hC, hF, show i + (d + 1) = i + 1 + d by omega]
    by_cases c : un a b i = true
    · obtain ⟨h1, h2, h3⟩ := ih (i + 1) (more gap l i) (h.more hg c)
      rw [if_pos c, if_pos c, if_pos c]
      refine ⟨h1, by rw [h2, sum_more]; omega, ?_⟩
      rw [h3, if_neg (more_ne _ _ _), hd_more]
      by_cases q : l = []
      · rw [if_pos q, if_pos q, if_neg (by omega)]
      · rw [if_neg q, if_neg q]
    · obtain ⟨h1, h2, h3⟩ := ih (i + 1) l h.up
      rw [if_neg c, if_neg c, if_neg c]
      exact ⟨h1, by rw [h2]; omega, h3⟩
theorem wide_le (a b : List Bool) (gap : Int) (d : Nat) : ∀ (i : Nat) (l m : List S49), m.length ≤ l.length → (l = [] ↔ m = []) → lastOf l = lastOf m → (runs a b (gap + 1) i d m).length ≤ (runs a b gap i d l).length := by
  induction d with
  | zero => intro i l m h _ _; exact h
  | succ d ih =>
    intro i l m h1 h2 h3
    show (runs a b (gap + 1) (i + 1) d (if un a b i then more (gap + 1) m i else m)).length ≤ (runs a b gap (i + 1) d (if un a b i then more gap l i else l)).length
    by_cases c : un a b i = true
    · rw [if_pos c, if_pos c]
      refine ih (i + 1) _ _ ?_ ⟨fun e => absurd e (more_ne _ _ _), fun e => absurd e (more_ne _ _ _)⟩ (by rw [lastOf_more, lastOf_more])
      rw [more_len, more_len]
      by_cases q : m = [] ∨ gap + 1 < (i : Int) - lastOf m - 1
      · rw [if_pos q, if_pos (by rcases q with q | q; exact Or.inl (h2.2 q); exact Or.inr (by rw [h3]; omega))]
        omega
      · rw [if_neg q]
        split <;> omega
    · rw [if_neg c, if_neg c]
      exact ih (i + 1) l m h1 h2 h3
theorem sum_pos {a b : List Bool} {i : Nat} : ∀ l : List S49, (∀ r ∈ l, One a b i r) → 0 ≤ sumW l ∧ (l ≠ [] → 1 ≤ sumW l)
  | [], _ => ⟨Int.le_refl 0, fun h => absurd rfl h⟩
  | r :: t, h => by
    have h1 := sum_pos t (fun x hx => h x (List.mem_cons_of_mem _ hx))
    have h2 := (h r (List.mem_cons_self ..)).2.2.2.1
    have e : sumW (r :: t) = r.f2 + sumW t := by unfold sumW; simp
    rw [e]
    exact ⟨by omega, fun _ => by omega⟩
theorem mr_l0 (a b : List Bool) (hab : b.length = a.length) (hl : a.length ≤ 300) (g : Int) (hg : 0 ≤ g ∧ g < 40) (L : List S49) (hL : St a b g L a.length) (hLl : L.length ≤ 300) (N : Int) (hN : N = sumW L) (hN3 : N ≤ 300) (d : Nat) : ∀ (i : Nat) (al en : Int), i + d = L.length → al + sumW (L.drop i) = N → 0 ≤ al → (-1000 ≤ en ∧ en ≤ 300) → (∀ r ∈ L.drop i, en + g < r.f0) → Ev (fun k => foghornlaw30_MeterRuns.l0 k a b g N L al en (i : Int)) true := by
  induction d with
  | zero =>
    intro i al en hi hs _ _ _
    have e : L.drop i = [] := List.drop_eq_nil_of_le (by omega)
    rw [e] at hs
    have hs' : al = N := by rw [← hs]; show al = al + 0; omega
    exact Ev.stepTo _ (fun k _ => by rw [foghornlaw30_MeterRuns.l0, if_neg (by omega), if_pos hs']) (Ev.bind awake_ev (Ev.now _))
  | succ d ih =>
    intro i al en hi hs ha he hen
    have hil : i < L.length := by omega
    have hdr := List.drop_eq_getElem_cons hil
    have hrd := rd49 L i hil
    obtain ⟨r, hr⟩ : ∃ r, r = L[i] := ⟨_, rfl⟩
    rw [← hr] at hdr hrd
    obtain ⟨q1, q2, q3, q4, q5, q6, q7⟩ := hL.one r (by rw [hr]; exact List.getElem_mem hil)
    have hfirst := hen r (by rw [hdr]; exact List.mem_cons_self ..)
    have hsum : sumW (L.drop i) = r.f2 + sumW (L.drop (i + 1)) := by rw [hdr]; unfold sumW; simp
    have hrest := (sum_pos (a := a) (b := b) (i := a.length) (L.drop (i + 1)) (fun x hx => hL.one x (List.mem_of_mem_drop hx))).1
    have hap : ∀ s ∈ L.drop (i + 1), r.f0 + r.f1 + g < s.f0 := fun s hs' => by
      have h1 := hL.apart.drop (i := i)
      rw [hdr] at h1
      exact (List.pairwise_cons.1 h1).1 s hs'
    have c1 : (i : Int) < ((L.length : Nat) : Int) := by omega
    have c2 : (0 : Int) ≤ (i : Int) := by omega
    have c3 : ¬ r.f0 ≤ en + g := by omega
    have c4 : ¬ r.f0 < 0 := by omega
    have c5 : ¬ r.f1 < 1 := by omega
    have c6 : ¬ r.f0 + r.f1 > ((a.length : Nat) : Int) := by omega
    have c7 : ¬ r.f2 < 1 := by omega
    have c8 : ¬ r.f2 > r.f1 := by omega
    have c9 : r.f0 < ((a.length : Nat) : Int) := by omega
    have c10 : r.f0 < ((b.length : Nat) : Int) := by omega
    have c11 : 0 ≤ r.f0 + r.f1 - 1 := by omega
    have c12 : r.f0 + r.f1 - 1 < ((a.length : Nat) : Int) := by omega
    have c13 : r.f0 + r.f1 - 1 < ((b.length : Nat) : Int) := by omega
    have n1 : i + 1 + d = L.length := by omega
    have n2 : al + r.f2 + sumW (L.drop (i + 1)) = N := by omega
    have n3 : 0 ≤ al + r.f2 := by omega
    have n4 : -1000 ≤ r.f0 + r.f1 ∧ r.f0 + r.f1 ≤ 300 := ⟨by omega, by omega⟩
    have nxt := ih (i + 1) (al + r.f2) (r.f0 + r.f1) n1 n2 n3 n4 hap
    have e1 : wrap64 (en + g) = en + g := wrap_id _ (by omega) (by omega)
    have e2 : wrap64 (r.f0 + r.f1) = r.f0 + r.f1 := wrap_id _ (by clear e1; omega) (by clear e1; omega)
    have e3 : wrap64 (r.f0 + r.f1 - 1) = r.f0 + r.f1 - 1 := wrap_id _ (by clear e1 e2; omega) (by clear e1 e2; omega)
    have e4 : wrap64 (al + r.f2) = al + r.f2 := wrap_id _ (by clear e1 e2 e3; omega) (by clear e1 e2 e3; omega)
    have hw : wrap64 ((i : Int) + 1) = ((i + 1 : Nat) : Int) := wrap_id _ (by clear e1 e2 e3 e4; omega) (by clear e1 e2 e3 e4; omega)
    clear hsum hrest hen hfirst hap ih hs ha he
    have u1 : ¬ (rdOf false a r.f0 == rdOf false b r.f0) = true := by
      unfold un at q6
      rw [show ((r.f0.toNat : Nat) : Int) = r.f0 by omega, bne, Bool.not_eq_true'] at q6
      rw [q6]; decide
    have u2 : ¬ (rdOf false a (r.f0 + r.f1 - 1) == rdOf false b (r.f0 + r.f1 - 1)) = true := by
      unfold un at q7
      rw [show (((r.f0 + r.f1 - 1).toNat : Nat) : Int) = r.f0 + r.f1 - 1 by omega, bne, Bool.not_eq_true'] at q7
      rw [q7]; decide
    refine Ev.stepTo _ (fun k _ => ?_) nxt
    clear nxt
    rw [foghornlaw30_MeterRuns.l0, if_pos c1, if_pos c2, hrd, e1, if_neg c3, if_neg c4, if_neg c5, e2, if_neg c6, if_neg c7, if_neg c8, if_pos q1, if_pos c9, if_pos c10, if_neg u1, e3, if_pos c11, if_pos c12, if_pos c13, if_neg u2, e4, hw]
theorem copyOnto_len {α : Type} (xs ys : List α) : (copyOnto xs ys).length = xs.length := by
  unfold copyOnto
  rw [List.length_append, List.length_take, List.length_drop]
  omega
theorem u8_bounds {n : Int} (h : (Lit.int .u8 n).wf = true) : 0 ≤ n ∧ n ≤ 255 := by
  unfold Lit.wf at h
  rw [Bool.and_eq_true, decide_eq_true_iff, decide_eq_true_iff, show IntKind.u8.min = 0 from by decide, show IntKind.u8.max = 255 from by decide] at h
  exact h
end Go.Proofs.Ythfcafllcgjepaa.Met
namespace Go.Proofs.Ythfcafllcgjepaa.Pure
open Go.RowKit Go.Proofs.Ythfcafllcgjepaa.Q Go.Proofs.YthfcafllcgjepaaW.PrintWords Go.Proofs.YthfcafllcgjepaaW.PrintLast Go.Proofs.YthfcafllcgjepaaW.PrintMore Go.Proofs.Ythfcafllcgjepaa.Met Go.Proofs.Ythfcafllcgjepaa.Feed
theorem MeterRuns : foghornlaw30_MeterRuns.Pure := by
  intro l0 l1 a2 h0 _ h2
  have b2 := u8_bounds h2
  obtain ⟨m, hm, m0, m1, m2⟩ : ∃ m : Int, mn (l0.length : Int) 300 = m ∧ 0 ≤ m ∧ m ≤ l0.length ∧ m ≤ 300 := by
    refine ⟨_, rfl, ?_, ?_, ?_⟩ <;> unfold mn <;> split <;> omega
  obtain ⟨a, ha⟩ : ∃ a, a = l0.take ((m : Int)).toNat := ⟨_, rfl⟩
  have hal : a.length ≤ 300 := by rw [ha, List.length_take]; omega
  obtain ⟨b, hb⟩ : ∃ b, b = copyOnto (List.replicate ((a.length : Int) : Int).toNat false) l1 := ⟨_, rfl⟩
  have hbl : b.length = a.length := by rw [hb, copyOnto_len, List.length_replicate]; omega
  obtain ⟨g, hgd, g0, g1⟩ : ∃ g : Int, Int.tmod (wrap64 a2) 40 = g ∧ 0 ≤ g ∧ g < 40 := by
    rw [wrap_id _ (by omega) (by omega)]
    exact ⟨_, rfl, Int.tmod_nonneg _ b2.1, Int.tmod_lt_of_pos _ (by decide)⟩
  have hgw : wrap64 (g + 1) = g + 1 := wrap_id _ (by omega) (by omega)
  have e1 : errs a b = (((C a b 0 a.length : Nat) : Int), ((F a b 0 a.length : Nat) : Int), 0) := by unfold errs; rw [if_pos ⟨by omega, hbl.symm⟩]
  have e2 : errs b a = (((C a b 0 a.length : Nat) : Int), ((F a b 0 a.length : Nat) : Int), 0) := by unfold errs; rw [if_pos ⟨by omega, hbl⟩, hbl, C_comm, F_comm]
  have r1 : allRuns a b g = (runs a b g 0 a.length [], 0) := by unfold allRuns; rw [if_pos ⟨⟨by omega, hbl.symm⟩, g0⟩]
  have r2 : allRuns a b (g + 1) = (runs a b (g + 1) 0 a.length [], 0) := by unfold allRuns; rw [if_pos ⟨⟨by omega, hbl.symm⟩, by omega⟩]
  have i1 := errors_ev a b
  have i2 := errors_ev b a
  have i3 := runs_ev a b g
  have i4 := runs_ev a b (g + 1)
  rw [e1] at i1
  rw [e2] at i2
  rw [r1] at i3
  rw [r2] at i4
  have st0 : St a b g [] 0 := ⟨(fun r hr => by cases hr), List.Pairwise.nil⟩
  obtain ⟨s1, s2, s3⟩ := runs_all a b g g0 a.length 0 [] st0
  have hlen := (runs_len a b g a.length 0 [] Ok.nil).1
  have hwide := wide_le a b g a.length 0 [] [] (Nat.le_refl _) Iff.rfl rfl
  have hC := C_le a b a.length 0
  obtain ⟨L, hL⟩ : ∃ L, L = runs a b g 0 a.length [] := ⟨_, rfl⟩
  obtain ⟨N, hN⟩ : ∃ N : Int, N = ((C a b 0 a.length : Nat) : Int) := ⟨_, rfl⟩
  rw [← hL] at s1 s2 s3 hlen hwide i3
  rw [Nat.zero_add] at s1 hlen
  rw [← hN] at i1 i2 s2
  have hs2 : N = sumW L := by rw [s2]; show N = 0 + N; omega
  have hpos := sum_pos L s1.one
  have hzero : (N == 0) = ((L.length : Int) == 0) := by
    by_cases q : L = []
    · rw [q] at hs2 ⊢
      rw [hs2]; rfl
    · have := hpos.2 q
      have : 0 < L.length := List.length_pos_iff.2 q
      rw [beq_eq_false_iff_ne.2 (show N ≠ 0 by omega), beq_eq_false_iff_ne.2 (show (L.length : Int) ≠ 0 by omega)]
  have fin_ : Ev (fun k => foghornlaw30_MeterRuns.j0 k a b g N L false) true :=
    Ev.stepTo _ (fun k _ => by rw [foghornlaw30_MeterRuns.j0, if_neg (by decide)]; rfl) (mr_l0 a b hbl hal g ⟨g0, g1⟩ L s1 (by omega) N hs2 (by omega) L.length 0 0 (-1000) (by omega) (by rw [List.drop_zero, hs2]; omega) (Int.le_refl 0) ⟨by omega, by omega⟩ (fun r hr => by have := (s1.one r (by rw [List.drop_zero] at hr; exact hr)).1; omega))
  refine Ev.rounds (g := fun k => foghornlaw30_MeterRuns.f k l0 l1 a2) ?_
  refine Ev.congr (fun k => by rw [foghornlaw30_MeterRuns.f, hm, ← ha, if_pos m0, if_pos m1, if_pos (by omega), if_pos (by omega), ← hb, Option.bind_some, hgd, hgw]) ?_
  refine Ev.bind i1 (Ev.bind i2 (Ev.bind i3 (Ev.bind i4 ?_)))
  refine Ev.congr (f := fun k => foghornlaw30_MeterRuns.j0 k a b g N L false) (fun k => ?_) fin_
  rw [if_pos rfl, if_pos rfl, if_pos rfl, if_pos rfl, if_pos rfl, if_pos rfl, if_neg (show ¬ (((runs a b (g + 1) 0 a.length []).length : Nat) : Int) > ((L.length : Nat) : Int) by omega), if_neg (by rw [hzero, bne_self_eq_false]; decide)]
  by_cases q : (L.length : Int) > 0
  · have hne : L ≠ [] := fun e => by rw [e] at q; exact absurd q (by decide)
    have hsp := hpos.2 hne
    rw [if_pos q, if_pos (by omega)]
    have hh : (rd_T49 L 0).f0 = ((F a b 0 a.length : Nat) : Int) := by
      have h1 : hd L = (rd_T49 L 0).f0 := by
        cases L with
        | nil => exact absurd rfl hne
        | cons x t => rfl
      rw [← h1, s3, if_pos rfl, if_neg (by omega)]
    rw [hh, bne_self_eq_false]
  · rw [if_neg q]
end Go.Proofs.Ythfcafllcgjepaa.Pure
