import Derived.Test.YthfcafllcgjepaaFeedbackReachFeed2
import Derived.Test.YthfcafllcgjepaaFeedbackReachF1
/- FeedbackEchoes: taps, what numbers become. -/
namespace Go.Proofs.Ythfcafllcgjepaa.Feed
open Ieee Go.RowKit Go.Proofs.Ythfcafllcgjepaa.Q Go.Proofs.YthfcafllcgjepaaW.PrintWords Go.Proofs.YthfcafllcgjepaaW.PrintLast Go.Proofs.YthfcafllcgjepaaW.PrintMore Go.Proofs.Ythfcafllcgjepaa.Flt
theorem eq_self {x : Nat} (h : fin x) : (FloatKind.f64.format.order x x == some .eq) = true := by rw [eq_fin h h]; exact decide_eq_true rfl
theorem same_l0 (l : List (Nat × Nat)) (hl : l.length ≤ 12000000000000) (hf : ∀ z ∈ l, Fin2 z) (d : Nat) : ∀ (i : Nat), i + d = l.length → Ev (fun k => foghornref11_Same.l0 k l l (i : Int)) true := by
  induction d with
  | zero =>
    intro i hi
    exact Ev.stepTo _ (fun k _ => by rw [foghornref11_Same.l0, if_neg (by omega)]) (Ev.now _)
  | succ d ih =>
    intro i hi
    have hil : i < l.length := by omega
    have h := hf _ (List.getElem_mem hil)
    exact Ev.stepTo _ (fun k _ => by rw [foghornref11_Same.l0, if_pos (by omega), if_pos (by omega), if_pos (by omega), rd_nat _ _ _ hil, eq_self h.1, eq_self h.2, if_neg (by decide), wrap_id _ (by omega) (by omega), show ((i : Int) + 1) = ((i + 1 : Nat) : Int) from by omega]) (ih (i + 1) (by omega))
theorem same (l : List (Nat × Nat)) (hl : l.length ≤ 12000000000000) (hf : ∀ z ∈ l, Fin2 z) : Ev (fun k => foghornref11_Same.f k l l) true :=
  Ev.congr (fun k => by rw [foghornref11_Same.f, if_pos rfl]; rfl) (same_l0 l hl hf l.length 0 (by omega))
theorem fresh_l1 (r : List (Nat × Nat)) (hl : r.length ≤ 65536) (hf : ∀ z ∈ r, Fin2 z) (d : Nat) : ∀ (i : Nat) (o : List (Nat × Nat)), i + d = 20 → o.length = r.length + i → Ev (fun k => foghornlaw11_fresh.l1 k o r r (i : Int)) true := by
  induction d with
  | zero =>
    intro i o hi ho
    refine Ev.stepTo _ (fun k _ => by rw [foghornlaw11_fresh.l1, if_neg (by omega)]) (Ev.bind (same r (by omega) hf) (Ev.congr (fun k => ?_) (Ev.now _)))
    rw [if_pos rfl, wrap_id _ (by omega) (by omega), show (o.length : Int) = (r.length : Int) + 20 by omega, beq_self_eq_true]
  | succ d ih =>
    intro i o hi ho
    exact Ev.stepTo _ (fun k _ => by rw [foghornlaw11_fresh.l1, if_pos (by omega), if_pos (by omega), wrap_id _ (by omega) (by omega), show ((i : Int) + 1) = ((i + 1 : Nat) : Int) from by omega]) (ih (i + 1) _ (by omega) (by rw [List.length_append]; simp; omega))
theorem fresh_l0 (r : List (Nat × Nat)) (hl : r.length ≤ 65536) (hf : ∀ z ∈ r, Fin2 z) (d : Nat) : ∀ (i : Nat) (o : List (Nat × Nat)), i + d = r.length → o.length = r.length → Ev (fun k => foghornlaw11_fresh.l0 k o r r (i : Int)) true := by
  induction d with
  | zero =>
    intro i o hi ho
    exact Ev.stepTo _ (fun k _ => by rw [foghornlaw11_fresh.l0, if_neg (by omega)]; rfl) (fresh_l1 r hl hf 20 0 o rfl (by omega))
  | succ d ih =>
    intro i o hi ho
    exact Ev.stepTo _ (fun k _ => by rw [foghornlaw11_fresh.l0, if_pos (by omega), if_pos (by omega), wrap_id _ (by omega) (by omega), show ((i : Int) + 1) = ((i + 1 : Nat) : Int) from by omega]) (ih (i + 1) _ (by omega) (by rw [List.length_set]; exact ho))
theorem fresh (r : List (Nat × Nat)) (hl : r.length ≤ 65536) (hf : ∀ z ∈ r, Fin2 z) : Ev (fun k => foghornlaw11_fresh.f k r r r) true := by
  have hs := same r (by omega) hf
  refine Ev.congr (fun k => by rw [foghornlaw11_fresh.f]) (Ev.bind hs (Ev.congr (fun k => by rw [if_pos rfl]) (Ev.bind hs ?_)))
  exact Ev.stepTo _ (fun k _ => by rw [foghornlaw11_fresh.j0, if_neg (by decide)]; rfl) (fresh_l0 r hl hf r.length 0 r (by omega) rfl)
def rot : Nat → Int × Int → Int × Int
  | 0, z => z
  | n + 1, z => rot n (z.2, -z.1)
def tor : Nat → Int × Int → Int × Int
  | 0, z => z
  | n + 1, z => tor n (-z.2, z.1)
theorem turned (n : Nat) (hn : n ≤ 4) (d : Nat) : ∀ (i : Nat) (z : Nat × Nat) (p : Int × Int), i + d = n → Is z.1 p.1 6 → Is z.2 p.2 6 → ∃ r, Ev (fun k => feedback_turned.l0 k z (n : Int) (i : Int)) r ∧ Is r.1 (rot d p).1 6 ∧ Is r.2 (rot d p).2 6 := by
  induction d with
  | zero =>
    intro i z p hi h1 h2
    exact ⟨z, Ev.stepTo _ (fun k _ => by rw [feedback_turned.l0, if_neg (by omega)]) (Ev.now _), h1, h2⟩
  | succ d ih =>
    intro i z p hi h1 h2
    obtain ⟨r, h3, h4⟩ := ih (i + 1) (z.2, Op.negFloat .f64 z.1) (p.2, -p.1) (by omega) h2 h1.neg
    exact ⟨r, Ev.stepTo _ (fun k _ => by rw [feedback_turned.l0, if_pos (by omega), wrap_id _ (by omega) (by omega), show ((i : Int) + 1) = ((i + 1 : Nat) : Int) from by omega]) h3, h4⟩
theorem turnedTo (n : Nat) (hn : n ≤ 4) (d : Nat) : ∀ (i : Nat) (z : Nat × Nat) (p : Int × Int), i + d = n → Is z.1 p.1 6 → Is z.2 p.2 6 → ∃ r, Ev (fun k => foghornref11_Turn.l0 k z (n : Int) (i : Int)) r ∧ Is r.1 (tor d p).1 6 ∧ Is r.2 (tor d p).2 6 := by
  induction d with
  | zero =>
    intro i z p hi h1 h2
    exact ⟨z, Ev.stepTo _ (fun k _ => by rw [foghornref11_Turn.l0, if_neg (by omega)]) (Ev.now _), h1, h2⟩
  | succ d ih =>
    intro i z p hi h1 h2
    obtain ⟨r, h3, h4⟩ := ih (i + 1) (Op.negFloat .f64 z.2, z.1) (-p.2, p.1) (by omega) h2.neg h1
    exact ⟨r, Ev.stepTo _ (fun k _ => by rw [foghornref11_Turn.l0, if_pos (by omega), wrap_id _ (by omega) (by omega), show ((i : Int) + 1) = ((i + 1 : Nat) : Int) from by omega]) h3, h4⟩
def good (p : Int × Int) : Prop := p.2 = 0 ∧ (p.1 = 64 ∨ p.1 = 32 ∨ p.1 = 16)
theorem first_l0 (z : Nat × Nat) (p : Int × Int) (h1 : Is z.1 p.1 6) (h2 : Is z.2 p.2 6) (d : Nat) : ∀ (n : Nat), n + d = 4 → ∃ r, Ev (fun k => feedback_first.l0 k z (n : Int)) r ∧ (r.2.2 = true ↔ ∃ m, n ≤ m ∧ m < 4 ∧ good (rot m p)) := by
  induction d with
  | zero =>
    intro n hn
    exact ⟨(0, 0, false), Ev.stepTo _ (fun k _ => by rw [feedback_first.l0, if_neg (by omega)]) (Ev.now _), fun h => absurd h (by decide), fun ⟨m, h3, h4, _⟩ => by omega⟩
  | succ d ih =>
    intro n hn
    obtain ⟨t, h3', h4, h5⟩ := turned n (by omega) n 0 z p (by omega) h1 h2
    have h3 : Ev (fun k => feedback_turned.f k z (n : Int)) t := h3'
    obtain ⟨r, h6, h7⟩ := ih (n + 1) (by omega)
    have step : ∀ (g : Nat → Option (Nat × Int × Bool)) (r : Nat × Int × Bool), (∀ k, g k = (if (FloatKind.f64.format.order t.2 0 == some .eq) = true then (if (FloatKind.f64.format.order t.1 4607182418800017408 == some .eq) = true then (some (t.1, (n : Int), true)) else (if (FloatKind.f64.format.order t.1 4602678819172646912 == some .eq) = true then (some (t.1, (n : Int), true)) else (if (FloatKind.f64.format.order t.1 4598175219545276416 == some .eq) = true then (some (t.1, (n : Int), true)) else (feedback_first.l0 k z (wrap64 ((n : Int) + 1)))))) else (feedback_first.l0 k z (wrap64 ((n : Int) + 1))))) → Ev g r → Ev (fun k => feedback_first.l0 k z (n : Int)) r := by
      intro g r hg h
      refine Ev.stepTo _ (fun k _ => by rw [feedback_first.l0, if_pos (by omega)]) (Ev.bind h3 (Ev.congr (fun k => (hg k).symm) h))
    have hz := h5.eq (is_zero 6)
    have ha := h4.eq is_one
    have hb := h4.eq is_half
    have hc := h4.eq is_quarter
    have yes : good (rot n p) → ∃ r, Ev (fun k => feedback_first.l0 k z (n : Int)) r ∧ (r.2.2 = true ↔ ∃ m, n ≤ m ∧ m < 4 ∧ good (rot m p)) := by
      rintro ⟨g1, g2⟩
      refine ⟨(t.1, (n : Int), true), step (fun _ => some (t.1, (n : Int), true)) _ (fun k => ?_) (Ev.now _), fun _ => ⟨n, Nat.le_refl n, by omega, g1, g2⟩, fun _ => rfl⟩
      rw [hz, ha, hb, hc, g1, if_pos (by decide)]
      rcases g2 with g | g | g <;> rw [g] <;> rfl
    by_cases hg : good (rot n p)
    · exact yes hg
    · refine ⟨r, step (fun k => feedback_first.l0 k z ((n + 1 : Nat) : Int)) _ (fun k => ?_) h6, h7.trans ⟨fun ⟨m, a, b, c⟩ => ⟨m, by omega, b, c⟩, fun ⟨m, a, b, c⟩ => ⟨m, ?_, b, c⟩⟩⟩
      · rw [wrap_id _ (by omega) (by omega), show ((n : Int) + 1) = ((n + 1 : Nat) : Int) from by omega, hz, ha, hb, hc]
        by_cases e0 : (rot n p).2 = 0
        · rw [if_pos (decide_eq_true e0), if_neg, if_neg, if_neg]
          · rw [decide_eq_true_iff]; exact fun h => hg ⟨e0, Or.inr (Or.inr h)⟩
          · rw [decide_eq_true_iff]; exact fun h => hg ⟨e0, Or.inr (Or.inl h)⟩
          · rw [decide_eq_true_iff]; exact fun h => hg ⟨e0, Or.inl h⟩
        · rw [if_neg (by rw [decide_eq_true_iff]; exact e0)]
      · rcases Nat.lt_or_ge n m with h | h
        · exact h
        · have : m = n := by omega
          subst this
          exact absurd c hg
theorem First_l1 (z : Nat × Nat) (p : Int × Int) (h1 : Is z.1 p.1 6) (h2 : Is z.2 p.2 6) (s : Nat) (σ : Int) (hs : Is s σ 6) (S : List Nat) (j : Int) (hj : 0 ≤ j ∧ j < 9) (d : Nat) : ∀ (n : Nat), n + d = 4 →
    ((∃ m, n ≤ m ∧ m < 4 ∧ tor m (σ, 0) = p) ∧ ∃ m : Int, Ev (fun k => foghornref11_First.l1 k z s (n : Int) S (S.length : Int) j) (s, m)) ∨
    ((¬ ∃ m, n ≤ m ∧ m < 4 ∧ tor m (σ, 0) = p) ∧ ∀ r, Ev (fun k => foghornref11_First.l0 k z S (S.length : Int) (j + 1)) r → Ev (fun k => foghornref11_First.l1 k z s (n : Int) S (S.length : Int) j) r) := by
  induction d with
  | zero =>
    intro n hn
    refine Or.inr ⟨fun ⟨m, h3, h4, _⟩ => by omega, fun r h => Ev.stepTo _ (fun k _ => by rw [foghornref11_First.l1, if_neg (by omega), wrap_id _ (by omega) (by omega)]) h⟩
  | succ d ih =>
    intro n hn
    obtain ⟨t, h3', h4, h5⟩ := turnedTo n (by omega) n 0 (s, 0) (σ, 0) (by omega) hs (is_zero 6)
    have h3 : Ev (fun k => foghornref11_Turn.f k (s, 0) (n : Int)) t := h3'
    have ha := h4.eq h1
    have hb := h5.eq h2
    by_cases hg : tor n (σ, 0) = p
    · refine Or.inl ⟨⟨n, Nat.le_refl n, by omega, hg⟩, (n : Int), Ev.stepTo _ (fun k _ => by rw [foghornref11_First.l1, if_pos (by omega)]) (Ev.bind h3 (Ev.congr (fun k => ?_) (Ev.now _)))⟩
      rw [ha, hb, hg, if_pos (by simp)]
    · have next : ∀ r, Ev (fun k => foghornref11_First.l1 k z s ((n + 1 : Nat) : Int) S (S.length : Int) j) r → Ev (fun k => foghornref11_First.l1 k z s (n : Int) S (S.length : Int) j) r := by
        intro r h
        refine Ev.stepTo _ (fun k _ => by rw [foghornref11_First.l1, if_pos (by omega)]) (Ev.bind h3 (Ev.congr (fun k => ?_) h))
        rw [ha, hb, if_neg, wrap_id _ (by omega) (by omega), show ((n : Int) + 1) = ((n + 1 : Nat) : Int) from by omega]
        rw [Bool.and_eq_true, decide_eq_true_iff, decide_eq_true_iff]
        exact fun h => hg (Prod.ext h.1 h.2)
      have same : (∃ m, n + 1 ≤ m ∧ m < 4 ∧ tor m (σ, 0) = p) ↔ ∃ m, n ≤ m ∧ m < 4 ∧ tor m (σ, 0) = p := by
        refine ⟨fun ⟨m, a, b, c⟩ => ⟨m, by omega, b, c⟩, fun ⟨m, a, b, c⟩ => ⟨m, ?_, b, c⟩⟩
        rcases Nat.lt_or_ge n m with h | h
        · exact h
        · have : m = n := by omega
          subst this
          exact absurd c hg
      rcases ih (n + 1) (by omega) with ⟨h6, m, h7⟩ | ⟨h6, h7⟩
      · exact Or.inl ⟨same.1 h6, m, next _ h7⟩
      · exact Or.inr ⟨mt same.2 h6, fun r h => next r (h7 r h)⟩
theorem First_ev (z : Nat × Nat) (p : Int × Int) (h1 : Is z.1 p.1 6) (h2 : Is z.2 p.2 6) : ∃ r σ, Ev (fun k => foghornref11_First.f k z) r ∧ Is r.1 σ 6 ∧ (σ ≠ 0 ↔ ∃ s : Int, (s = 64 ∨ s = 32 ∨ s = 16) ∧ ∃ m, 0 ≤ m ∧ m < 4 ∧ tor m (s, 0) = p) := by
  obtain ⟨S, hS⟩ : ∃ S, S = ([4607182418800017408, 4602678819172646912, 4598175219545276416] : List Nat) := ⟨_, rfl⟩
  have hl : S.length = 3 := by rw [hS]; rfl
  have l0 : ∀ (j : Nat) (hj : j < 3) (r : Nat × Int), Ev (fun k => foghornref11_First.l1 k z (rdOf 0 S (j : Int)) 0 S (S.length : Int) (j : Int)) r → Ev (fun k => foghornref11_First.l0 k z S (S.length : Int) (j : Int)) r := fun j hj r h =>
    Ev.stepTo _ (fun k _ => by rw [foghornref11_First.l0, if_pos (by omega), if_pos (by omega), if_pos (by omega)]) h
  have go : ∀ r, Ev (fun k => foghornref11_First.l0 k z S (S.length : Int) 0) r → Ev (fun k => foghornref11_First.f k z) r := fun r h =>
    Ev.congr (fun k => by rw [foghornref11_First.f, ← hS, Option.bind_some]) h
  have e0 : rdOf 0 S ((0 : Nat) : Int) = 4607182418800017408 := by rw [hS]; rfl
  have e1 : rdOf 0 S ((1 : Nat) : Int) = 4602678819172646912 := by rw [hS]; rfl
  have e2 : rdOf 0 S ((2 : Nat) : Int) = 4598175219545276416 := by rw [hS]; rfl
  have l00 := l0 0 (by decide)
  have l01 := l0 1 (by decide)
  have l02 := l0 2 (by decide)
  rw [e0] at l00
  rw [e1] at l01
  rw [e2] at l02
  rcases First_l1 z p h1 h2 _ 64 is_one S 0 (by decide) 4 0 rfl with ⟨g0, m, k0⟩ | ⟨g0, k0⟩
  · exact ⟨_, 64, go _ (l00 _ k0), is_one, fun _ => ⟨64, Or.inl rfl, g0⟩, fun _ => by decide⟩
  rcases First_l1 z p h1 h2 _ 32 is_half S 1 (by decide) 4 0 rfl with ⟨g1, m, k1⟩ | ⟨g1, k1⟩
  · exact ⟨_, 32, go _ (l00 _ (k0 _ (l01 _ k1))), is_half, fun _ => ⟨32, Or.inr (Or.inl rfl), g1⟩, fun _ => by decide⟩
  rcases First_l1 z p h1 h2 _ 16 is_quarter S 2 (by decide) 4 0 rfl with ⟨g2, m, k2⟩ | ⟨g2, k2⟩
  · exact ⟨_, 16, go _ (l00 _ (k0 _ (l01 _ (k1 _ (l02 _ k2))))), is_quarter, fun _ => ⟨16, Or.inr (Or.inr rfl), g2⟩, fun _ => by decide⟩
  refine ⟨(0, 0), 0, go _ (l00 _ (k0 _ (l01 _ (k1 _ (l02 _ (k2 _ (Ev.stepTo _ (fun k _ => by rw [foghornref11_First.l0, if_neg (by omega)]) (Ev.now _)))))))), is_zero 6, fun h => absurd rfl h, ?_⟩
  rintro ⟨s, rfl | rfl | rfl, h⟩
  · exact absurd h g0
  · exact absurd h g1
  · exact absurd h g2
theorem four {m : Nat} (h : m < 4) : m = 0 ∨ m = 1 ∨ m = 2 ∨ m = 3 := by omega
theorem firsts (p : Int × Int) : (∃ m, 0 ≤ m ∧ m < 4 ∧ good (rot m p)) ↔ ∃ s : Int, (s = 64 ∨ s = 32 ∨ s = 16) ∧ ∃ m, 0 ≤ m ∧ m < 4 ∧ tor m (s, 0) = p := by
  obtain ⟨a, b⟩ := p
  constructor
  · rintro ⟨m, _, hm, h⟩
    refine ⟨(rot m (a, b)).1, h.2, m, Nat.zero_le _, hm, ?_⟩
    have h2 := h.1
    rcases four hm with rfl | rfl | rfl | rfl
    · simp only [rot, tor] at h2 ⊢; rw [h2]
    · simp only [rot, tor] at h2 ⊢; ext <;> simp <;> omega
    · simp only [rot, tor] at h2 ⊢; ext <;> simp <;> omega
    · simp only [rot, tor] at h2 ⊢; ext <;> simp <;> omega
  · rintro ⟨s, hs, m, _, hm, h⟩
    refine ⟨m, Nat.zero_le _, hm, ?_⟩
    rw [← h]
    have key : rot m (tor m (s, 0)) = (s, 0) := by
      rcases four hm with rfl | rfl | rfl | rfl <;> simp [rot, tor]
    rw [key]
    exact ⟨rfl, hs⟩
theorem check (t : List (Nat × Nat)) (hw : ∀ z ∈ t, Word z) (htl : t.length ≤ 12000000000000) : ∃ e, Ev (fun k => feedback_Check.f k t) e ∧ Ev (fun k => foghornref11_Check.f k t) e := by
  obtain ⟨b, h1, h2⟩ := ftaps t hw htl
  obtain ⟨c, h3, h4⟩ := rtaps t
  have hb : c = b := Bool.eq_iff_iff.2 (h4.trans h2.symm)
  subst hb
  cases c with
  | false => exact ⟨8, Ev.congr (fun k => by rw [feedback_Check.f]) (Ev.bind h1 (Ev.congr (fun k => by rw [if_neg (by decide)]) (Ev.now _))), Ev.congr (fun k => by rw [foghornref11_Check.f]) (Ev.bind h3 (Ev.congr (fun k => by rw [if_neg (by decide)]) (Ev.now _)))⟩
  | true =>
    have hT := h2.1 rfl
    have h0 := hT.2.1
    have hr : rdOf (0, 0) t 0 = t[0] := rd_nat (0, 0) t 0 h0
    obtain ⟨⟨p, p1, _⟩, ⟨q, q1, _⟩⟩ := hT.1 _ (List.getElem_mem h0)
    obtain ⟨r, f1, f2⟩ := first_l0 t[0] (p, q) p1 q1 4 0 rfl
    obtain ⟨s, σ, f3, f4, f5⟩ := First_ev t[0] (p, q) p1 q1
    have f6 := (f2.trans (firsts (p, q))).trans f5.symm
    have hz := f4.eq (is_zero 6)
    by_cases hσ : σ = 0
    · refine ⟨110, Ev.congr (fun k => by rw [feedback_Check.f]) (Ev.bind h1 (Ev.congr (fun k => by rw [if_pos rfl, if_pos (by omega), hr]) (Ev.bind (g := fun k => feedback_first.f k t[0]) f1 (Ev.congr (fun k => by rw [if_neg (fun h => f6.1 h hσ)]) (Ev.now _))))), Ev.congr (fun k => by rw [foghornref11_Check.f]) (Ev.bind h3 (Ev.congr (fun k => by rw [if_pos rfl, if_pos (by omega), hr]) (Ev.bind f3 (Ev.congr (fun k => by rw [hz, if_pos (decide_eq_true hσ)]) (Ev.now _)))))⟩
    · refine ⟨0, Ev.congr (fun k => by rw [feedback_Check.f]) (Ev.bind h1 (Ev.congr (fun k => by rw [if_pos rfl, if_pos (by omega), hr]) (Ev.bind (g := fun k => feedback_first.f k t[0]) f1 (Ev.congr (fun k => by rw [if_pos (f6.2 hσ)]) (Ev.now _))))), Ev.congr (fun k => by rw [foghornref11_Check.f]) (Ev.bind h3 (Ev.congr (fun k => by rw [if_pos rfl, if_pos (by omega), hr]) (Ev.bind f3 (Ev.congr (fun k => by rw [hz, if_neg (by rw [decide_eq_true_iff]; exact hσ)]) (Ev.now _)))))⟩
theorem swap_l0 (t : List (Nat × Nat)) (hw : ∀ z ∈ t, Word z) (htl : t.length ≤ 12000000000000) (n : Nat) (hn : n ≤ 12000000000000) (d : Nat) : ∀ (i : Nat) (x : List (Nat × Nat)), i + d = n → x.length = n → Ev (fun k => foghornlaw11_FeedbackEchoes.l0 k t x (i : Int)) true := by
  induction d with
  | zero =>
    intro i x hi hx
    obtain ⟨r, e, h1, h2, h3, h4⟩ := echo t x hw htl
    refine Ev.stepTo _ (fun k _ => by rw [foghornlaw11_FeedbackEchoes.l0, if_neg (by omega)]) ?_
    refine Ev.bind h4 ?_
    refine Ev.bind h3 ?_
    refine Ev.congr (fun k => by rw [if_pos rfl]) ?_
    exact Ev.bind (same r (by omega) h2) (Ev.now _)
  | succ d ih =>
    intro i x hi hx
    exact Ev.stepTo _ (fun k _ => by rw [foghornlaw11_FeedbackEchoes.l0, if_pos (by omega), if_pos (by omega), wrap_id _ (by omega) (by omega), show ((i : Int) + 1) = ((i + 1 : Nat) : Int) from by omega]) (ih (i + 1) _ (by omega) (by rw [List.length_set]; exact hx))
theorem rd_last (d : Nat × Nat) (xs : List (Nat × Nat)) (z : Nat × Nat) (n : Nat) (h : xs.length = n) : rdOf d (xs ++ [z]) (n : Int) = z := by
  subst h
  rw [rd_nat _ _ _ (by rw [List.length_append]; simp)]
  simp
theorem is_mark : Is 4651892959631900672 987 0 := Is.const (s := false) (m := 987 * 2 ^ 43) (e := -43) (by decide +kernel) 987 0 43 (by decide) (by decide)
theorem law (l0 : List S174) (l1 : List S146) (h0 : l0.length ≤ 6000000000000) (h1 : l1.length ≤ 12000000000000) (hw : ∀ x ∈ l1, ((Lit.int .i32 x.f0).wf = true) ∧ ((Lit.int .i32 x.f1).wf = true) ∧ True) : Ev (fun k => foghornlaw11_FeedbackEchoes.f k l0 l1) true := by
  obtain ⟨t, t1, t2, t3⟩ := law_taps l0 (by omega)
  obtain ⟨x, x1, x2, x3⟩ := law_numbers l1 (by omega) hw
  obtain ⟨r, e, r1, r2, r3, r4⟩ := echo t x t3 (by omega)
  obtain ⟨c, c1, c2⟩ := check t t3 (by omega)
  have hm : (!((FloatKind.f64.format.order 4651892959631900672 4651892959631900672 == some .eq) && (FloatKind.f64.format.order 0 0 == some .eq))) = false := by
    rw [eq_self is_mark.1, eq_self (is_zero 0).1]
    rfl
  refine Ev.congr (fun k => by rw [foghornlaw11_FeedbackEchoes.f]) ?_
  refine Ev.bind t1 ?_
  refine Ev.bind x1 ?_
  refine Ev.bind r4 ?_
  refine Ev.bind r3 ?_
  refine Ev.bind r3 ?_
  refine Ev.bind c1 ?_
  refine Ev.bind c2 ?_
  refine Ev.congr (fun k => by rw [if_pos rfl, if_pos rfl, if_pos rfl]) ?_
  refine Ev.bind (fresh r r1 r2) ?_
  refine Ev.congr (fun k => by
    rw [if_pos rfl, wrap_id _ (by omega) (by omega), if_pos (by omega), Option.bind_some, if_pos (by omega), if_pos (by rw [List.length_append]; simp; omega), rd_last _ _ _ _ t2, hm, if_neg (by decide), wrap_id _ (by omega) (by omega), if_pos (by omega), Option.bind_some, if_pos (by omega), if_pos (by rw [List.length_append]; simp; omega), rd_last _ _ _ _ x2, hm, if_neg (by decide)]) ?_
  refine Ev.bind x1 ?_
  refine Ev.bind (same x (by omega) (fun z hz => ⟨(x3 z hz).1.elim fun _ h => h.1, (x3 z hz).2.elim fun _ h => h.1⟩)) ?_
  exact Ev.stepTo _ (fun k _ => by rw [foghornlaw11_FeedbackEchoes.j0, if_neg (by decide)]; rfl) (swap_l0 t t3 (by omega) x.length (by omega) x.length 0 x (by omega) rfl)
end Go.Proofs.Ythfcafllcgjepaa.Feed
namespace Go.Proofs.Ythfcafllcgjepaa.Pure
open Go.Proofs.Ythfcafllcgjepaa.Q Go.Proofs.YthfcafllcgjepaaW.PrintWords
theorem FeedbackEchoes : foghornlaw11_FeedbackEchoes.Pure := by
  unfold foghornlaw11_FeedbackEchoes.Pure
  intro l0 l1 h0 h1
  exact (Feed.law l0 l1 (by have := h0.1; omega) (by have := h1.1; omega) h1.2).rounds
end Go.Proofs.Ythfcafllcgjepaa.Pure
