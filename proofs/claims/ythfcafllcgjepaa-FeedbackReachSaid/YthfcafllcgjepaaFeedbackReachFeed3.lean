import Derived.Test.YthfcafllcgjepaaFeedbackReachFeed2
import Derived.Test.YthfcafllcgjepaaFeedbackReachF1
/- Layer 11: what numbers become behind taps, in whole steps. -/
namespace Go.Proofs.Ythfcafllcgjepaa.Feed
open Ieee Go.RowKit Go.Proofs.Ythfcafllcgjepaa.Q Go.Proofs.YthfcafllcgjepaaW.PrintWords Go.Proofs.YthfcafllcgjepaaW.PrintLast Go.Proofs.YthfcafllcgjepaaW.PrintMore Go.Proofs.Ythfcafllcgjepaa.Flt
def IsZ (z : Nat × Nat) (p : Int × Int) (k : Nat) : Prop := Is z.1 p.1 k ∧ Is z.2 p.2 k
def mulZ (p q : Int × Int) : Int × Int := (p.1 * q.1 - p.2 * q.2, p.1 * q.2 + p.2 * q.1)
def addZ (p q : Int × Int) : Int × Int := (p.1 + q.1, p.2 + q.2)
def Box (B : Nat) (p : Int × Int) : Prop := p.1.natAbs ≤ B ∧ p.2.natAbs ≤ B
def xat (X : List (Int × Int)) (n j : Nat) : Int × Int := if j ≤ n then X.getD (n - j) (0, 0) else (0, 0)
def convZ (T X : List (Int × Int)) (n : Nat) : Nat → Nat → Int × Int
  | 0, _ => (0, 0)
  | d + 1, j => addZ (mulZ (T.getD j (0, 0)) (xat X n j)) (convZ T X n d (j + 1))
structure Ints (k B : Nat) (t : List (Nat × Nat)) (T : List (Int × Int)) : Prop where
  len : T.length = t.length
  is : ∀ i (h : i < t.length), IsZ t[i] (T.getD i (0, 0)) k ∧ Box B (T.getD i (0, 0))
theorem Ints.of {k B : Nat} : ∀ (t : List (Nat × Nat)), (∀ z ∈ t, On k B z.1 ∧ On k B z.2) → ∃ T, Ints k B t T
  | [], _ => ⟨[], rfl, fun i h => by cases h⟩
  | z :: r, h => by
    obtain ⟨T, h1, h2⟩ := Ints.of r (fun y hy => h y (List.mem_cons_of_mem _ hy))
    obtain ⟨⟨a, a1, a2⟩, ⟨b, b1, b2⟩⟩ := h z (List.mem_cons_self ..)
    refine ⟨(a, b) :: T, by rw [List.length_cons, List.length_cons, h1], fun i hi => ?_⟩
    cases i with
    | zero => exact ⟨⟨a1, b1⟩, a2, b2⟩
    | succ i => exact h2 i (by rw [List.length_cons] at hi; omega)
theorem Ints.on {k B : Nat} {t : List (Nat × Nat)} {T : List (Int × Int)} (h : Ints k B t T) : ∀ z ∈ t, On k B z.1 ∧ On k B z.2 := fun z hz => by
  obtain ⟨i, hi, rfl⟩ := List.getElem_of_mem hz
  obtain ⟨⟨a1, a2⟩, b1, b2⟩ := h.is i hi
  exact ⟨⟨_, a1, b1⟩, ⟨_, a2, b2⟩⟩
theorem times_Z {z w : Nat × Nat} {p q : Int × Int} (hz : IsZ z p 6) (hp : Box 64 p) (hw : IsZ w q 12) (hq : Box 4194304 q) : ∃ u, feedback_times.f z w = some u ∧ foghornref11_mul.f z w = some u ∧ IsZ u (mulZ p q) 18 ∧ Box 536870912 (mulZ p q) := by
  obtain ⟨p1, p2⟩ := hz
  obtain ⟨r1, s1⟩ := hw
  have b1 := nabs_mul hp.1 hq.1
  have b2 := nabs_mul hp.2 hq.2
  have b3 := nabs_mul hp.1 hq.2
  have b4 := nabs_mul hp.2 hq.1
  obtain ⟨x1, e1, i1⟩ := p1.mul r1 (by omega) (by decide)
  obtain ⟨x2, e2, i2⟩ := p2.mul s1 (by omega) (by decide)
  obtain ⟨x3, e3, i3⟩ := i1.sub i2 (by omega)
  obtain ⟨x4, e4, i4⟩ := p1.mul s1 (by omega) (by decide)
  obtain ⟨x5, e5, i5⟩ := p2.mul r1 (by omega) (by decide)
  obtain ⟨x6, e6, i6⟩ := i4.add i5 (by omega)
  refine ⟨(x3, x6), ?_, ?_, ⟨i3, i6⟩, by unfold Box mulZ; constructor <;> dsimp only <;> omega⟩
  · rw [feedback_times.f, e1, Option.bind_some, e2, Option.bind_some, e3, Option.bind_some, e4, Option.bind_some, e5, Option.bind_some, e6, Option.bind_some]
  · rw [foghornref11_mul.f, e1, Option.bind_some, e2, Option.bind_some, e3, Option.bind_some, e4, Option.bind_some, e5, Option.bind_some, e6, Option.bind_some]
theorem addZ_assoc (a b c : Int × Int) : addZ (addZ a b) c = addZ a (addZ b c) := by
  unfold addZ
  exact Prod.ext (by dsimp only; omega) (by dsimp only; omega)
theorem addZ_zero (a : Int × Int) : addZ a (0, 0) = a := by
  unfold addZ
  exact Prod.ext (by dsimp only; omega) (by dsimp only; omega)
theorem mulZ_zero (a : Int × Int) : mulZ a (0, 0) = (0, 0) := by
  unfold mulZ
  simp
theorem xat_of {X : List (Int × Int)} {n j : Nat} (h : j ≤ n) : xat X n j = X.getD (n - j) (0, 0) := if_pos h
theorem conv_more (T X : List (Int × Int)) (n : Nat) : ∀ (d j e : Nat), n + 1 ≤ j + d → convZ T X n (d + e) j = convZ T X n d j := by
  intro d
  induction d with
  | zero =>
    intro j e h
    induction e generalizing j with
    | zero => rfl
    | succ e ih =>
      show addZ (mulZ (T.getD j (0, 0)) (xat X n j)) (convZ T X n (0 + e) (j + 1)) = (0, 0)
      rw [ih (j + 1) (by omega), xat, if_neg (by omega), mulZ_zero]
      rfl
  | succ d ih =>
    intro j e h
    rw [show d + 1 + e = (d + e) + 1 by omega, convZ, convZ, ih (j + 1) e (by omega)]
def echoZ (T X : List (Int × Int)) (n : Nat) : Int × Int := convZ T X n T.length 0
theorem echo_min (T X : List (Int × Int)) (n : Nat) : convZ T X n (min T.length (n + 1)) 0 = echoZ T X n := by
  unfold echoZ
  by_cases h : T.length ≤ n + 1
  · rw [Nat.min_eq_left h]
  · obtain ⟨e, he⟩ : ∃ e, T.length = (n + 1) + e := ⟨T.length - (n + 1), by omega⟩
    rw [Nat.min_eq_right (by omega), he, conv_more T X n (n + 1) 0 e (by omega)]
theorem echoZ_l2 {t x : List (Nat × Nat)} {T X : List (Int × Int)} (ht : Ints 6 64 t T) (hx : Ints 12 4194304 x X) (htl : t.length ≤ 64) (hxl : x.length ≤ 65536) (n : Nat) (hn : n < x.length) (m : Nat) (hm : m = min t.length (n + 1)) (d : Nat) :
    ∀ (j a b : Nat) (P : Int × Int), j + d = m → IsZ (a, b) P 18 → Box (j * 536870912) P → ∃ a' b', IsZ (a', b') (addZ P (convZ T X n d j)) 18 ∧
      (∀ o r, o.length < 8796093022208 → Ev (fun k => feedback_Echo.l1 k t x (o ++ [(a', b')]) (x.length : Int) ((n + 1 : Nat) : Int)) r → Ev (fun k => feedback_Echo.l2 k t x o (n : Int) a b (x.length : Int) (n : Int) (t.take m) (m : Int) (j : Int)) r) := by
  induction d with
  | zero =>
    intro j a b P hj hab _
    refine ⟨a, b, by rw [convZ, addZ_zero]; exact hab, fun o r ho h => Ev.stepTo _ (fun k _ => by rw [feedback_Echo.l2, if_neg (by omega), if_pos ho, wrap_id _ (by omega) (by omega), show ((n : Int) + 1) = ((n + 1 : Nat) : Int) from by omega]) h⟩
  | succ d ih =>
    intro j a b P hj hab hP
    have hjt : j < t.length := by omega
    have hjx : n - j < x.length := by omega
    have e0 : (n : Int) - (j : Int) = ((n - j : Nat) : Int) := by omega
    obtain ⟨t1, t2⟩ := ht.is j hjt
    obtain ⟨x1, x2⟩ := hx.is (n - j) hjx
    obtain ⟨⟨u, v⟩, h1, _, ⟨h3, h4⟩, h5, h6⟩ := times_Z t1 t2 x1 x2
    have hP1 := hP.1
    have hP2 := hP.2
    obtain ⟨a2, e1, i1⟩ := Is.add (x := a) hab.1 h3 (by omega)
    obtain ⟨b2, e2, i2⟩ := Is.add (x := b) hab.2 h4 (by omega)
    obtain ⟨a', b', h7, h8⟩ := ih (j + 1) a2 b2 (addZ P (mulZ (T.getD j (0, 0)) (X.getD (n - j) (0, 0)))) (by omega) ⟨i1, i2⟩ ⟨by unfold addZ; dsimp only; omega, by unfold addZ; dsimp only; omega⟩
    refine ⟨a', b', ?_, fun o r ho h => Ev.stepTo _ (fun k _ => ?_) (h8 o r ho h)⟩
    · rw [convZ, xat_of (by omega), ← addZ_assoc]; exact h7
    · rw [feedback_Echo.l2, if_pos (by omega), if_pos (by omega), if_pos (by rw [List.length_take]; omega), wrap_id _ (by omega) (by omega), if_pos (by omega), if_pos (by omega), rd_take _ _ _ _ (by omega) hjt, e0, rd_nat _ _ _ hjx, h1, Option.bind_some, e1, Option.bind_some, e2, Option.bind_some, wrap_id _ (by omega) (by omega), show ((j : Int) + 1) = ((j + 1 : Nat) : Int) from by omega]
def Made (T X : List (Int × Int)) (o : List (Nat × Nat)) : Prop := ∀ i (h : i < o.length), IsZ o[i] (echoZ T X i) 18
theorem Made.app {T X : List (Int × Int)} {o : List (Nat × Nat)} {z : Nat × Nat} (h : Made T X o) (hz : IsZ z (echoZ T X o.length) 18) : Made T X (o ++ [z]) := fun i hi => by
  by_cases c : i < o.length
  · rw [List.getElem_append_left c]; exact h i c
  · have : i = o.length := by rw [List.length_append] at hi; simp at hi; omega
    subst this
    rw [List.getElem_append_right (Nat.le_refl _)]
    simpa using hz
theorem echoZ_l1 {t x : List (Nat × Nat)} {T X : List (Int × Int)} (ht : Ints 6 64 t T) (hx : Ints 12 4194304 x X) (htl : t.length ≤ 64) (hxl : x.length ≤ 65536) (d : Nat) :
    ∀ (i : Nat) (o : List (Nat × Nat)), i + d = x.length → o.length = i → Made T X o → ∃ r, r.length = x.length ∧ Made T X r ∧ Ev (fun k => feedback_Echo.l1 k t x o (x.length : Int) (i : Int)) (r, 0) := by
  induction d with
  | zero =>
    intro i o hi ho hf
    exact ⟨o, by omega, hf, Ev.stepTo _ (fun k _ => by rw [feedback_Echo.l1, if_neg (by omega)]) (Ev.now _)⟩
  | succ d ih =>
    intro i o hi ho hf
    obtain ⟨a, b, h1, h2⟩ := echoZ_l2 ht hx htl hxl i (by omega) (min t.length (i + 1)) rfl (min t.length (i + 1)) 0 0 0 (0, 0) (by omega) ⟨is_zero 18, is_zero 18⟩ ⟨by decide, by decide⟩
    have h3 : IsZ (a, b) (echoZ T X o.length) 18 := by
      rw [ho, ← echo_min, ht.len]
      have e : addZ (0, 0) (convZ T X i (min t.length (i + 1)) 0) = convZ T X i (min t.length (i + 1)) 0 := by unfold addZ; exact Prod.ext (by dsimp only; omega) (by dsimp only; omega)
      rw [e] at h1
      exact h1
    obtain ⟨r, h4, h5, h6⟩ := ih (i + 1) (o ++ [(a, b)]) (by omega) (by rw [List.length_append]; simp; omega) (hf.app h3)
    refine ⟨r, h4, h5, Ev.stepTo _ (fun k _ => ?_) (h2 o _ (by omega) h6)⟩
    rw [feedback_Echo.l1, if_pos (by omega), wrap_id _ (by omega) (by omega), show ((i : Int) + 1) = ((i + 1 : Nat) : Int) from by omega, mn_nat, if_pos (by omega), if_pos (by omega), Int.toNat_natCast, List.length_take, Nat.min_eq_left (Nat.min_le_left _ _)]
    rfl
theorem echoZ_l0 {t x : List (Nat × Nat)} {T X : List (Int × Int)} (ht : Ints 6 64 t T) (hx : Ints 12 4194304 x X) (htl : t.length ≤ 64) (hxl : x.length ≤ 65536) (d : Nat) :
    ∀ (i : Nat), i + d = x.length → ∃ r, r.length = x.length ∧ Made T X r ∧ Ev (fun k => feedback_Echo.l0 k t x x (x.length : Int) (i : Int)) (r, 0) := by
  induction d with
  | zero =>
    intro i hi
    obtain ⟨r, h1, h2, h3⟩ := echoZ_l1 ht hx htl hxl x.length 0 [] (by omega) rfl (fun i h => by cases h)
    refine ⟨r, h1, h2, Ev.stepTo _ (fun k _ => ?_) h3⟩
    rw [feedback_Echo.l0, if_neg (by omega), if_pos (by omega), if_pos (by omega)]
    rfl
  | succ d ih =>
    intro i hi
    have hil : i < x.length := by omega
    obtain ⟨g1, g2⟩ := hx.on _ (List.getElem_mem hil)
    obtain ⟨b1, e1, k1⟩ := gOn x[i].1
    obtain ⟨b2, e2, k2⟩ := gOn x[i].2
    obtain rfl := k1.2 g1
    obtain rfl := k2.2 g2
    obtain ⟨r, h1, h2, h3⟩ := ih (i + 1) (by omega)
    exact ⟨r, h1, h2, Ev.stepTo _ (fun k _ => by rw [feedback_Echo.l0, if_pos (by omega), if_pos (by omega), if_pos (by omega), rd_nat _ _ _ hil, e1, Option.bind_some, if_pos rfl, e2, Option.bind_some, if_pos rfl, wrap_id _ (by omega) (by omega), show ((i : Int) + 1) = ((i + 1 : Nat) : Int) from by omega]) h3⟩
theorem echo_Z {t x : List (Nat × Nat)} {T X : List (Int × Int)} (hw : ∀ z ∈ t, Word z) (hT : Taps t) (ht : Ints 6 64 t T) (hx : Ints 12 4194304 x X) (hxl : x.length ≤ 65536) : ∃ r, r.length = x.length ∧ Made T X r ∧ Ev (fun k => feedback_Echo.f k t x) (r, 0) := by
  have hl := hT.2.2.1
  obtain ⟨b, h1, h2⟩ := ftaps t hw (by omega)
  obtain rfl := h2.2 hT
  obtain ⟨r, g1, g2, g3⟩ := echoZ_l0 ht hx hT.2.2.1 hxl x.length 0 (by omega)
  exact ⟨r, g1, g2, Ev.congr (fun k => by rw [feedback_Echo.f]) (Ev.bind h1 (Ev.congr (fun k => by rw [if_pos rfl, if_neg (by omega)]; rfl) g3))⟩
end Go.Proofs.Ythfcafllcgjepaa.Feed
