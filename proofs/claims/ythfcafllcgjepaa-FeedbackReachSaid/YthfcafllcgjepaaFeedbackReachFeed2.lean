import Derived.Test.YthfcafllcgjepaaFeedbackReachFeed1
import Derived.Laws.Bits64
import Derived.Test.YthfcafllcgjepaaFeedbackReachF1
/- Feedback: the law's taps and numbers, what numbers become. -/
namespace Go.Proofs.Ythfcafllcgjepaa.Feed
open Ieee Go.RowKit Go.Proofs.Ythfcafllcgjepaa.Q Go.Proofs.YthfcafllcgjepaaW.PrintWords Go.Proofs.YthfcafllcgjepaaW.PrintLast Go.Proofs.YthfcafllcgjepaaW.PrintMore Go.Proofs.Ythfcafllcgjepaa.Flt
theorem quo_word {x y r : Nat} (h : floatBits .quo .f64 x y = some r) : r < 2 ^ 64 := Format.div_lt double h
theorem u64_word (n : Int) : (IntKind.u64.wrap n).toNat < 2 ^ 64 := by
  rw [IntKind.wrap_u64]
  have h1 := Int.emod_lt_of_pos n (show (0 : Int) < 18446744073709551616 by decide)
  have h2 := Int.emod_nonneg n (show (18446744073709551616 : Int) ≠ 0 by decide)
  omega
theorem V64 : V 4634204016564240384 ≠ 0 := by
  rw [is_64.2]
  exact Int.ne_of_gt (Int.mul_pos (by decide) (int_pow_pos _))
theorem law_taps_l0 (l : List S174) (hl : l.length ≤ 6000000000000) (d : Nat) : ∀ (i : Nat) (o : List (Nat × Nat)), i + d = l.length → o.length = i → (∀ z ∈ o, Word z) →
    ∃ t, Ev (fun k => foghornlaw11_taps.l0 k l o (i : Int)) t ∧ t.length = l.length ∧ ∀ z ∈ t, Word z := by
  induction d with
  | zero =>
    intro i o hi ho hw
    exact ⟨o, Ev.stepTo _ (fun k _ => by rw [foghornlaw11_taps.l0, if_neg (by omega), if_pos (by omega), if_pos (by rw [List.length_append]; omega)]) (Ev.now _), by omega, hw⟩
  | succ d ih =>
    intro i o hi ho hw
    obtain ⟨p, hp, _⟩ := fquo_some (nan_ofInt (rd_T174 l (i : Int)).f0) is_64.1 V64
    obtain ⟨q, hq, _⟩ := fquo_some (nan_ofInt (rd_T174 l (i : Int)).f1) is_64.1 V64
    have app : ∀ z, Word z → ∀ y ∈ o ++ [z], Word y := fun z hz y hy => by
      rcases List.mem_append.1 hy with h | h
      · exact hw y h
      · rw [List.mem_singleton.1 h]; exact hz
    by_cases hr : (rd_T174 l (i : Int)).f2 = true
    · obtain ⟨t, h1, h2⟩ := ih (i + 1) (o ++ [((IntKind.u64.wrap ((rd_T174 l (i : Int)).f0)).toNat, (IntKind.u64.wrap ((rd_T174 l (i : Int)).f1)).toNat)]) (by omega) (by rw [List.length_append]; simp; omega) (app _ ⟨u64_word _, u64_word _⟩)
      exact ⟨t, Ev.stepTo _ (fun k _ => by rw [foghornlaw11_taps.l0, if_pos (by omega), if_pos (by omega), hp, Option.bind_some, hq, Option.bind_some, if_pos hr, if_pos (by omega), wrap_id _ (by omega) (by omega), show ((i : Int) + 1) = ((i + 1 : Nat) : Int) from by omega]) h1, h2⟩
    · obtain ⟨t, h1, h2⟩ := ih (i + 1) (o ++ [(p, q)]) (by omega) (by rw [List.length_append]; simp; omega) (app _ ⟨quo_word hp, quo_word hq⟩)
      exact ⟨t, Ev.stepTo _ (fun k _ => by rw [foghornlaw11_taps.l0, if_pos (by omega), if_pos (by omega), hp, Option.bind_some, hq, Option.bind_some, if_neg hr, if_pos (by omega), wrap_id _ (by omega) (by omega), show ((i : Int) + 1) = ((i + 1 : Nat) : Int) from by omega]) h1, h2⟩
theorem law_taps (l : List S174) (hl : l.length ≤ 6000000000000) : ∃ t, Ev (fun k => foghornlaw11_taps.f k l) t ∧ t.length = l.length ∧ ∀ z ∈ t, Word z :=
  law_taps_l0 l hl l.length 0 [] (by omega) rfl (fun z hz => by cases hz)
def Num (z : Nat × Nat) : Prop := (∃ n : Int, Is z.1 n 12) ∧ ∃ n : Int, Is z.2 n 12
def Grid (z : Nat × Nat) : Prop := On 12 4194304 z.1 ∧ On 12 4194304 z.2
theorem d4096 : dec 4661225614328463360 = .number false (2 ^ 52) (((12 : Nat) : Int) - 52) := by decide +kernel
theorem i32_bounds {n : Int} (h : (Lit.int .i32 n).wf = true) : n.natAbs < 2 ^ 53 := by
  unfold Lit.wf at h
  rw [Bool.and_eq_true, decide_eq_true_iff, decide_eq_true_iff, show IntKind.i32.min = -2147483648 from by decide, show IntKind.i32.max = 2147483647 from by decide] at h
  omega
theorem rd146 (l : List S146) (i : Nat) (h : i < l.length) : rd_T146 l (i : Int) = l[i] := by
  unfold rd_T146
  rw [Int.toNat_natCast, List.getD_eq_getElem?_getD, List.getElem?_eq_getElem h]
  rfl
theorem law_numbers_l0 (l : List S146) (hl : l.length ≤ 12000000000000) (hw : ∀ x ∈ l, ((Lit.int .i32 x.f0).wf = true) ∧ ((Lit.int .i32 x.f1).wf = true) ∧ True) (d : Nat) : ∀ (i : Nat) (o : List (Nat × Nat)), i + d = l.length → o.length = i → (∀ z ∈ o, Num z) →
    ∃ t, Ev (fun k => foghornlaw11_numbers.l0 k l o (i : Int)) t ∧ t.length = l.length ∧ ∀ z ∈ t, Num z := by
  induction d with
  | zero =>
    intro i o hi ho hn
    exact ⟨o, Ev.stepTo _ (fun k _ => by rw [foghornlaw11_numbers.l0, if_neg (by omega), if_pos (by omega), if_pos (by rw [List.length_append]; omega)]) (Ev.now _), by omega, hn⟩
  | succ d ih =>
    intro i o hi ho hn
    have hil : i < l.length := by omega
    obtain ⟨h0, h1, _⟩ := hw _ (List.getElem_mem hil)
    obtain ⟨p, hp, hp'⟩ := (Is.ofInt _ (i32_bounds h0)).quo d4096 (by decide) (i32_bounds h0)
    obtain ⟨q, hq, hq'⟩ := (Is.ofInt _ (i32_bounds h1)).quo d4096 (by decide) (i32_bounds h1)
    obtain ⟨t, h3, h4⟩ := ih (i + 1) (o ++ [(p, q)]) (by omega) (by rw [List.length_append]; simp; omega) (fun y hy => by
      rcases List.mem_append.1 hy with h | h
      · exact hn y h
      · rw [List.mem_singleton.1 h]; exact ⟨⟨_, hp'⟩, ⟨_, hq'⟩⟩)
    exact ⟨t, Ev.stepTo _ (fun k _ => by rw [foghornlaw11_numbers.l0, if_pos (by omega), if_pos (by omega), rd146 _ _ hil, hp, Option.bind_some, hq, Option.bind_some, if_pos (by omega), wrap_id _ (by omega) (by omega), show ((i : Int) + 1) = ((i + 1 : Nat) : Int) from by omega]) h3, h4⟩
theorem law_numbers (l : List S146) (hl : l.length ≤ 12000000000000) (hw : ∀ x ∈ l, ((Lit.int .i32 x.f0).wf = true) ∧ ((Lit.int .i32 x.f1).wf = true) ∧ True) : ∃ t, Ev (fun k => foghornlaw11_numbers.f k l) t ∧ t.length = l.length ∧ ∀ z ∈ t, Num z :=
  law_numbers_l0 l hl hw l.length 0 [] (by omega) rfl (fun z hz => by cases hz)
theorem nabs_mul {p q : Int} {a b : Nat} (hp : p.natAbs ≤ a) (hq : q.natAbs ≤ b) : (p * q).natAbs ≤ a * b := by
  rw [Int.natAbs_mul]
  exact Nat.mul_le_mul hp hq
theorem times_ok {z w : Nat × Nat} (hz : Tap z) (hw : Grid w) : ∃ u v, feedback_times.f z w = some (u, v) ∧ foghornref11_mul.f z w = some (u, v) ∧ ∃ a b : Int, Is u a 18 ∧ Is v b 18 ∧ a.natAbs ≤ 536870912 ∧ b.natAbs ≤ 536870912 := by
  obtain ⟨⟨p, p1, p2⟩, ⟨q, q1, q2⟩⟩ := hz
  obtain ⟨⟨r, r1, r2⟩, ⟨s, s1, s2⟩⟩ := hw
  have b1 := nabs_mul p2 r2
  have b2 := nabs_mul q2 s2
  have b3 := nabs_mul p2 s2
  have b4 := nabs_mul q2 r2
  obtain ⟨x1, e1, i1⟩ := p1.mul r1 (by omega) (by decide)
  obtain ⟨x2, e2, i2⟩ := q1.mul s1 (by omega) (by decide)
  obtain ⟨x3, e3, i3⟩ := i1.sub i2 (by omega)
  obtain ⟨x4, e4, i4⟩ := p1.mul s1 (by omega) (by decide)
  obtain ⟨x5, e5, i5⟩ := q1.mul r1 (by omega) (by decide)
  obtain ⟨x6, e6, i6⟩ := i4.add i5 (by omega)
  refine ⟨x3, x6, ?_, ?_, _, _, i3, i6, by omega, by omega⟩
  · rw [feedback_times.f, e1, Option.bind_some, e2, Option.bind_some, e3, Option.bind_some, e4, Option.bind_some, e5, Option.bind_some, e6, Option.bind_some]
  · rw [foghornref11_mul.f, e1, Option.bind_some, e2, Option.bind_some, e3, Option.bind_some, e4, Option.bind_some, e5, Option.bind_some, e6, Option.bind_some]
theorem rd_take {α : Type} (d : α) (xs : List α) (m i : Nat) (h : i < m) (h' : i < xs.length) : rdOf d (xs.take m) (i : Int) = xs[i] := by
  rw [rd_nat _ _ _ (by rw [List.length_take]; omega), List.getElem_take]
def Fin2 (z : Nat × Nat) : Prop := fin z.1 ∧ fin z.2
theorem echo_l2 {t x : List (Nat × Nat)} (ht : ∀ z ∈ t, Tap z) (hx : ∀ z ∈ x, Grid z) (htl : t.length ≤ 64) (hxl : x.length ≤ 65536) (n : Nat) (hn : n < x.length) (m : Nat) (hm : m = min t.length (n + 1)) (d : Nat) :
    ∀ (j a b : Nat) (A B : Int), j + d = m → Is a A 18 → Is b B 18 → A.natAbs ≤ j * 536870912 → B.natAbs ≤ j * 536870912 → ∃ a' b', Fin2 (a', b') ∧
      (∀ o r, o.length < 8796093022208 → Ev (fun k => feedback_Echo.l1 k t x (o ++ [(a', b')]) (x.length : Int) ((n + 1 : Nat) : Int)) r → Ev (fun k => feedback_Echo.l2 k t x o (n : Int) a b (x.length : Int) (n : Int) (t.take m) (m : Int) (j : Int)) r) ∧
      (∀ o r, o.length < 8796093022208 → Ev (fun k => foghornref11_Echo.l1 k t x (o ++ [(a', b')]) ((n + 1 : Nat) : Int)) r → Ev (fun k => foghornref11_Echo.l2 k t x o (n : Int) (a, b) (j : Int)) r) := by
  induction d with
  | zero =>
    intro j a b A B hj ha hb _ _
    refine ⟨a, b, ⟨ha.1, hb.1⟩, fun o r ho h => Ev.stepTo _ (fun k _ => by rw [feedback_Echo.l2, if_neg (by omega), if_pos ho, wrap_id _ (by omega) (by omega), show ((n : Int) + 1) = ((n + 1 : Nat) : Int) from by omega]) h, fun o r ho h => Ev.stepTo _ (fun k _ => ?_) h⟩
    by_cases h1 : (j : Int) < (t.length : Int)
    · rw [foghornref11_Echo.l2, if_pos h1, if_neg (by omega), if_pos ho, wrap_id _ (by omega) (by omega), show ((n : Int) + 1) = ((n + 1 : Nat) : Int) from by omega]
    · rw [foghornref11_Echo.l2, if_neg h1, if_pos ho, wrap_id _ (by omega) (by omega), show ((n : Int) + 1) = ((n + 1 : Nat) : Int) from by omega]
  | succ d ih =>
    intro j a b A B hj ha hb hA hB
    have hjt : j < t.length := by omega
    have hjx : n - j < x.length := by omega
    have e0 : (n : Int) - (j : Int) = ((n - j : Nat) : Int) := by omega
    obtain ⟨u, v, h1, h2, U, W, h3, h4, h5, h6⟩ := times_ok (ht _ (List.getElem_mem hjt)) (hx _ (List.getElem_mem hjx))
    obtain ⟨a2, e1, i1⟩ := ha.add h3 (by omega)
    obtain ⟨b2, e2, i2⟩ := hb.add h4 (by omega)
    obtain ⟨a', b', h7, h8, h9⟩ := ih (j + 1) a2 b2 _ _ (by omega) i1 i2 (by omega) (by omega)
    refine ⟨a', b', h7, fun o r ho h => Ev.stepTo _ (fun k _ => ?_) (h8 o r ho h), fun o r ho h => Ev.stepTo _ (fun k _ => ?_) (h9 o r ho h)⟩
    · rw [feedback_Echo.l2, if_pos (by omega), if_pos (by omega), if_pos (by rw [List.length_take]; omega), wrap_id _ (by omega) (by omega), if_pos (by omega), if_pos (by omega), rd_take _ _ _ _ (by omega) hjt, e0, rd_nat _ _ _ hjx, h1, Option.bind_some, e1, Option.bind_some, e2, Option.bind_some, wrap_id _ (by omega) (by omega), show ((j : Int) + 1) = ((j + 1 : Nat) : Int) from by omega]
    · rw [foghornref11_Echo.l2, if_pos (by omega), if_pos (by omega), if_pos (by omega), wrap_id _ (by omega) (by omega), if_pos (by omega), if_pos (by omega), rd_nat _ _ _ hjt, e0, rd_nat _ _ _ hjx, h2, Option.bind_some, e1, Option.bind_some, e2, Option.bind_some, wrap_id _ (by omega) (by omega), show ((j : Int) + 1) = ((j + 1 : Nat) : Int) from by omega]
theorem mn_nat (a b : Nat) : mn (a : Int) (b : Int) = ((min a b : Nat) : Int) := by
  unfold mn
  split <;> omega
theorem echo_l1 {t x : List (Nat × Nat)} (ht : ∀ z ∈ t, Tap z) (hx : ∀ z ∈ x, Grid z) (htl : t.length ≤ 64) (hxl : x.length ≤ 65536) (d : Nat) :
    ∀ (i : Nat) (o : List (Nat × Nat)), i + d = x.length → o.length = i → (∀ z ∈ o, Fin2 z) → ∃ r, r.length = x.length ∧ (∀ z ∈ r, Fin2 z) ∧
      Ev (fun k => feedback_Echo.l1 k t x o (x.length : Int) (i : Int)) (r, 0) ∧ Ev (fun k => foghornref11_Echo.l1 k t x o (i : Int)) (r, 0) := by
  induction d with
  | zero =>
    intro i o hi ho hf
    exact ⟨o, by omega, hf, Ev.stepTo _ (fun k _ => by rw [feedback_Echo.l1, if_neg (by omega)]) (Ev.now _), Ev.stepTo _ (fun k _ => by rw [foghornref11_Echo.l1, if_neg (by omega)]) (Ev.now _)⟩
  | succ d ih =>
    intro i o hi ho hf
    obtain ⟨a, b, h1, h2, h3⟩ := echo_l2 ht hx htl hxl i (by omega) (min t.length (i + 1)) rfl (min t.length (i + 1)) 0 0 0 0 0 (by omega) (is_zero 18) (is_zero 18) (by decide) (by decide)
    obtain ⟨r, h4, h5, h6, h7⟩ := ih (i + 1) (o ++ [(a, b)]) (by omega) (by rw [List.length_append]; simp; omega) (fun z hz => by
      rcases List.mem_append.1 hz with h | h
      · exact hf z h
      · rw [List.mem_singleton.1 h]; exact h1)
    refine ⟨r, h4, h5, Ev.stepTo _ (fun k _ => ?_) (h2 o _ (by omega) h6), Ev.stepTo _ (fun k _ => ?_) (h3 o _ (by omega) h7)⟩
    · rw [feedback_Echo.l1, if_pos (by omega), wrap_id _ (by omega) (by omega), show ((i : Int) + 1) = ((i + 1 : Nat) : Int) from by omega, mn_nat, if_pos (by omega), if_pos (by omega), Int.toNat_natCast, List.length_take, Nat.min_eq_left (Nat.min_le_left _ _)]
      rfl
    · rw [foghornref11_Echo.l1, if_pos (by omega)]
      rfl
theorem echo_l0 {t x : List (Nat × Nat)} (ht : ∀ z ∈ t, Tap z) (htl : t.length ≤ 64) (hxl : x.length ≤ 65536) (d : Nat) :
    ∀ (i : Nat), i + d = x.length → (∀ z ∈ x.take i, Grid z) → ∃ r e, r.length ≤ 65536 ∧ (∀ z ∈ r, Fin2 z) ∧
      Ev (fun k => feedback_Echo.l0 k t x x (x.length : Int) (i : Int)) (r, e) ∧ Ev (fun k => foghornref11_Echo.l0 k t x (i : Int)) (r, e) := by
  induction d with
  | zero =>
    intro i hi hg
    rw [List.take_of_length_le (by omega)] at hg
    obtain ⟨r, h1, h2, h3, h4⟩ := echo_l1 ht hg htl hxl x.length 0 [] (by omega) rfl (fun z hz => by cases hz)
    refine ⟨r, 0, by omega, h2, Ev.stepTo _ (fun k _ => ?_) h3, Ev.stepTo _ (fun k _ => ?_) h4⟩
    · rw [feedback_Echo.l0, if_neg (by omega), if_pos (by omega), if_pos (by omega)]
      rfl
    · rw [foghornref11_Echo.l0, if_neg (by omega)]
      rfl
  | succ d ih =>
    intro i hi hg
    have hil : i < x.length := by omega
    obtain ⟨b1, e1, g1⟩ := gOn x[i].1
    obtain ⟨c1, f1, k1⟩ := rOn x[i].1
    have hb : c1 = b1 := Bool.eq_iff_iff.2 (k1.trans g1.symm)
    subst hb
    cases c1 with
    | false =>
      exact ⟨[], 7, by decide, fun z hz => (by cases hz), Ev.stepTo _ (fun k _ => by rw [feedback_Echo.l0, if_pos (by omega), if_pos (by omega), if_pos (by omega), rd_nat _ _ _ hil, e1, Option.bind_some, if_neg (by decide)]) (Ev.now _), Ev.stepTo _ (fun k _ => by rw [foghornref11_Echo.l0, if_pos (by omega), if_pos (by omega), rd_nat _ _ _ hil, f1, Option.bind_some, if_neg (by decide)]) (Ev.now _)⟩
    | true =>
      obtain ⟨b2, e2, g2⟩ := gOn x[i].2
      obtain ⟨c2, f2, k2⟩ := rOn x[i].2
      have hb : c2 = b2 := Bool.eq_iff_iff.2 (k2.trans g2.symm)
      subst hb
      cases c2 with
      | false =>
        exact ⟨[], 7, by decide, fun z hz => (by cases hz), Ev.stepTo _ (fun k _ => by rw [feedback_Echo.l0, if_pos (by omega), if_pos (by omega), if_pos (by omega), rd_nat _ _ _ hil, e1, Option.bind_some, if_pos rfl, e2, Option.bind_some, if_neg (by decide)]) (Ev.now _), Ev.stepTo _ (fun k _ => by rw [foghornref11_Echo.l0, if_pos (by omega), if_pos (by omega), rd_nat _ _ _ hil, f1, Option.bind_some, if_pos rfl, f2, Option.bind_some, if_neg (by decide)]) (Ev.now _)⟩
      | true =>
        obtain ⟨r, e, h1, h2, h3, h4⟩ := ih (i + 1) (by omega) (take_next hil hg ⟨g1.1 rfl, g2.1 rfl⟩)
        exact ⟨r, e, h1, h2, Ev.stepTo _ (fun k _ => by rw [feedback_Echo.l0, if_pos (by omega), if_pos (by omega), if_pos (by omega), rd_nat _ _ _ hil, e1, Option.bind_some, if_pos rfl, e2, Option.bind_some, if_pos rfl, wrap_id _ (by omega) (by omega), show ((i : Int) + 1) = ((i + 1 : Nat) : Int) from by omega]) h3, Ev.stepTo _ (fun k _ => by rw [foghornref11_Echo.l0, if_pos (by omega), if_pos (by omega), rd_nat _ _ _ hil, f1, Option.bind_some, if_pos rfl, f2, Option.bind_some, if_pos rfl, wrap_id _ (by omega) (by omega), show ((i : Int) + 1) = ((i + 1 : Nat) : Int) from by omega]) h4⟩
theorem echo (t x : List (Nat × Nat)) (hw : ∀ z ∈ t, Word z) (htl : t.length ≤ 12000000000000) : ∃ r e, r.length ≤ 65536 ∧ (∀ z ∈ r, Fin2 z) ∧ Ev (fun k => feedback_Echo.f k t x) (r, e) ∧ Ev (fun k => foghornref11_Echo.f k t x) (r, e) := by
  obtain ⟨b, h1, h2⟩ := ftaps t hw htl
  obtain ⟨c, h3, h4⟩ := rtaps t
  have hb : c = b := Bool.eq_iff_iff.2 (h4.trans h2.symm)
  subst hb
  cases c with
  | false => exact ⟨[], 8, by decide, fun z hz => (by cases hz), Ev.congr (fun k => by rw [feedback_Echo.f]) (Ev.bind h1 (Ev.congr (fun k => by rw [if_neg (by decide)]) (Ev.now _))), Ev.congr (fun k => by rw [foghornref11_Echo.f]) (Ev.bind h3 (Ev.congr (fun k => by rw [if_neg (by decide)]) (Ev.now _)))⟩
  | true =>
    have hT := h2.1 rfl
    by_cases hx : x.length ≤ 65536
    · obtain ⟨r, e, g1, g2, g3, g4⟩ := echo_l0 hT.1 hT.2.2.1 hx x.length 0 (by omega) (fun z hz => by simp at hz)
      exact ⟨r, e, g1, g2, Ev.congr (fun k => by rw [feedback_Echo.f]) (Ev.bind h1 (Ev.congr (fun k => by rw [if_pos rfl, if_neg (by omega)]; rfl) g3)), Ev.congr (fun k => by rw [foghornref11_Echo.f]) (Ev.bind h3 (Ev.congr (fun k => by rw [if_pos rfl, if_neg (by omega)]; rfl) g4))⟩
    · exact ⟨[], 1, by decide, fun z hz => (by cases hz), Ev.congr (fun k => by rw [feedback_Echo.f]) (Ev.bind h1 (Ev.congr (fun k => by rw [if_pos rfl, if_pos (by omega)]) (Ev.now _))), Ev.congr (fun k => by rw [foghornref11_Echo.f]) (Ev.bind h3 (Ev.congr (fun k => by rw [if_pos rfl, if_pos (by omega)]) (Ev.now _)))⟩
end Go.Proofs.Ythfcafllcgjepaa.Feed
