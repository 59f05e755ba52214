import Derived.Test.YthfcafllcgjepaaSliceRowsSlice3
import Derived.Test.YthfcafllcgjepaaSliceRowsFeed2
import Derived.Test.YthfcafllcgjepaaSliceRowsF1
/- Layers 2, 5: rows of samples: what may be, how they are decided: the program and the document alike. -/
namespace Go.Proofs.Ythfcafllcgjepaa.Slc
open Ieee Go.RowKit Go.Proofs.Ythfcafllcgjepaa.Q Go.Proofs.YthfcafllcgjepaaW.PrintWords Go.Proofs.YthfcafllcgjepaaW.PrintLast Go.Proofs.YthfcafllcgjepaaW.PrintMore Go.Proofs.Ythfcafllcgjepaa.Flt Go.Proofs.Ythfcafllcgjepaa.Feed Go.Proofs.Ythfcafllcgjepaa.Pt

theorem rd101 (l : List S101) (i : Nat) (h : i < l.length) : rd_T101 l (i : Int) = l[i] := by
  unfold rd_T101
  rw [Int.toNat_natCast, List.getD_eq_getElem?_getD, List.getElem?_eq_getElem h]
  rfl
theorem rd83 (l : List S83) (i : Nat) (h : i < l.length) : rd_T83 l (i : Int) = l[i] := by
  unfold rd_T83
  rw [Int.toNat_natCast, List.getD_eq_getElem?_getD, List.getElem?_eq_getElem h]
  rfl
theorem rd80 (l : List S80) (i : Nat) (h : i < l.length) : rd_T80 l (i : Int) = l[i] := by
  unfold rd_T80
  rw [Int.toNat_natCast, List.getD_eq_getElem?_getD, List.getElem?_eq_getElem h]
  rfl
def cv (r : S83) : S80 := ⟨r.f0, r.f1, r.f2⟩
theorem rd80_map (l : List S83) (i : Nat) (h : i < l.length) : rd_T80 (l.map cv) (i : Int) = cv (rd_T83 l (i : Int)) := by
  rw [rd80 _ _ (by rw [List.length_map]; exact h), List.getElem_map, rd83 _ _ h]
/-- May a sample be? -/
theorem may_both (v : Nat × Nat) (l : Bool) : ∃ b, grid_may.f v l = some b ∧ foghornref02_May.f v l = some b ∧ (b = true → l = false → Grid v) := by
  cases l with
  | true =>
    refine ⟨(FloatKind.f64.format.order v.1 0 == some .eq) && (FloatKind.f64.format.order v.2 0 == some .eq), by rw [grid_may.f, if_pos rfl], ?_, fun _ h => by cases h⟩
    rw [foghornref02_May.f, if_pos rfl]
    cases h : (FloatKind.f64.format.order v.1 0 == some .eq) with
    | true => rw [if_pos rfl, Bool.true_and]
    | false => rw [if_neg (by decide), Bool.false_and]
  | false =>
    obtain ⟨a, a1, a2⟩ := gOn v.1
    obtain ⟨a', a1', a2'⟩ := rOn v.1
    obtain ⟨b, b1, b2⟩ := gOn v.2
    obtain ⟨b', b1', b2'⟩ := rOn v.2
    have ea : a' = a := Bool.eq_iff_iff.2 (a2'.trans a2.symm)
    have eb : b' = b := Bool.eq_iff_iff.2 (b2'.trans b2.symm)
    subst ea
    subst eb
    refine ⟨a' && b', ?_, ?_, fun h _ => ?_⟩
    · rw [grid_may.f, if_neg (by decide), a1, Option.bind_some, b1]
      cases a'
      · rw [if_neg (by decide), Bool.false_and]
      · rw [if_pos rfl, Bool.true_and]; rfl
    · rw [foghornref02_May.f, if_neg (by decide), a1', Option.bind_some, b1']
      cases a'
      · rw [if_neg (by decide), Bool.false_and]
      · rw [if_pos rfl, Bool.true_and]; rfl
    · rw [Bool.and_eq_true] at h
      exact ⟨a2.1 h.1, b2.1 h.2⟩
/-- What is said of a row of samples; where nothing is wrong, those that are not lost are on the grid. -/
theorem check_l0 (l : List S101) (hl : l.length ≤ 65536) (d : Nat) : ∀ i : Nat, i + d = l.length → (∀ x ∈ l.take i, x.f1 = false → Grid x.f0) → ∃ r, Ev (fun k => grid_Check.l0 k l (l.length : Int) (i : Int)) r ∧ Ev (fun k => foghornref02_Check.l0 k l (i : Int)) r ∧ (r.2 = 0 → ∀ x ∈ l, x.f1 = false → Grid x.f0) := by
  induction d with
  | zero =>
    intro i hi hg
    refine ⟨(0, 0), Ev.stepTo _ (fun k _ => by rw [grid_Check.l0, if_neg (by omega)]) (Ev.now _), Ev.stepTo _ (fun k _ => by rw [foghornref02_Check.l0, if_neg (by omega)]) (Ev.now _), fun _ => ?_⟩
    rw [show i = l.length by omega, List.take_length] at hg
    exact hg
  | succ d ih =>
    intro i hi hg
    have hil : i < l.length := by omega
    have hw : wrap64 ((i : Int) + 1) = ((i + 1 : Nat) : Int) := by rw [wrap_id _ (by omega) (by omega)]; omega
    obtain ⟨b, h1, h2, h3⟩ := may_both (rd_T101 l (i : Int)).f0 (rd_T101 l (i : Int)).f1
    cases b with
    | true =>
      obtain ⟨r, e1, e2, e3⟩ := ih (i + 1) (by omega) (fun x hx => by
        rw [List.take_succ_eq_append_getElem hil] at hx
        rcases List.mem_append.1 hx with h | h
        · exact hg x h
        · rw [List.mem_singleton.1 h, ← rd101 l i hil]; exact h3 rfl)
      exact ⟨r, Ev.stepTo _ (fun k _ => by rw [grid_Check.l0, if_pos (by omega), if_pos (by omega), if_pos (by omega), h1, Option.bind_some, if_pos rfl, hw]) e1, Ev.stepTo _ (fun k _ => by rw [foghornref02_Check.l0, if_pos (by omega), if_pos (by omega), h2, Option.bind_some, if_pos rfl, hw]) e2, e3⟩
    | false =>
      exact ⟨((i : Int), 7), Ev.stepTo _ (fun k _ => by rw [grid_Check.l0, if_pos (by omega), if_pos (by omega), if_pos (by omega), h1, Option.bind_some, if_neg (by decide)]) (Ev.now _), Ev.stepTo _ (fun k _ => by rw [foghornref02_Check.l0, if_pos (by omega), if_pos (by omega), h2, Option.bind_some, if_neg (by decide)]) (Ev.now _), fun h => by cases h⟩
theorem check_both (l : List S101) : ∃ r, Ev (fun k => grid_Check.f k l) r ∧ Ev (fun k => foghornref02_Check.f k l) r ∧ (r.2 = 0 → l.length ≤ 65536 ∧ ∀ x ∈ l, x.f1 = false → Grid x.f0) := by
  by_cases h : l.length ≤ 65536
  · obtain ⟨r, h1, h2, h3⟩ := check_l0 l h l.length 0 (by omega) (fun x hx => by cases hx)
    exact ⟨r, Ev.congr (fun k => by rw [grid_Check.f, if_neg (by omega)]; rfl) h1, Ev.congr (fun k => by rw [foghornref02_Check.f, if_neg (by omega)]; rfl) h2, fun h0 => ⟨h, h3 h0⟩⟩
  · exact ⟨(0, 1), Ev.congr (fun k => by rw [grid_Check.f, if_pos (by omega)]) (Ev.now _), Ev.congr (fun k => by rw [foghornref02_Check.f, if_pos (by omega)]) (Ev.now _), fun h => by cases h⟩
/-- Decisions whose numbers are numbers. -/
def FinD (l : List S83) : Prop := ∀ r ∈ l, fin r.f1.1 ∧ fin r.f1.2
theorem FinD.app {l : List S83} (h : FinD l) {r : S83} (h1 : fin r.f1.1) (h2 : fin r.f1.2) : FinD (l ++ [r]) := fun x hx => by
  rcases List.mem_append.1 hx with h' | h'
  · exact h x h'
  · rw [List.mem_singleton.1 h']; exact ⟨h1, h2⟩
theorem row_l0 {s : Int} (h : Six s) (l : List S101) (hl : l.length ≤ 65536) (hw : ∀ x ∈ l, Wd x.f0) (d : Nat) : ∀ (i : Nat) (o : List S83), i + d = l.length → o.length = i → FinD o → ∃ A : List S83, A.length = l.length ∧ FinD A ∧ Ev (fun k => slice_Row.l0 k s (edge s) o l (l.length : Int) (i : Int)) (A, 0) ∧ Ev (fun k => foghornref05_Row.l0 k s l (o.map cv) (i : Int)) (A.map cv, 0) := by
  induction d with
  | zero =>
    intro i o hi ho hf
    exact ⟨o, by omega, hf, Ev.stepTo _ (fun k _ => by rw [slice_Row.l0, if_neg (by omega)]) (Ev.now _), Ev.stepTo _ (fun k _ => by rw [foghornref05_Row.l0, if_neg (by omega)]) (Ev.now _)⟩
  | succ d ih =>
    intro i o hi ho hf
    have hil : i < l.length := by omega
    have hwr : wrap64 ((i : Int) + 1) = ((i + 1 : Nat) : Int) := by rw [wrap_id _ (by omega) (by omega)]; omega
    cases hb : (rd_T101 l (i : Int)).f1 with
    | true =>
      obtain ⟨A, a1, a2, a3, a4⟩ := ih (i + 1) (o ++ [⟨0, (0, 0), true⟩]) (by omega) (by rw [List.length_append]; simp; omega) (hf.app (is_zero 0).1 (is_zero 0).1)
      rw [List.map_append] at a4
      exact ⟨A, a1, a2, Ev.stepTo _ (fun k _ => by rw [slice_Row.l0, if_pos (by omega), if_pos (by omega), if_pos (by omega), if_pos hb, if_pos (by omega), hwr]) a3, Ev.stepTo _ (fun k _ => by rw [foghornref05_Row.l0, if_pos (by omega), if_pos (by omega), if_pos hb, if_pos (by rw [List.length_map]; omega), hwr]; rfl) a4⟩
    | false =>
      obtain ⟨n, v, b, d1, d2, d3, d4⟩ := decide_both h (z := (rd_T101 l (i : Int)).f0) (by rw [rd101 _ _ hil]; exact hw _ (List.getElem_mem _))
      obtain ⟨A, a1, a2, a3, a4⟩ := ih (i + 1) (o ++ [⟨n, v, b⟩]) (by omega) (by rw [List.length_append]; simp; omega) (hf.app d3 d4)
      rw [List.map_append] at a4
      refine ⟨A, a1, a2, ?_, ?_⟩
      · refine Ev.stepTo _ (fun k _ => by rw [slice_Row.l0, if_pos (by omega), if_pos (by omega), if_pos (by omega), if_neg (by rw [hb]; decide)]) ?_
        refine Ev.bind d1 (Ev.congr (fun k => ?_) a3)
        rw [if_pos (by omega), hwr]
      · refine Ev.stepTo _ (fun k _ => by rw [foghornref05_Row.l0, if_pos (by omega), if_pos (by omega), if_neg (by rw [hb]; decide)]) ?_
        refine Ev.bind d2 (Ev.congr (fun k => ?_) a4)
        rw [if_pos (by rw [List.length_map]; omega), hwr]
        rfl
/-- A row: one answer. -/
theorem row_both (s : Int) (l : List S101) (hw : ∀ x ∈ l, Wd x.f0) : ∃ (A : List S83) (e : Int), A.length ≤ 65536 ∧ FinD A ∧ Ev (fun k => slice_Row.f k s l) (A, e) ∧ Ev (fun k => foghornref05_Row.f k s l) (A.map cv, e) := by
  have nil : FinD [] := fun x hx => by cases hx
  by_cases h : Six s
  · obtain ⟨r, c1, c2, c3⟩ := check_both l
    by_cases h0 : r.2 = 0
    · obtain ⟨hl, _⟩ := c3 h0
      obtain ⟨A, a1, a2, a3, a4⟩ := row_l0 h l hl hw l.length 0 [] (by omega) rfl nil
      refine ⟨A, 0, by omega, a2, ?_, ?_⟩
      · refine Ev.congr (fun k => by rw [slice_Row.f, edge_yes h, Option.bind_some, if_pos rfl]) (Ev.bind c1 (Ev.congr (fun k => ?_) a3))
        rw [if_pos h0, if_pos (by omega), if_pos (by omega)]
        rfl
      · refine Ev.congr (fun k => by rw [foghornref05_Row.f, redge_yes h, Option.bind_some, if_pos rfl]) (Ev.bind c2 (Ev.congr (fun k => ?_) a4))
        rw [if_pos h0]
        rfl
    · refine ⟨[], r.2, Nat.zero_le _, nil, ?_, ?_⟩
      · exact Ev.congr (fun k => by rw [slice_Row.f, edge_yes h, Option.bind_some, if_pos rfl]) (Ev.bind c1 (Ev.congr (fun k => by rw [if_neg h0]) (Ev.now _)))
      · exact Ev.congr (fun k => by rw [foghornref05_Row.f, redge_yes h, Option.bind_some, if_pos rfl]) (Ev.bind c2 (Ev.congr (fun k => by rw [if_neg h0]; rfl) (Ev.now _)))
  · refine ⟨[], 1, Nat.zero_le _, nil, ?_, ?_⟩
    · exact Ev.congr (fun k => by rw [slice_Row.f, edge_no h, Option.bind_some, if_neg (by decide)]) (Ev.now _)
    · exact Ev.congr (fun k => by rw [foghornref05_Row.f, redge_no h, Option.bind_some, if_neg (by decide)]; rfl) (Ev.now _)
end Go.Proofs.Ythfcafllcgjepaa.Slc
