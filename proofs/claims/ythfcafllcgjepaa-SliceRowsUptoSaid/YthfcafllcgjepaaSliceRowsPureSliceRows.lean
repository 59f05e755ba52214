import Derived.Test.YthfcafllcgjepaaSliceRowsSlice4
import Derived.Test.YthfcafllcgjepaaSliceRowsF1
/- SliceRows: any row of samples, lost ones too, in new memory; which are lost; the row stays. (Where what comes in is at most 1048576 together.) -/
namespace Go.Proofs.Ythfcafllcgjepaa.Slc
open Ieee Go.RowKit Go.Proofs.Ythfcafllcgjepaa.Q Go.Proofs.YthfcafllcgjepaaW.PrintWords Go.Proofs.YthfcafllcgjepaaW.PrintLast Go.Proofs.YthfcafllcgjepaaW.PrintMore Go.Proofs.Ythfcafllcgjepaa.Flt Go.Proofs.Ythfcafllcgjepaa.Feed Go.Proofs.Ythfcafllcgjepaa.Pt

theorem rd206 (l : List S206) (i : Nat) (h : i < l.length) : rd_T206 l (i : Int) = l[i] := by
  unfold rd_T206
  rw [Int.toNat_natCast, List.getD_eq_getElem?_getD, List.getElem?_eq_getElem h]
  rfl
/-- The law's samples. -/
def Smp (x : S101) : Prop := Wd x.f0 ∧ fin x.f0.1 ∧ fin x.f0.2
theorem samples_l0 (l : List S206) (hl : l.length ≤ 1048576) (hw : ∀ x ∈ l, ((Lit.int .i32 x.f0).wf = true) ∧ ((Lit.int .i32 x.f1).wf = true) ∧ True) (d : Nat) : ∀ (i : Nat) (o : List S101), i + d = l.length → o.length = i → (∀ z ∈ o, Smp z) →
    ∃ t, Ev (fun k => foghornlaw05_samples.l0 k l o (i : Int)) t ∧ t.length = l.length ∧ ∀ z ∈ t, Smp z := by
  induction d with
  | zero =>
    intro i o hi ho hn
    exact ⟨o, Ev.stepTo _ (fun k _ => by rw [foghornlaw05_samples.l0, if_neg (by omega), if_pos (by omega), if_pos (by rw [List.length_append]; omega)]) (Ev.now _), by omega, hn⟩
  | succ d ih =>
    intro i o hi ho hn
    have hil : i < l.length := by omega
    obtain ⟨h0, h1, _⟩ := hw _ (List.getElem_mem hil)
    obtain ⟨p, hp, hp'⟩ := (Is.ofInt _ (i32_bounds h0)).quo d4096 (by decide) (i32_bounds h0)
    obtain ⟨q, hq, hq'⟩ := (Is.ofInt _ (i32_bounds h1)).quo d4096 (by decide) (i32_bounds h1)
    obtain ⟨t, h3, h4⟩ := ih (i + 1) (o ++ [⟨(p, q), (rd_T206 l (i : Int)).f2⟩]) (by omega) (by rw [List.length_append]; simp; omega) (fun y hy => by
      rcases List.mem_append.1 hy with h | h
      · exact hn y h
      · rw [List.mem_singleton.1 h]; exact ⟨⟨quo_word hp, quo_word hq⟩, hp'.1, hq'.1⟩)
    refine ⟨t, Ev.stepTo _ (fun k _ => ?_) h3, h4⟩
    rw [foghornlaw05_samples.l0, if_pos (by omega), if_pos (by omega)]
    rw [show (rd_T206 l (i : Int)).f0 = l[i].f0 by rw [rd206 _ _ hil], show (rd_T206 l (i : Int)).f1 = l[i].f1 by rw [rd206 _ _ hil], hp, Option.bind_some, hq, Option.bind_some, if_pos (by omega), wrap_id _ (by omega) (by omega), show ((i : Int) + 1) = ((i + 1 : Nat) : Int) from by omega]
theorem same02 (l : List S101) (hl : l.length ≤ 1048576) (hs : ∀ z ∈ l, Smp z) : Ev (fun k => foghornref02_Same.f k l l) true := by
  have go : ∀ (d i : Nat), i + d = l.length → Ev (fun k => foghornref02_Same.l0 k l l (i : Int)) true := by
    intro d
    induction d with
    | zero =>
      intro i hi
      exact Ev.stepTo _ (fun k _ => by rw [foghornref02_Same.l0, if_neg (by omega)]) (Ev.now _)
    | succ d ih =>
      intro i hi
      have h := hs (rd_T101 l (i : Int)) (by rw [rd101 _ _ (by omega)]; exact List.getElem_mem _)
      refine Ev.stepTo _ (fun k _ => ?_) (ih (i + 1) (by omega))
      rw [foghornref02_Same.l0, if_pos (by omega), if_pos (by omega), if_pos (by omega), if_neg (by simp), eqv h.2.1, eqv h.2.2, if_neg (by decide), wrap_id _ (by omega) (by omega), show ((i : Int) + 1) = ((i + 1 : Nat) : Int) from by omega]
  exact Ev.congr (fun k => by rw [foghornref02_Same.f, if_pos rfl]; rfl) (go l.length 0 (by omega))
theorem rows_ev (A : List S83) (hl : A.length ≤ 65536) (hf : FinD A) : Ev (fun k => foghornlaw05_rows.f k A (A.map cv)) true := by
  have go : ∀ (d i : Nat), i + d = A.length → Ev (fun k => foghornlaw05_rows.l0 k A (A.map cv) (i : Int)) true := by
    intro d
    induction d with
    | zero =>
      intro i hi
      exact Ev.stepTo _ (fun k _ => by rw [foghornlaw05_rows.l0, if_neg (by omega)]) (Ev.now _)
    | succ d ih =>
      intro i hi
      have h := hf (rd_T83 A (i : Int)) (by rw [rd83 _ _ (by omega)]; exact List.getElem_mem _)
      refine Ev.stepTo _ (fun k _ => ?_) (ih (i + 1) (by omega))
      have e : foghornlaw05_alike.f ((rd_T83 A (i : Int)).f0) ((rd_T83 A (i : Int)).f1) ((rd_T83 A (i : Int)).f2) ((rd_T80 (A.map cv) (i : Int)).f0) ((rd_T80 (A.map cv) (i : Int)).f1) ((rd_T80 (A.map cv) (i : Int)).f2) = some true := by
        rw [rd80_map _ _ (by omega)]
        exact alike_self h.1 h.2
      rw [foghornlaw05_rows.l0, if_pos (by omega), if_pos (by omega), if_pos (by rw [List.length_map]; omega), e, Option.bind_some, if_pos rfl, wrap_id _ (by omega) (by omega), show ((i : Int) + 1) = ((i + 1 : Nat) : Int) from by omega]
  exact Ev.congr (fun k => by rw [foghornlaw05_rows.f, if_pos (by rw [List.length_map])]; rfl) (go A.length 0 (by omega))
/-- The places that are lost. -/
def lo (A : List S83) : Nat → Nat → List Int
  | _, 0 => []
  | i, d + 1 => if (rd_T83 A (i : Int)).f2 = true then (i : Int) :: lo A (i + 1) d else lo A (i + 1) d
theorem lo_len (A : List S83) (d : Nat) : ∀ i, (lo A i d).length ≤ d := by
  induction d with
  | zero => intro i; exact Nat.le_refl _
  | succ d ih =>
    intro i
    have := ih (i + 1)
    unfold lo
    split
    · rw [List.length_cons]; omega
    · omega
theorem lo_nat (A : List S83) (d : Nat) : ∀ i, ∀ x ∈ lo A i d, 0 ≤ x := by
  induction d with
  | zero => intro i x hx; cases hx
  | succ d ih =>
    intro i x hx
    unfold lo at hx
    split at hx
    · rcases List.mem_cons.1 hx with h | h
      · omega
      · exact ih _ x h
    · exact ih _ x hx
theorem lost_l0 (A : List S83) (hl : A.length ≤ 65536) (d : Nat) : ∀ (i : Nat) (o : List Int), i + d = A.length → o.length ≤ i → Ev (fun k => slice_Lost.l0 k o A (A.length : Int) (i : Int)) (o ++ lo A i d) := by
  induction d with
  | zero =>
    intro i o hi ho
    exact Ev.stepTo _ (fun k _ => by rw [slice_Lost.l0, if_neg (by omega), show lo A i 0 = [] from rfl, List.append_nil]) (Ev.now _)
  | succ d ih =>
    intro i o hi ho
    have hw : wrap64 ((i : Int) + 1) = ((i + 1 : Nat) : Int) := by rw [wrap_id _ (by omega) (by omega)]; omega
    by_cases c : (rd_T83 A (i : Int)).f2 = true
    · have h := ih (i + 1) (o ++ [(i : Int)]) (by omega) (by rw [List.length_append]; simp; omega)
      rw [List.append_assoc] at h
      have e : lo A i (d + 1) = [(i : Int)] ++ lo A (i + 1) d := by show (if _ then _ else _) = _; rw [if_pos c]; rfl
      rw [e]
      exact Ev.stepTo _ (fun k _ => by rw [slice_Lost.l0, if_pos (by omega), if_pos (by omega), if_pos (by omega), if_pos c, if_pos (by omega), hw]) h
    · have h := ih (i + 1) o (by omega) (by omega)
      have e : lo A i (d + 1) = lo A (i + 1) d := by show (if _ then _ else _) = _; rw [if_neg c]
      rw [e]
      exact Ev.stepTo _ (fun k _ => by rw [slice_Lost.l0, if_pos (by omega), if_pos (by omega), if_pos (by omega), if_neg c, hw]) h
theorem lost_ev (A : List S83) (hl : A.length ≤ 65536) : Ev (fun k => slice_Lost.f k A) (lo A 0 A.length) := lost_l0 A hl A.length 0 [] (by omega) (Nat.le_refl _)
theorem rdI (l : List Int) (i : Nat) (h : i < l.length) : rd l (i : Int) = l[i] := by
  unfold rd
  rw [Int.toNat_natCast, List.getD_eq_getElem?_getD, List.getElem?_eq_getElem h]
  rfl
theorem sr_l3 (W : List S80) (B : List S83) (hr : Ev (fun k => foghornlaw05_rows.f k B W) true) (d : Nat) : ∀ (i : Nat) (o : List S83), i + d = 20 → o.length ≥ i → o.length ≤ 65536 + i → Ev (fun k => foghornlaw05_SliceRows.l3 k W o B (i : Int)) true := by
  induction d with
  | zero =>
    intro i o hi h1 h2
    refine Ev.stepTo _ (fun k _ => by rw [foghornlaw05_SliceRows.l3, if_neg (by omega)]) (Ev.bind hr (Ev.congr (fun k => ?_) (Ev.now true)))
    rw [if_pos rfl, decide_eq_true (by omega)]
  | succ d ih =>
    intro i o hi h1 h2
    exact Ev.stepTo _ (fun k _ => by rw [foghornlaw05_SliceRows.l3, if_pos (by omega), if_pos (by omega), wrap_id _ (by omega) (by omega), show ((i : Int) + 1) = ((i + 1 : Nat) : Int) from by omega]) (ih (i + 1) _ (by omega) (by rw [List.length_append]; simp; omega) (by rw [List.length_append]; simp; omega))
theorem sr_l2 (W : List S80) (B : List S83) (hr : Ev (fun k => foghornlaw05_rows.f k B W) true) (d : Nat) : ∀ (i : Nat) (o : List S83), i + d = o.length → o.length ≤ 65536 → Ev (fun k => foghornlaw05_SliceRows.l2 k W o B (i : Int)) true := by
  induction d with
  | zero =>
    intro i o hi h2
    exact Ev.stepTo _ (fun k _ => by rw [foghornlaw05_SliceRows.l2, if_neg (by omega)]; rfl) (sr_l3 W B hr 20 0 o rfl (Nat.zero_le _) (by omega))
  | succ d ih =>
    intro i o hi h2
    exact Ev.stepTo _ (fun k _ => by rw [foghornlaw05_SliceRows.l2, if_pos (by omega), if_pos (by omega), wrap_id _ (by omega) (by omega), show ((i : Int) + 1) = ((i + 1 : Nat) : Int) from by omega]) (ih (i + 1) _ (by rw [List.length_set]; omega) (by rw [List.length_set]; exact h2))
theorem sr_l1 (W : List S80) (A B : List S83) (hA : A.length ≤ 65536) (hr : Ev (fun k => foghornlaw05_rows.f k B W) true) (L : List Int) (hL : ∀ x ∈ L, 0 ≤ x) (hl : L.length ≤ 65536) (d : Nat) : ∀ (i : Nat) (o : List Int), i + d = L.length → o.length = L.length → Ev (fun k => foghornlaw05_SliceRows.l1 k W A B o L (i : Int)) true := by
  induction d with
  | zero =>
    intro i o hi ho
    exact Ev.stepTo _ (fun k _ => by rw [foghornlaw05_SliceRows.l1, if_neg (by omega)]; rfl) (sr_l2 W B hr A.length 0 A (by omega) hA)
  | succ d ih =>
    intro i o hi ho
    have h := hL (rd L (i : Int)) (by rw [rdI _ _ (by omega)]; exact List.getElem_mem _)
    exact Ev.stepTo _ (fun k _ => by rw [foghornlaw05_SliceRows.l1, if_pos (by omega), if_pos (by omega), if_pos (by omega), if_neg (by omega), wrap_id _ (by omega) (by omega), show ((i : Int) + 1) = ((i + 1 : Nat) : Int) from by omega]) (ih (i + 1) _ (by omega) (by rw [List.length_set]; exact ho))
theorem sr_l0 (A : List S83) (hA : A.length ≤ 65536) (hr : Ev (fun k => foghornlaw05_rows.f k A (A.map cv)) true) (L : List Int) (hLe : L = lo A 0 A.length) (d : Nat) : ∀ (i n : Nat), i + d = A.length → n ≤ L.length → L.drop n = lo A i d → Ev (fun k => foghornlaw05_SliceRows.l0 k (A.map cv) A A L L (n : Int) (i : Int)) true := by
  have hLl : L.length ≤ 65536 := by have := lo_len A A.length 0; rw [hLe]; omega
  have hLn : ∀ x ∈ L, 0 ≤ x := by rw [hLe]; exact lo_nat A A.length 0
  induction d with
  | zero =>
    intro i n hi hn hd
    have e : n = L.length := by
      have h : (L.drop n).length = 0 := by rw [hd]; rfl
      rw [List.length_drop] at h
      omega
    refine Ev.stepTo _ (fun k _ => by rw [foghornlaw05_SliceRows.l0, if_neg (by rw [List.length_map]; omega), if_pos (by omega)]) ?_
    exact Ev.stepTo _ (fun k _ => by rw [foghornlaw05_SliceRows.j2, e, if_neg (by simp)]; rfl) (sr_l1 _ A A hA hr L hLn hLl L.length 0 L (by omega) rfl)
  | succ d ih =>
    intro i n hi hn hd
    have hw : wrap64 ((i : Int) + 1) = ((i + 1 : Nat) : Int) := by rw [wrap_id _ (by omega) (by omega)]; omega
    have ef : (rd_T80 (A.map cv) (i : Int)).f2 = (rd_T83 A (i : Int)).f2 := by rw [rd80_map _ _ (by omega)]; rfl
    by_cases c : (rd_T83 A (i : Int)).f2 = true
    · have e : lo A i (d + 1) = (i : Int) :: lo A (i + 1) d := by show (if _ then _ else _) = _; rw [if_pos c]
      rw [e] at hd
      have hnl : n < L.length := by
        rcases Nat.lt_or_ge n L.length with h | h
        · exact h
        · rw [List.drop_eq_nil_of_le h] at hd; cases hd
      rw [List.drop_eq_getElem_cons hnl] at hd
      injection hd with hd1 hd2
      have hrd : rd L (n : Int) = (i : Int) := by rw [rdI _ _ hnl]; exact hd1
      have hwn : wrap64 ((n : Int) + 1) = ((n + 1 : Nat) : Int) := by rw [wrap_id _ (by omega) (by omega)]; omega
      exact Ev.stepTo _ (fun k _ => by rw [foghornlaw05_SliceRows.l0, if_pos (by rw [List.length_map]; omega), if_pos (by omega), if_pos (by rw [ef]; exact c), if_neg (by omega), if_pos (by omega), if_pos (by omega), if_pos hrd, if_neg (by omega), if_pos (by omega), if_pos hrd, hwn, hw]) (ih (i + 1) (n + 1) (by omega) (by omega) hd2)
    · have e : lo A i (d + 1) = lo A (i + 1) d := by show (if _ then _ else _) = _; rw [if_neg c]
      rw [e] at hd
      exact Ev.stepTo _ (fun k _ => by rw [foghornlaw05_SliceRows.l0, if_pos (by rw [List.length_map]; omega), if_pos (by omega), if_neg (by rw [ef]; exact c), hw]) (ih (i + 1) n (by omega) hn hd)
theorem sum_const (l : List S206) : ((l.map (fun _ : S206 => (1 + 1 + 1 + 1))).sum) = 4 * l.length := by
  induction l with
  | nil => rfl
  | cons a t ih => rw [List.map_cons, List.sum_cons, ih, List.length_cons]; omega
end Go.Proofs.Ythfcafllcgjepaa.Slc
namespace Go.Proofs.Ythfcafllcgjepaa.Pure
open Go.RowKit Go.Proofs.Ythfcafllcgjepaa.Q Go.Proofs.YthfcafllcgjepaaW.PrintWords Go.Proofs.YthfcafllcgjepaaW.PrintLast Go.Proofs.Ythfcafllcgjepaa.Slc Go.Proofs.Ythfcafllcgjepaa.Feed Go.Proofs.Ythfcafllcgjepaa.Flt
theorem SliceRows : foghornlaw05_SliceRows.Pure := by
  intro s l _ hl hk
  rw [sum_const] at hk
  have hlen : l.length ≤ 1048576 := by omega
  obtain ⟨t, t1, t2, t3⟩ := samples_l0 l hlen hl.2 l.length 0 [] (by omega) rfl (fun z hz => by cases hz)
  have t1' : Ev (fun k => foghornlaw05_samples.f k l) t := t1
  obtain ⟨A, e, a1, a2, a3, a4⟩ := row_both s t (fun x hx => (t3 x hx).1)
  have hr := rows_ev A a1 a2
  refine Ev.rounds (g := fun k => foghornlaw05_SliceRows.f k s l) ?_
  refine Ev.congr (fun k => by rw [foghornlaw05_SliceRows.f]) ?_
  refine Ev.bind t1' (Ev.bind a4 (Ev.bind a3 (Ev.bind a3 ?_)))
  refine Ev.congr (fun k => by rw [if_pos rfl]) ?_
  refine Ev.bind hr ?_
  refine Ev.congr (fun k => by rw [if_pos rfl]) ?_
  refine Ev.bind hr ?_
  have hm : rd_T101 (t ++ [(⟨(4651892959631900672, 0), false⟩ : S101)]) (l.length : Int) = ⟨(4651892959631900672, 0), false⟩ := by
    rw [rd101 _ _ (by rw [List.length_append]; simp; omega), List.getElem_append_right (by omega)]
    simp [t2]
  have q1 : (FloatKind.f64.format.order 4651892959631900672 4651892959631900672 == some .eq) = true := by decide +kernel
  have q2 : (FloatKind.f64.format.order 0 0 == some .eq) = true := by decide +kernel
  refine Ev.congr (fun k => by rw [if_pos rfl, if_pos (by rw [wrap_id _ (by omega) (by omega)]; omega), Option.bind_some, if_pos (by omega), if_pos (by rw [List.length_append]; simp; omega), hm, q1, q2, if_neg (by decide)]) ?_
  refine Ev.bind t1' (Ev.bind (same02 t (by omega) t3) ?_)
  refine Ev.stepTo _ (fun k _ => by rw [foghornlaw05_SliceRows.j0, if_neg (by decide)]) ?_
  exact Ev.bind (lost_ev A a1) (Ev.bind (lost_ev A a1) (sr_l0 A a1 hr _ rfl A.length 0 0 (by omega) (Nat.zero_le _) rfl))
end Go.Proofs.Ythfcafllcgjepaa.Pure
