import Derived.Test.YthfcafllcgjepaaMeterNoneFeed1
import Derived.Test.YthfcafllcgjepaaMeterNoneF0
/- Layer 30: wrong bits, and their runs: the program and the document alike. -/
namespace Go.Proofs.Ythfcafllcgjepaa.Met
open Go.RowKit Go.Proofs.Ythfcafllcgjepaa.Q Go.Proofs.YthfcafllcgjepaaW.PrintWords Go.Proofs.YthfcafllcgjepaaW.PrintLast Go.Proofs.YthfcafllcgjepaaW.PrintMore Go.Proofs.Ythfcafllcgjepaa.Feed

/-- Are the bits at i unlike? -/
abbrev un (a b : List Bool) (i : Nat) : Bool := rdOf false a (i : Int) != rdOf false b (i : Int)
/-- How many of d places from i on are unlike. -/
def C (a b : List Bool) : Nat → Nat → Nat
  | _, 0 => 0
  | i, d + 1 => C a b (i + 1) d + (if un a b i then 1 else 0)
/-- The first of d places from i on that is unlike; 0: none is. -/
def F (a b : List Bool) : Nat → Nat → Nat
  | _, 0 => 0
  | i, d + 1 => if un a b i then i else F a b (i + 1) d
theorem C_le (a b : List Bool) (d : Nat) : ∀ i, C a b i d ≤ d := by
  induction d with
  | zero => intro i; exact Nat.le_refl _
  | succ d ih => intro i; have := ih (i + 1); unfold C; split <;> omega
theorem F_none (a b : List Bool) (d : Nat) : ∀ i, C a b i d = 0 → F a b i d = 0 := by
  induction d with
  | zero => intro i _; rfl
  | succ d ih =>
    intro i h
    unfold C at h
    unfold F
    by_cases c : un a b i = true
    · rw [if_pos c] at h; omega
    · rw [if_neg c] at h ⊢; exact ih _ (by omega)
theorem Errors_l0 (a b : List Bool) (hab : b.length = a.length) (hl : a.length ≤ 32768) (d : Nat) : ∀ (i w f : Nat), i + d = a.length → w ≤ i → f ≤ i → Ev (fun k => meter_Errors.l0 k a b (w : Int) (f : Int) (a.length : Int) (i : Int)) (((w + C a b i d : Nat) : Int), ((if w = 0 then (if C a b i d = 0 then f else F a b i d) else f : Nat) : Int), 0) := by
  induction d with
  | zero =>
    intro i w f hi hw hf
    refine Ev.stepTo _ (fun k _ => by rw [meter_Errors.l0, if_neg (by omega)]) (Ev.congr (fun k => ?_) (Ev.now _))
    have e0 : C a b i 0 = 0 := rfl
    rw [e0, if_pos rfl]
    by_cases c : w = 0
    · rw [if_pos c]; rfl
    · rw [if_neg c]; rfl
  | succ d ih =>
    intro i w f hi hw hf
    have hC : C a b i (d + 1) = C a b (i + 1) d + (if un a b i then 1 else 0) := rfl
    have hF : F a b i (d + 1) = if un a b i then i else F a b (i + 1) d := rfl
    by_cases c : un a b i = true
    · rw [if_pos c] at hC hF
      by_cases c2 : w = 0
      · have := ih (i + 1) (w + 1) i (by omega) (by omega) (by omega)
        rw [if_neg (by omega)] at this
        rw [if_pos c2, if_neg (by omega), hF, hC, show w + (C a b (i + 1) d + 1) = w + 1 + C a b (i + 1) d by omega]
        exact Ev.stepTo _ (fun k _ => by rw [meter_Errors.l0, if_pos (by omega), if_pos (by omega), if_pos (by omega), if_pos (by omega), if_pos c, if_pos (by omega), wrap_id _ (by omega) (by omega), wrap_id _ (by omega) (by omega), show ((w : Int) + 1) = ((w + 1 : Nat) : Int) from by omega, show ((i : Int) + 1) = ((i + 1 : Nat) : Int) from by omega]) this
      · have := ih (i + 1) (w + 1) f (by omega) (by omega) (by omega)
        rw [if_neg (by omega)] at this
        rw [if_neg c2, hC, show w + (C a b (i + 1) d + 1) = w + 1 + C a b (i + 1) d by omega]
        exact Ev.stepTo _ (fun k _ => by rw [meter_Errors.l0, if_pos (by omega), if_pos (by omega), if_pos (by omega), if_pos (by omega), if_pos c, if_neg (by omega), wrap_id _ (by omega) (by omega), wrap_id _ (by omega) (by omega), show ((w : Int) + 1) = ((w + 1 : Nat) : Int) from by omega, show ((i : Int) + 1) = ((i + 1 : Nat) : Int) from by omega]) this
    · rw [if_neg c] at hC hF
      have := ih (i + 1) w f (by omega) (by omega) (by omega)
      rw [hC, hF, Nat.add_zero]
      exact Ev.stepTo _ (fun k _ => by rw [meter_Errors.l0, if_pos (by omega), if_pos (by omega), if_pos (by omega), if_pos (by omega), if_neg c, wrap_id _ (by omega) (by omega), show ((i : Int) + 1) = ((i + 1 : Nat) : Int) from by omega]) this
theorem ref_Errors_l0 (a b : List Bool) (hab : b.length = a.length) (hl : a.length ≤ 32768) (i : Nat) : ∀ (d : Nat), i + d = a.length → Ev (fun k => foghornref30_Errors.l0 k a b ((C a b i d : Nat) : Int) ((F a b i d : Nat) : Int) ((i : Int) - 1)) (((C a b 0 a.length : Nat) : Int), ((F a b 0 a.length : Nat) : Int), 0) := by
  induction i with
  | zero =>
    intro d hd
    rw [show d = a.length by omega]
    exact Ev.stepTo _ (fun k _ => by rw [foghornref30_Errors.l0, if_neg (by omega)]) (Ev.now _)
  | succ i ih =>
    intro d hd
    have h := ih (d + 1) (by omega)
    have hC : C a b i (d + 1) = C a b (i + 1) d + (if un a b i then 1 else 0) := rfl
    have hF : F a b i (d + 1) = if un a b i then i else F a b (i + 1) d := rfl
    have hb := C_le a b d (i + 1)
    have e : (((i + 1 : Nat) : Int) - 1) = (i : Int) := by omega
    by_cases c : un a b i = true
    · rw [hC, hF, if_pos c, if_pos c] at h
      exact Ev.stepTo _ (fun k _ => by rw [foghornref30_Errors.l0, e, if_pos (by omega), if_pos (by omega), if_pos (by omega), if_pos (by omega), if_pos c, wrap_id _ (by omega) (by omega), wrap_id _ (by omega) (by omega), show ((C a b (i + 1) d : Nat) : Int) + 1 = ((C a b (i + 1) d + 1 : Nat) : Int) from by omega]) h
    · rw [hC, hF, if_neg c, if_neg c, Nat.add_zero] at h
      exact Ev.stepTo _ (fun k _ => by rw [foghornref30_Errors.l0, e, if_pos (by omega), if_pos (by omega), if_pos (by omega), if_pos (by omega), if_neg c, wrap_id _ (by omega) (by omega)]) h
theorem rows_f (a b : List Bool) : meter_rows.f a b = some (decide (a.length ≤ 32768 ∧ a.length = b.length)) := by
  unfold meter_rows.f
  by_cases h : a.length ≤ 32768
  · rw [if_pos (by omega)]
    congr 1
    by_cases e : a.length = b.length
    · rw [e]; simp; omega
    · rw [decide_eq_false (fun h => e h.2)]
      exact beq_eq_false_iff_ne.2 (by omega)
  · rw [if_neg (by omega), decide_eq_false (fun h2 => h h2.1)]
def errs (a b : List Bool) : Int × Int × Int := if a.length ≤ 32768 ∧ a.length = b.length then (((C a b 0 a.length : Nat) : Int), ((F a b 0 a.length : Nat) : Int), 0) else (0, 0, 1)
theorem errors_ev (a b : List Bool) : Ev (fun k => meter_Errors.f k a b) (errs a b) := by
  unfold errs
  by_cases h : a.length ≤ 32768 ∧ a.length = b.length
  · rw [if_pos h]
    have := Errors_l0 a b h.2.symm h.1 a.length 0 0 0 (by omega) (by omega) (by omega)
    rw [if_pos rfl, Nat.zero_add] at this
    refine Ev.congr (fun k => by rw [meter_Errors.f, rows_f, decide_eq_true h, Option.bind_some, if_pos rfl]) ?_
    have e : (if C a b 0 a.length = 0 then 0 else F a b 0 a.length) = F a b 0 a.length := by
      by_cases c : C a b 0 a.length = 0
      · rw [if_pos c, F_none _ _ _ _ c]
      · rw [if_neg c]
    rw [e] at this
    exact this
  · rw [if_neg h]
    exact Ev.congr (fun k => by rw [meter_Errors.f, rows_f, decide_eq_false h, Option.bind_some, if_neg (by decide)]) (Ev.now _)
theorem ref_errors_ev (a b : List Bool) (ha : a.length ≤ 140737488351232) : Ev (fun k => foghornref30_Errors.f k a b) (errs a b) := by
  unfold errs
  by_cases h1 : a.length ≤ 32768
  · by_cases h2 : a.length = b.length
    · rw [if_pos ⟨h1, h2⟩]
      refine Ev.congr (fun k => by rw [foghornref30_Errors.f, if_neg (by omega)]) (Ev.stepTo _ (fun k _ => by rw [foghornref30_Errors.j0, if_neg (by rw [← h2]; simp), wrap_id _ (by omega) (by omega)]) ?_)
      exact ref_Errors_l0 a b h2.symm h1 a.length 0 (by omega)
    · rw [if_neg (fun h => h2 h.2)]
      exact Ev.congr (fun k => by rw [foghornref30_Errors.f, if_neg (by omega)]) (Ev.stepTo _ (fun k _ => by rw [foghornref30_Errors.j0, if_pos (bne_iff_ne.2 (by omega))]) (Ev.now _))
  · rw [if_neg (fun h => h1 h.1)]
    exact Ev.congr (fun k => by rw [foghornref30_Errors.f, if_pos (by omega)]) (Ev.stepTo _ (fun k _ => by rw [foghornref30_Errors.j0, if_pos rfl]) (Ev.now _))
/-! ## runs -/
abbrev Run := S49
def conv (r : S49) : S183 := ⟨r.f0, r.f1, r.f2⟩
theorem rd49 (l : List S49) (i : Nat) (h : i < l.length) : rd_T49 l (i : Int) = l[i] := by
  unfold rd_T49
  rw [Int.toNat_natCast, List.getD_eq_getElem?_getD, List.getElem?_eq_getElem h]
  rfl
theorem rd183 (l : List S183) (i : Nat) (h : i < l.length) : rd_T183 l (i : Int) = l[i] := by
  unfold rd_T183
  rw [Int.toNat_natCast, List.getD_eq_getElem?_getD, List.getElem?_eq_getElem h]
  rfl
/-- One more wrong bit, at i. -/
def more (gap : Int) (l : List S49) (i : Nat) : List S49 :=
  match l.getLast? with
  | none => l ++ [⟨i, 1, 1⟩]
  | some r => if (i : Int) - r.f0 - r.f1 ≤ gap then l.dropLast ++ [⟨r.f0, i - r.f0 + 1, r.f2 + 1⟩] else l ++ [⟨i, 1, 1⟩]
def runs (a b : List Bool) (gap : Int) : Nat → Nat → List S49 → List S49
  | _, 0, l => l
  | i, d + 1, l => runs a b gap (i + 1) d (if un a b i then more gap l i else l)
/-- What holds of the runs ahead of i. -/
def Ok (l : List S49) (i : Nat) : Prop := l.length ≤ i ∧ ∀ r, l.getLast? = some r → 0 ≤ r.f0 ∧ 1 ≤ r.f1 ∧ r.f0 + r.f1 ≤ i ∧ 1 ≤ r.f2 ∧ r.f2 ≤ i
theorem Ok.next {l : List S49} {i : Nat} (h : Ok l i) : Ok l (i + 1) := ⟨by have := h.1; omega, fun r hr => by have := h.2 r hr; omega⟩
theorem Ok.more {l : List S49} {i : Nat} (h : Ok l i) (gap : Int) : Ok (more gap l i) (i + 1) := by
  unfold Met.more
  have h1 := h.1
  have app : Ok (l ++ [⟨i, 1, 1⟩]) (i + 1) := by
    refine ⟨by rw [List.length_append]; simp; omega, fun r hr => ?_⟩
    rw [List.getLast?_concat] at hr
    obtain rfl := Option.some.inj hr
    show (0 : Int) ≤ (i : Int) ∧ (1 : Int) ≤ 1 ∧ (i : Int) + 1 ≤ ((i + 1 : Nat) : Int) ∧ (1 : Int) ≤ 1 ∧ (1 : Int) ≤ ((i + 1 : Nat) : Int)
    omega
  split
  · exact app
  · rename_i r hr
    have h2 := h.2 r hr
    split
    · refine ⟨?_, fun q hq => ?_⟩
      · rw [List.length_append, List.length_dropLast]
        simp
        omega
      · rw [List.getLast?_concat] at hq
        obtain rfl := Option.some.inj hq
        show (0 : Int) ≤ r.f0 ∧ (1 : Int) ≤ (i : Int) - r.f0 + 1 ∧ r.f0 + ((i : Int) - r.f0 + 1) ≤ ((i + 1 : Nat) : Int) ∧ (1 : Int) ≤ r.f2 + 1 ∧ r.f2 + 1 ≤ ((i + 1 : Nat) : Int)
        omega
    · exact app
theorem last_at {l : List S49} {r : S49} (h : l.getLast? = some r) : 0 < l.length ∧ l[l.length - 1]? = some r := by
  have h0 : l ≠ [] := fun e => by rw [e] at h; cases h
  have h1 : 0 < l.length := List.length_pos_iff.2 h0
  rw [List.getLast?_eq_getElem?] at h
  exact ⟨h1, h⟩
theorem set_last (l : List S49) (r : S49) (h : 0 < l.length) : l.set (l.length - 1) r = l.dropLast ++ [r] := by
  apply List.ext_getElem?
  intro j
  by_cases c : j = l.length - 1
  · subst c
    rw [List.getElem?_set_self (by omega), List.getElem?_append_right (by rw [List.length_dropLast]; omega), List.length_dropLast, Nat.sub_self]
    rfl
  · rw [List.getElem?_set_ne (by omega)]
    rcases Nat.lt_or_ge j (l.length - 1) with c2 | c2
    · rw [List.getElem?_append_left (by rw [List.length_dropLast]; omega), List.getElem?_dropLast, if_pos c2]
    · rw [List.getElem?_eq_none (by omega), List.getElem?_eq_none (by rw [List.length_append, List.length_dropLast]; simp; omega)]
theorem Runs_l0 (a b : List Bool) (hab : b.length = a.length) (hl : a.length ≤ 32768) (gap : Int) (d : Nat) : ∀ (i : Nat) (l : List S49), i + d = a.length → Ok l i → Ev (fun k => meter_Runs.l0 k a b gap l (a.length : Int) (i : Int)) (runs a b gap i d l, 0) := by
  induction d with
  | zero =>
    intro i l hi ho
    exact Ev.stepTo _ (fun k _ => by rw [meter_Runs.l0, if_neg (by omega)]; rfl) (Ev.now _)
  | succ d ih =>
    intro i l hi ho
    have hlen := ho.1
    have hw : wrap64 ((i : Int) + 1) = ((i + 1 : Nat) : Int) := by rw [wrap_id _ (by omega) (by omega)]; omega
    by_cases c : un a b i = true
    · have h := ih (i + 1) (more gap l i) (by omega) (ho.more gap)
      have hr : runs a b gap i (d + 1) l = runs a b gap (i + 1) d (more gap l i) := by
        show runs a b gap (i + 1) d (if un a b i then more gap l i else l) = _
        rw [if_pos c]
      rw [hr]
      have cne : ¬ ((rdOf false a (i : Int) == rdOf false b (i : Int)) = true) := by
        have := c
        unfold un at this
        rw [bne, Bool.not_eq_true'] at this
        rw [this]; decide
      refine Ev.stepTo (fun k => meter_Runs.l0 k a b gap (more gap l i) (a.length : Int) ((i + 1 : Nat) : Int)) (fun k _ => ?_) h
      rw [meter_Runs.l0, if_pos (by omega), if_pos (by omega), if_pos (by omega), if_pos (by omega), if_neg cne]
      cases hg : l.getLast? with
      | none =>
        have h0 : l = [] := List.getLast?_eq_none_iff.1 hg
        subst h0
        rw [if_neg (by rw [List.length_nil, wrap_id _ (by omega) (by omega)]; omega), if_pos (by decide), hw]
        unfold more
        rw [hg]
      | some r =>
        obtain ⟨h1, h2⟩ := last_at hg
        have hb := ho.2 r hg
        have e1 : wrap64 ((l.length : Int) - 1) = ((l.length - 1 : Nat) : Int) := by rw [wrap_id _ (by omega) (by omega)]; omega
        have e2 : rd_T49 l ((l.length - 1 : Nat) : Int) = r := by
          rw [rd49 _ _ (by omega)]
          exact Option.some.inj ((List.getElem?_eq_getElem (by omega)).symm.trans h2)
        rw [e1, if_pos (by omega), if_pos (by omega), if_pos (by omega), e2, wrap_id ((i : Int) - r.f0) (by omega) (by omega), wrap_id ((i : Int) - r.f0 - r.f1) (by omega) (by omega), hw]
        unfold more
        rw [hg]
        by_cases c2 : (i : Int) - r.f0 - r.f1 ≤ gap
        · rw [if_pos c2, Option.bind_some]
          show _ = meter_Runs.l0 k a b gap (if (i : Int) - r.f0 - r.f1 ≤ gap then _ else _) _ _
          rw [if_pos c2, Int.toNat_natCast, wrap_id ((i : Int) - r.f0 + 1) (by omega) (by omega)]
          rw [rd49 _ _ (by rw [List.length_set]; omega), List.getElem_set_self, List.set_set, wrap_id (r.f2 + 1) (by omega) (by omega), set_last _ _ h1]
        · rw [if_neg c2, if_pos (by omega)]
          show _ = meter_Runs.l0 k a b gap (if (i : Int) - r.f0 - r.f1 ≤ gap then _ else _) _ _
          rw [if_neg c2]
    · have h := ih (i + 1) l (by omega) ho.next
      have hr : runs a b gap i (d + 1) l = runs a b gap (i + 1) d l := by
        show runs a b gap (i + 1) d (if un a b i then more gap l i else l) = _
        rw [if_neg c]
      rw [hr]
      have ceq : (rdOf false a (i : Int) == rdOf false b (i : Int)) = true := by
        have := c
        unfold un at this
        rw [bne, Bool.not_eq_true', Bool.not_eq_false] at this
        exact this
      refine Ev.stepTo (fun k => meter_Runs.l0 k a b gap l (a.length : Int) ((i + 1 : Nat) : Int)) (fun k _ => ?_) h
      rw [meter_Runs.l0, if_pos (by omega), if_pos (by omega), if_pos (by omega), if_pos (by omega), if_pos ceq, hw]
def lastOf (l : List S49) : Int := match l.getLast? with | none => -1 | some r => r.f0 + r.f1 - 1
theorem lastOf_app (l : List S49) (r : S49) : lastOf (l ++ [r]) = r.f0 + r.f1 - 1 := by unfold lastOf; rw [List.getLast?_concat]
theorem lastOf_more (gap : Int) (l : List S49) (i : Nat) : lastOf (more gap l i) = i := by
  unfold more
  split
  · rw [lastOf_app]; show (i : Int) + 1 - 1 = i; omega
  · rename_i r _
    split
    · rw [lastOf_app]; show r.f0 + ((i : Int) - r.f0 + 1) - 1 = i; omega
    · rw [lastOf_app]; show (i : Int) + 1 - 1 = i; omega
theorem map_dropLast (l : List S49) : (l.map conv).dropLast = l.dropLast.map conv := by rw [List.map_dropLast]
theorem ref_Runs_l0 (a b : List Bool) (hab : b.length = a.length) (hl : a.length ≤ 32768) (gap : Int) (d : Nat) : ∀ (i : Nat) (l : List S49), i + d = a.length → Ok l i → Ev (fun k => foghornref30_Runs.l0 k a b gap (l.map conv) (lastOf l) (i : Int)) ((runs a b gap i d l).map conv, 0) := by
  induction d with
  | zero =>
    intro i l hi ho
    exact Ev.stepTo _ (fun k _ => by rw [foghornref30_Runs.l0, if_neg (by omega)]; rfl) (Ev.now _)
  | succ d ih =>
    intro i l hi ho
    have hlen := ho.1
    have hw : wrap64 ((i : Int) + 1) = ((i + 1 : Nat) : Int) := by rw [wrap_id _ (by omega) (by omega)]; omega
    by_cases c : un a b i = true
    · have h := ih (i + 1) (more gap l i) (by omega) (ho.more gap)
      rw [lastOf_more] at h
      have hr : runs a b gap i (d + 1) l = runs a b gap (i + 1) d (more gap l i) := by
        show runs a b gap (i + 1) d (if un a b i then more gap l i else l) = _
        rw [if_pos c]
      rw [hr]
      have cne : ¬ ((rdOf false a (i : Int) == rdOf false b (i : Int)) = true) := by
        have := c
        unfold un at this
        rw [bne, Bool.not_eq_true'] at this
        rw [this]; decide
      refine Ev.stepTo (fun k => foghornref30_Runs.l0 k a b gap ((more gap l i).map conv) (i : Int) ((i + 1 : Nat) : Int)) (fun k _ => ?_) h
      rw [foghornref30_Runs.l0, if_pos (by omega), if_pos (by omega), if_pos (by omega), if_neg cne]
      cases hg : l.getLast? with
      | none =>
        have h0 : l = [] := List.getLast?_eq_none_iff.1 hg
        subst h0
        rw [if_neg (by decide), if_pos (by decide), hw]
        unfold more
        rw [hg]
        rfl
      | some r =>
        obtain ⟨h1, h2⟩ := last_at hg
        have hb := ho.2 r hg
        have e1 : wrap64 (((l.map conv).length : Int) - 1) = ((l.length - 1 : Nat) : Int) := by rw [List.length_map, wrap_id _ (by omega) (by omega)]; omega
        have e2 : rd_T183 (l.map conv) ((l.length - 1 : Nat) : Int) = conv r := by
          rw [rd183 _ _ (by rw [List.length_map]; omega), List.getElem_map]
          congr 1
          exact Option.some.inj ((List.getElem?_eq_getElem (by omega)).symm.trans h2)
        have e3 : lastOf l = r.f0 + r.f1 - 1 := by unfold lastOf; rw [hg]
        rw [e3, if_pos (by omega), e1, wrap_id ((i : Int) - (r.f0 + r.f1 - 1)) (by omega) (by omega), wrap_id ((i : Int) - (r.f0 + r.f1 - 1) - 1) (by omega) (by omega), e2, hw]
        unfold more
        rw [hg]
        by_cases c2 : (i : Int) - r.f0 - r.f1 ≤ gap
        · rw [if_pos (by omega), if_pos (by omega), if_pos (by rw [List.length_map]; omega)]
          show _ = foghornref30_Runs.l0 k a b gap ((if (i : Int) - r.f0 - r.f1 ≤ gap then _ else _ : List S49).map conv) _ _
          rw [if_pos c2, Int.toNat_natCast]
          have e4 : (conv r).f0 = r.f0 := rfl
          have e5 : (conv r).f2 = r.f2 := rfl
          rw [e4, e5, wrap_id ((i : Int) - r.f0) (by omega) (by omega), wrap_id ((i : Int) - r.f0 + 1) (by omega) (by omega), wrap_id (r.f2 + 1) (by omega) (by omega), ← set_last _ _ h1, List.map_set]
          rfl
        · rw [if_neg (by omega), if_pos (by rw [List.length_map]; omega)]
          show _ = foghornref30_Runs.l0 k a b gap ((if (i : Int) - r.f0 - r.f1 ≤ gap then _ else _ : List S49).map conv) _ _
          rw [if_neg c2, List.map_append]
          rfl
    · have h := ih (i + 1) l (by omega) ho.next
      have hr : runs a b gap i (d + 1) l = runs a b gap (i + 1) d l := by
        show runs a b gap (i + 1) d (if un a b i then more gap l i else l) = _
        rw [if_neg c]
      rw [hr]
      have ceq : (rdOf false a (i : Int) == rdOf false b (i : Int)) = true := by
        have := c
        unfold un at this
        rw [bne, Bool.not_eq_true', Bool.not_eq_false] at this
        exact this
      refine Ev.stepTo (fun k => foghornref30_Runs.l0 k a b gap (l.map conv) (lastOf l) ((i + 1 : Nat) : Int)) (fun k _ => ?_) h
      rw [foghornref30_Runs.l0, if_pos (by omega), if_pos (by omega), if_pos (by omega), if_pos ceq, hw]
theorem runs_len (a b : List Bool) (gap : Int) (d : Nat) : ∀ (i : Nat) (l : List S49), Ok l i → Ok (runs a b gap i d l) (i + d) := by
  induction d with
  | zero => intro i l h; exact h
  | succ d ih =>
    intro i l h
    show Ok (runs a b gap (i + 1) d (if un a b i then more gap l i else l)) _
    rw [show i + (d + 1) = i + 1 + d by omega]
    split
    · exact ih _ _ (h.more gap)
    · exact ih _ _ h.next
theorem Ok.nil : Ok [] 0 := ⟨Nat.le_refl _, fun r h => by cases h⟩
def allRuns (a b : List Bool) (gap : Int) : List S49 × Int := if (a.length ≤ 32768 ∧ a.length = b.length) ∧ 0 ≤ gap then (runs a b gap 0 a.length [], 0) else ([], 1)
theorem runs_ev (a b : List Bool) (gap : Int) : Ev (fun k => meter_Runs.f k a b gap) (allRuns a b gap) := by
  unfold allRuns
  by_cases h : a.length ≤ 32768 ∧ a.length = b.length
  · by_cases g : 0 ≤ gap
    · rw [if_pos ⟨h, g⟩]
      refine Ev.congr (fun k => by rw [meter_Runs.f, rows_f, decide_eq_true h, Option.bind_some, if_pos rfl, decide_eq_false (by omega)]) (Ev.stepTo _ (fun k _ => by rw [meter_Runs.j0, if_neg (by decide)]) ?_)
      exact Runs_l0 a b h.2.symm h.1 gap a.length 0 [] (by omega) Ok.nil
    · rw [if_neg (fun h => g h.2)]
      exact Ev.congr (fun k => by rw [meter_Runs.f, rows_f, decide_eq_true h, Option.bind_some, if_pos rfl, decide_eq_true (by omega)]) (Ev.stepTo _ (fun k _ => by rw [meter_Runs.j0, if_pos rfl]) (Ev.now _))
  · rw [if_neg (fun h2 => h h2.1)]
    exact Ev.congr (fun k => by rw [meter_Runs.f, rows_f, decide_eq_false h, Option.bind_some, if_neg (by decide)]) (Ev.stepTo _ (fun k _ => by rw [meter_Runs.j0, if_pos rfl]) (Ev.now _))
theorem ref_runs_ev (a b : List Bool) (gap : Int) (ha : a.length ≤ 140737488351232) : Ev (fun k => foghornref30_Runs.f k a b gap) ((allRuns a b gap).1.map conv, (allRuns a b gap).2) := by
  unfold allRuns
  by_cases h1 : a.length ≤ 32768
  · by_cases h2 : a.length = b.length
    · by_cases g : 0 ≤ gap
      · rw [if_pos ⟨⟨h1, h2⟩, g⟩]
        refine Ev.congr (fun k => by rw [foghornref30_Runs.f, if_neg (by omega), if_pos (by omega), decide_eq_false (by omega)]) (Ev.stepTo _ (fun k _ => by rw [foghornref30_Runs.j0, if_neg (by decide)]) ?_)
        exact ref_Runs_l0 a b h2.symm h1 gap a.length 0 [] (by omega) Ok.nil
      · rw [if_neg (fun h => g h.2)]
        exact Ev.congr (fun k => by rw [foghornref30_Runs.f, if_neg (by omega), if_pos (by omega), decide_eq_true (by omega)]) (Ev.stepTo _ (fun k _ => by rw [foghornref30_Runs.j0, if_pos rfl]; rfl) (Ev.now _))
    · rw [if_neg (fun h => h2 h.1.2)]
      exact Ev.congr (fun k => by rw [foghornref30_Runs.f, if_neg (by omega), if_neg (by omega)]) (Ev.stepTo _ (fun k _ => by rw [foghornref30_Runs.j0, if_pos rfl]; rfl) (Ev.now _))
  · rw [if_neg (fun h => h1 h.1.1)]
    exact Ev.congr (fun k => by rw [foghornref30_Runs.f, if_pos (by omega)]) (Ev.stepTo _ (fun k _ => by rw [foghornref30_Runs.j0, if_pos rfl]; rfl) (Ev.now _))
theorem allRuns_len (a b : List Bool) (gap : Int) : (allRuns a b gap).1.length ≤ 32768 := by
  unfold allRuns
  split
  · rename_i h
    have := (runs_len a b gap a.length 0 [] Ok.nil).1
    show (runs a b gap 0 a.length []).length ≤ 32768
    omega
  · exact Nat.zero_le _
theorem same_runs (l : List S49) (hl : l.length ≤ 32768) : Ev (fun k => foghornlaw30_runs.f k l (l.map conv)) true := by
  have go : ∀ (d i : Nat), i + d = l.length → Ev (fun k => foghornlaw30_runs.l0 k l (l.map conv) (i : Int)) true := by
    intro d
    induction d with
    | zero =>
      intro i hi
      exact Ev.stepTo _ (fun k _ => by rw [foghornlaw30_runs.l0, if_neg (by omega)]) (Ev.now _)
    | succ d ih =>
      intro i hi
      have e1 : rd_T183 (l.map conv) (i : Int) = conv (rd_T49 l (i : Int)) := by rw [rd183 _ _ (by rw [List.length_map]; omega), List.getElem_map, rd49 _ _ (by omega)]
      exact Ev.stepTo _ (fun k _ => by rw [foghornlaw30_runs.l0, if_pos (by omega), if_pos (by omega), if_pos (by rw [List.length_map]; omega), e1]; show (if (rd_T49 l (i : Int)).f0 = (rd_T49 l (i : Int)).f0 then (if (rd_T49 l (i : Int)).f1 = (rd_T49 l (i : Int)).f1 then (if (rd_T49 l (i : Int)).f2 = (rd_T49 l (i : Int)).f2 then _ else _) else _) else _) = _; rw [if_pos rfl, if_pos rfl, if_pos rfl, wrap_id _ (by omega) (by omega), show ((i : Int) + 1) = ((i + 1 : Nat) : Int) from by omega]) (ih (i + 1) (by omega))
  exact Ev.congr (fun k => by rw [foghornlaw30_runs.f, if_pos (by rw [List.length_map])]; rfl) (go l.length 0 (by omega))
/-! ## copies with a mark -/
theorem lent_f (l : List Bool) (h : l.length ≤ 140737488351232) : foghornlaw30_lent.f l = some l := by
  unfold foghornlaw30_lent.f
  rw [Option.bind_some, if_pos (by simp; omega), Option.bind_some, List.nil_append, if_pos (by omega), if_pos (by rw [List.length_append]; omega)]
theorem same24 (l : List Bool) (hl : l.length ≤ 140737488351232) : Ev (fun k => foghornref24_Same.f k l l) true := by
  have go : ∀ (d i : Nat), i + d = l.length → Ev (fun k => foghornref24_Same.l0 k l l (i : Int)) true := by
    intro d
    induction d with
    | zero =>
      intro i hi
      exact Ev.stepTo _ (fun k _ => by rw [foghornref24_Same.l0, if_neg (by omega)]) (Ev.now _)
    | succ d ih =>
      intro i hi
      exact Ev.stepTo _ (fun k _ => by rw [foghornref24_Same.l0, if_pos (by omega), if_pos (by omega), if_pos (by omega), if_neg (by simp), wrap_id _ (by omega) (by omega), show ((i : Int) + 1) = ((i + 1 : Nat) : Int) from by omega]) (ih (i + 1) (by omega))
  exact Ev.congr (fun k => by rw [foghornref24_Same.f, if_pos rfl]; rfl) (go l.length 0 (by omega))
theorem kept_ev (l : List Bool) (hl : l.length ≤ 140737488351232) : Ev (fun k => foghornlaw30_kept.f k l l) true :=
  Ev.congr (fun k => by rw [foghornlaw30_kept.f, if_pos (by omega)]) (same24 l hl)
theorem awake_ev : Ev (fun k => foghornlaw30_awake.f k) true := Ev.of (fun k => foghornlaw30_awake.mono k) (k := 100) (by decide +kernel)
end Go.Proofs.Ythfcafllcgjepaa.Met
