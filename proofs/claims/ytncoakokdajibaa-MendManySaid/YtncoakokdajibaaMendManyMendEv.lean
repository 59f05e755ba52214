import Derived.Test.YtncoakokdajibaaMendManyMendCore
import Derived.Test.YtncoakokdajibaaMendManyF1
/- Marked places, places unlike, the locator; and mending whole: what they come to. -/
namespace Go.Proofs.Ytncoakokdajibaa.Sem
open Go.RowKit Go.Proofs.Ytncoakokdajibaa.Q Go.Proofs.YtncoakokdajibaaW.PrintWords Go.Proofs.YtncoakokdajibaaW.PrintLast Go.Proofs.YtncoakokdajibaaW.PrintMore Go.Proofs.Ytncoakokdajibaa.Gf
def isf (l : List Int) (i : Nat) : Bool := decide ((i : Int) ∈ l)
def marks (n : Nat) (l : List Int) : List Bool := (List.range n).map (isf l)
theorem marks_length (n : Nat) (l : List Int) : (marks n l).length = n := by unfold marks; rw [List.length_map, List.length_range]
theorem rd_marks (n : Nat) (l : List Int) (i : Nat) (h : i < n) : rdOf false (marks n l) (i : Int) = isf l i := by
  unfold rdOf marks
  rw [Int.toNat_natCast, List.getD_eq_getElem?_getD, List.getElem?_map, List.getElem?_range h]
  rfl
theorem marks_get (n : Nat) (l : List Int) (m : Nat) (h : m < (marks n l).length) : (marks n l)[m] = isf l m := by
  simp only [marks, List.getElem_map, List.getElem_range]
theorem marks_set (n : Nat) (l : List Int) (i : Nat) (_h : i < n) : (marks n l).set i true = marks n (l ++ [(i : Int)]) := by
  apply List.ext_getElem
  · rw [List.length_set, marks_length, marks_length]
  · intro m h1 h2
    rw [List.getElem_set, marks_get, marks_get]
    unfold isf
    by_cases e : i = m
    · subst e
      rw [if_pos rfl]
      exact (decide_eq_true (List.mem_append_right _ (List.mem_singleton.2 rfl))).symm
    · rw [if_neg e]
      congr 1
      rw [List.mem_append, List.mem_singleton]
      refine propext ⟨Or.inl, fun h => h.elim id (fun h => absurd (Int.ofNat.inj h).symm e)⟩
def Good (n : Nat) (l : List Int) : Prop := (∀ x ∈ l, 0 ≤ x ∧ x < (n : Int)) ∧ l.Nodup
theorem marks_nil (n : Nat) : List.replicate n false = marks n [] := by
  apply List.ext_getElem
  · rw [List.length_replicate, marks_length]
  · intro m h1 h2
    rw [List.getElem_replicate, marks_get]
    rfl
theorem marked_l0 (n : Nat) (hn : n ≤ 255) (l : List Int) (hl : l.length < 9223372036854775807) : ∀ (rest dn : List Int), l = dn ++ rest → Good n dn →
    ∃ X : List Bool × Bool, Ev (fun k => mend_marked.l0 k (n : Int) (marks n dn) true l (l.length : Int) (dn.length : Int)) X ∧ ((Good n l ∧ X = (marks n l, true)) ∨ (¬ Good n l ∧ X.2 = false))
  | [], dn, h, hg => by
    rw [List.append_nil] at h
    subst h
    exact ⟨_, Ev.stepTo _ (fun k _ => by rw [mend_marked.l0, if_neg (by omega)]) (Ev.now _), Or.inl ⟨hg, rfl⟩⟩
  | x :: rest, dn, h, hg => by
    have hlen : l.length = dn.length + rest.length + 1 := by rw [h, List.length_append, List.length_cons]; omega
    have hrd : rd l (dn.length : Int) = x := by
      unfold rd
      rw [Int.toNat_natCast, h, List.getD_eq_getElem?_getD, List.getElem?_append_right (Nat.le_refl _), Nat.sub_self]
      rfl
    have hmem : x ∈ l := by rw [h]; exact List.mem_append_right _ (List.mem_cons_self ..)
    by_cases h0 : x < 0
    · exact ⟨_, Ev.stepTo _ (fun k _ => by rw [mend_marked.l0, if_pos (by omega), if_pos (by omega), if_pos (by omega), hrd, if_pos h0]) (Ev.now _), Or.inr ⟨fun hG => by have := (hG.1 x hmem).1; omega, rfl⟩⟩
    · by_cases h1 : x ≥ (n : Int)
      · exact ⟨_, Ev.stepTo _ (fun k _ => by rw [mend_marked.l0, if_pos (by omega), if_pos (by omega), if_pos (by omega), hrd, if_neg h0, if_pos h1]) (Ev.now _), Or.inr ⟨fun hG => by have := (hG.1 x hmem).2; omega, rfl⟩⟩
      · obtain ⟨i, rfl⟩ : ∃ i : Nat, x = (i : Int) := ⟨x.toNat, by omega⟩
        have hi : i < n := by omega
        by_cases h2 : (i : Int) ∈ dn
        · refine ⟨_, Ev.stepTo _ (fun k _ => by rw [mend_marked.l0, if_pos (by omega), if_pos (by omega), if_pos (by omega), hrd, if_neg h0, if_neg h1, if_pos (by omega), if_pos (by rw [marks_length]; omega), rd_marks n dn i hi, if_pos (show isf dn i = true from decide_eq_true h2)]) (Ev.now _), Or.inr ⟨fun hG => ?_, rfl⟩⟩
          have := hG.2
          rw [h, List.nodup_append] at this
          exact this.2.2 _ h2 _ (List.mem_cons_self ..) rfl
        · have hg' : Good n (dn ++ [(i : Int)]) := ⟨fun y hy => (List.mem_append.1 hy).elim (hg.1 y) (fun hy => by rw [List.mem_singleton.1 hy]; omega), by
            rw [List.nodup_append]
            refine ⟨hg.2, by simp, fun a ha b hb hab => ?_⟩
            rw [List.mem_singleton.1 hb] at hab
            exact h2 (hab ▸ ha)⟩
          obtain ⟨X, hX, hX2⟩ := marked_l0 n hn l hl rest (dn ++ [(i : Int)]) (by rw [h, List.append_assoc]; rfl) hg'
          refine ⟨X, Ev.stepTo _ (fun k _ => ?_) hX, hX2⟩
          rw [mend_marked.l0, if_pos (by omega), if_pos (by omega), if_pos (by omega), hrd, if_neg h0, if_neg h1, if_pos (by omega), if_pos (by rw [marks_length]; omega), rd_marks n dn i hi, if_neg (by unfold isf; rw [decide_eq_false h2]; decide), Int.toNat_natCast, marks_set n dn i hi, wrap_id _ (by omega) (by omega), List.length_append, show ((dn.length : Int) + 1) = ((dn.length + [(i : Int)].length : Nat) : Int) from by rw [List.length_singleton]; omega]
theorem marked_ev (n : Nat) (hn : n ≤ 255) (l : List Int) (hl : l.length < 9223372036854775807) : ∃ X : List Bool × Bool, Ev (fun k => mend_marked.f k l (n : Int)) X ∧ ((Good n l ∧ X = (marks n l, true)) ∨ (¬ Good n l ∧ X.2 = false)) := by
  obtain ⟨X, h1, h2⟩ := marked_l0 n hn l hl l [] rfl ⟨fun x hx => (nomatch hx), List.nodup_nil⟩
  refine ⟨X, Ev.congr (fun k => ?_) h1, h2⟩
  rw [mend_marked.f, if_pos (by omega), if_pos (by omega), Int.toNat_natCast, marks_nil]
  rfl
theorem filt1 {α : Type} (P : α → Bool) (a : α) (h : P a = true) : [a].filter P = [a] := by rw [List.filter_cons_of_pos h]; rfl
theorem filt0 {α : Type} (P : α → Bool) (a : α) (h : P a = false) : [a].filter P = [] := by rw [List.filter_cons_of_neg (by rw [h]; decide)]; rfl
theorem one_of (x : Int) : ∀ n : Nat, ((List.range n).filter (fun i : Nat => decide ((i : Int) = x))).length = if 0 ≤ x ∧ x < (n : Int) then 1 else 0
  | 0 => by rw [if_neg (by omega)]; rfl
  | n + 1 => by
    rw [List.range_succ, List.filter_append, List.length_append, one_of x n]
    by_cases e : (n : Int) = x
    · rw [filt1 (fun i : Nat => decide ((i : Int) = x)) n (decide_eq_true e), if_neg (by omega), if_pos (by omega)]
      rfl
    · rw [filt0 (fun i : Nat => decide ((i : Int) = x)) n (decide_eq_false e)]
      by_cases c : 0 ≤ x ∧ x < (n : Int)
      · rw [if_pos c, if_pos (by omega)]; rfl
      · rw [if_neg c, if_neg (by omega)]; rfl
theorem count_or {α : Type} (P Q : α → Bool) : ∀ L : List α, (∀ a ∈ L, P a = true → Q a = false) → (L.filter (fun a => P a || Q a)).length = (L.filter P).length + (L.filter Q).length
  | [], _ => rfl
  | a :: L, h => by
    have ih := count_or P Q L (fun b hb => h b (List.mem_cons_of_mem _ hb))
    have h1 := h a (List.mem_cons_self ..)
    cases hP : P a with
    | true => rw [List.filter_cons_of_pos (by rw [hP]; rfl), List.filter_cons_of_pos hP, List.filter_cons_of_neg (by rw [h1 hP]; decide), List.length_cons, List.length_cons, ih]; omega
    | false =>
      cases hQ : Q a with
      | true => rw [List.filter_cons_of_pos (by rw [hP, hQ]; rfl), List.filter_cons_of_neg (by rw [hP]; decide), List.filter_cons_of_pos hQ, List.length_cons, List.length_cons, ih]; omega
      | false => rw [List.filter_cons_of_neg (by rw [hP, hQ]; decide), List.filter_cons_of_neg (by rw [hP]; decide), List.filter_cons_of_neg (by rw [hQ]; decide), ih]
theorem gone_count (n : Nat) : ∀ l : List Int, Good n l → (gone n (isf l)).length = l.length
  | [], _ => by
    unfold gone isf
    rw [List.filter_eq_nil_iff.2 (fun a _ h => by simp at h)]
    rfl
  | x :: l, h => by
    have hn := List.nodup_cons.1 h.2
    have ih := gone_count n l ⟨fun y hy => h.1 y (List.mem_cons_of_mem _ hy), hn.2⟩
    have h1 := count_or (fun i : Nat => decide ((i : Int) = x)) (isf l) (List.range n) (fun a _ ha => by
      have := of_decide_eq_true ha
      unfold isf
      rw [this]
      exact decide_eq_false hn.1)
    rw [one_of, if_pos (h.1 x (List.mem_cons_self ..))] at h1
    unfold gone at ih ⊢
    rw [ih] at h1
    rw [List.length_cons, Nat.add_comm, ← h1]
    congr 1
    refine List.filter_congr (fun i _ => ?_)
    unfold isf
    rw [← Bool.decide_or]
    exact decide_eq_decide.2 List.mem_cons
def Lz (l : List Nat) : List Int := l.map (fun i : Nat => (i : Int))
theorem Lz_length (l : List Nat) : (Lz l).length = l.length := List.length_map _
theorem gone_succ (is : Nat → Bool) (i : Nat) : gone (i + 1) is = if is i = true then gone i is ++ [i] else gone i is := by
  unfold gone
  rw [List.range_succ, List.filter_append]
  by_cases h : is i = true
  · rw [if_pos h, List.filter_cons_of_pos h, List.filter_nil]
  · rw [if_neg h, List.filter_cons_of_neg h, List.filter_nil, List.append_nil]
theorem bad_succ (e : List F) (is : Nat → Bool) (i : Nat) : bad e (i + 1) is = if is i = false ∧ at_ e i ≠ 0 then bad e i is ++ [i] else bad e i is := by
  unfold bad
  rw [List.range_succ, List.filter_append]
  by_cases h : is i = false ∧ at_ e i ≠ 0
  · rw [if_pos h, filt1 (fun i => !is i && nz (at_ e i)) i (show (!is i && nz (at_ e i)) = true by unfold nz; rw [h.1, decide_eq_true h.2]; rfl)]
  · rw [if_neg h, filt0 (fun i => !is i && nz (at_ e i)) i (Bool.eq_false_iff.2 (fun hc => h (by unfold nz at hc; simpa using hc))), List.append_nil]
theorem gone_le (n : Nat) (is : Nat → Bool) : (gone n is).length ≤ n := by
  have := List.length_filter_le is (List.range n)
  rw [List.length_range] at this
  exact this
theorem bad_le (e : List F) (n : Nat) (is : Nat → Bool) : (bad e n is).length ≤ n := gone_le n _
theorem unlike_l0 (w c : List F) (hc : c.length = w.length) (hn : w.length ≤ 255) (l : List Int) (d : Nat) : ∀ i, i + d = w.length → Ev (fun k => mend_unlike.l0 k (B w) (B c) (marks w.length l) (Lz (bad (lay w c) i (isf l))) (w.length : Int) (i : Int)) (Lz (bad (lay w c) w.length (isf l))) := by
  induction d with
  | zero =>
    intro i hi
    obtain rfl : i = w.length := by omega
    exact Ev.stepTo _ (fun k _ => by rw [mend_unlike.l0, if_neg (by omega)]) (Ev.now _)
  | succ d ih =>
    intro i hi
    have h1 := ih (i + 1) (by omega)
    rw [bad_succ] at h1
    have hat : at_ (lay w c) i = 0 ↔ I (at_ w i) = I (at_ c i) := by
      rw [at_lay w c i hc.symm, add_eq_zero_iff]
      exact ⟨fun h => by rw [h], I_inj⟩
    by_cases e : I (at_ w i) = I (at_ c i)
    · rw [if_neg (fun h => h.2 (hat.2 e))] at h1
      refine Ev.stepTo _ (fun k _ => ?_) h1
      rw [mend_unlike.l0, if_pos (by omega), if_pos (by omega), if_pos (by rw [B_size]; omega), if_pos (by rw [B_size]; omega), bt_B, bt_B, Int.toNat_natCast, if_pos e, wrap_id _ (by omega) (by omega), show ((i : Int) + 1) = ((i + 1 : Nat) : Int) from by omega]
    · by_cases e2 : isf l i = true
      · rw [if_neg (fun h => by rw [e2] at h; cases h.1)] at h1
        refine Ev.stepTo _ (fun k _ => ?_) h1
        rw [mend_unlike.l0, if_pos (by omega), if_pos (by omega), if_pos (by rw [B_size]; omega), if_pos (by rw [B_size]; omega), bt_B, bt_B, Int.toNat_natCast, if_neg e, if_pos (by rw [marks_length]; omega), rd_marks _ _ i (by omega), if_pos e2, wrap_id _ (by omega) (by omega), show ((i : Int) + 1) = ((i + 1 : Nat) : Int) from by omega]
      · rw [if_pos ⟨by simpa using e2, fun h => e (hat.1 h)⟩] at h1
        refine Ev.stepTo _ (fun k _ => ?_) h1
        rw [mend_unlike.l0, if_pos (by omega), if_pos (by omega), if_pos (by rw [B_size]; omega), if_pos (by rw [B_size]; omega), bt_B, bt_B, Int.toNat_natCast, if_neg e, if_pos (by rw [marks_length]; omega), rd_marks _ _ i (by omega), if_neg e2, if_pos (by rw [Lz_length]; have := bad_le (lay w c) i (isf l); omega), wrap_id _ (by omega) (by omega), show ((i : Int) + 1) = ((i + 1 : Nat) : Int) from by omega]
        congr 1
        unfold Lz
        rw [List.map_append]
        rfl
theorem unlike_ev (w c : List F) (hc : c.length = w.length) (hn : w.length ≤ 255) (l : List Int) : Ev (fun k => mend_unlike.f k (B w) (B c) (marks w.length l)) (Lz (bad (lay w c) w.length (isf l))) := by
  refine Ev.congr (fun k => by rw [mend_unlike.f, toNat_len]) ?_
  exact unlike_l0 w c hc hn l w.length 0 (Nat.zero_add _)
theorem within_ev (w c : List F) (hc : c.length = w.length) (hn : w.length ≤ 255) (l : List Int) (r f : Nat) (hf : f ≤ 1000) : Ev (fun k => mend_within.f k (B w) (B c) (r : Int) (marks w.length l) (f : Int)) (decide (2 * (bad (lay w c) w.length (isf l)).length + f ≤ r)) := by
  refine Ev.congr (fun k => by rw [mend_within.f]) ?_
  refine Ev.bind (unlike_ev w c hc hn l) ?_
  have hb := bad_le (lay w c) w.length (isf l)
  refine Ev.congr (fun k => by rw [Lz_length, wrap_id (2 * _) (by omega) (by omega), wrap_id _ (by omega) (by omega)]) ?_
  rw [show decide (2 * ((bad (lay w c) w.length (isf l)).length : Int) + (f : Int) ≤ (r : Int)) = decide (2 * (bad (lay w c) w.length (isf l)).length + f ≤ r) from decide_eq_decide.2 (by omega)]
  exact Ev.now _
theorem rising_l0 (n : Nat) (hn : n ≤ 255) (l : List Int) (d : Nat) : ∀ i, i + d = n → Ev (fun k => mend_rising.l0 k (Lz (gone i (isf l))) (marks n l) (n : Int) (i : Int)) (Lz (gone n (isf l))) := by
  induction d with
  | zero =>
    intro i hi
    obtain rfl : i = n := by omega
    exact Ev.stepTo _ (fun k _ => by rw [mend_rising.l0, if_neg (by omega)]) (Ev.now _)
  | succ d ih =>
    intro i hi
    have h1 := ih (i + 1) (by omega)
    rw [gone_succ] at h1
    by_cases e2 : isf l i = true
    · rw [if_pos e2] at h1
      refine Ev.stepTo _ (fun k _ => ?_) h1
      rw [mend_rising.l0, if_pos (by omega), if_pos (by omega), if_pos (by rw [marks_length]; omega), rd_marks _ _ i (by omega), if_pos e2, if_pos (by rw [Lz_length]; have := gone_le i (isf l); omega), wrap_id _ (by omega) (by omega), show ((i : Int) + 1) = ((i + 1 : Nat) : Int) from by omega]
      congr 1
      unfold Lz
      rw [List.map_append]
      rfl
    · rw [if_neg e2] at h1
      refine Ev.stepTo _ (fun k _ => ?_) h1
      rw [mend_rising.l0, if_pos (by omega), if_pos (by omega), if_pos (by rw [marks_length]; omega), rd_marks _ _ i (by omega), if_neg e2, wrap_id _ (by omega) (by omega), show ((i : Int) + 1) = ((i + 1 : Nat) : Int) from by omega]
theorem rising_ev (n : Nat) (hn : n ≤ 255) (l : List Int) : Ev (fun k => mend_rising.f k (marks n l)) (Lz (gone n (isf l))) := by
  refine Ev.congr (fun k => by rw [mend_rising.f, marks_length]) ?_
  exact rising_l0 n hn l n 0 (Nat.zero_add _)
theorem loc_l1 (n : Nat) (l : List Int) (a : F) (jj : Int) (res : List Int) : ∀ (j : Nat) (o : List F), j < o.length → o.length ≤ 1000 →
    (∀ o' : List F, o'.length = o.length → (∀ m, at_ o' m = if 1 ≤ m ∧ m ≤ j then at_ o m + at_ o (m - 1) * a else at_ o m) → Ev (fun k => mend_locator.l0 k (n : Int) (L o') l (l.length : Int) (wrap64 (jj + 1))) res) →
    Ev (fun k => mend_locator.l1 k (n : Int) (L o) (I a) (j : Int) l (l.length : Int) jj) res
  | 0, o, h, hs, H => Ev.stepTo _ (fun k _ => by rw [mend_locator.l1, if_neg (by omega)]) (H o rfl (fun m => by rw [if_neg (by omega)]))
  | j + 1, o, h, hs, H => by
    refine Ev.stepTo _ (fun k hk => ?_) (loc_l1 n l a jj res j (o.set (j + 1) (at_ o (j + 1) + at_ o j * a)) (by rw [List.length_set]; omega) (by rw [List.length_set]; exact hs) (fun o' h1 h2 => H o' (by rw [h1, List.length_set]) (fun m => ?_)))
    · rw [mend_locator.l1, if_pos (by omega), if_pos (by omega), if_pos (by rw [L_length]; omega), wrap_id _ (by omega) (by omega), if_pos (by omega), if_pos (by rw [L_length]; omega), show (((j + 1 : Nat) : Int) - 1) = (j : Int) by omega, rd_L, Int.toNat_natCast, times k (by omega), Option.bind_some, rd_L, Int.toNat_natCast, bx, L_set]
    · rw [h2 m, at_set _ _ _ _ h]
      by_cases e : m = j + 1
      · subst e
        rw [if_neg (by omega), if_pos rfl, if_pos (by omega), Nat.add_sub_cancel]
      · rw [if_neg e]
        by_cases c : 1 ≤ m ∧ m ≤ j
        · rw [if_pos c, if_pos (by omega), at_set _ _ _ _ h, if_neg (by omega)]
        · rw [if_neg c, if_neg (by omega)]
theorem loc_l0 (n : Nat) (hn : n ≤ 255) (l : List Int) (hl : l.length ≤ 255) (hg : Good n l) : ∀ (rest dn : List Int) (o : List F), l = dn ++ rest → o.length = dn.length + 1 → at_ o 0 = 1 → (∀ i : Nat, (i : Int) ∈ dn → evp o (inv (plc n i)) = 0) →
    ∃ p : List F, Ev (fun k => mend_locator.l0 k (n : Int) (L o) l (l.length : Int) (dn.length : Int)) (L p) ∧ p.length = l.length + 1 ∧ at_ p 0 = 1 ∧ (∀ i : Nat, (i : Int) ∈ l → evp p (inv (plc n i)) = 0)
  | [], dn, o, h, h1, h2, h3 => by
    rw [List.append_nil] at h
    subst h
    exact ⟨o, Ev.stepTo _ (fun k _ => by rw [mend_locator.l0, if_neg (by omega)]) (Ev.now _), h1, h2, h3⟩
  | x :: rest, dn, o, h, h1, h2, h3 => by
    have hlen : l.length = dn.length + rest.length + 1 := by rw [h, List.length_append, List.length_cons]; omega
    have hrd : rd l (dn.length : Int) = x := by
      unfold rd
      rw [Int.toNat_natCast, h, List.getD_eq_getElem?_getD, List.getElem?_append_right (Nat.le_refl _), Nat.sub_self]
      rfl
    have hx := hg.1 x (by rw [h]; exact List.mem_append_right _ (List.mem_cons_self ..))
    obtain ⟨i, rfl⟩ : ∃ i : Nat, x = (i : Int) := ⟨x.toNat, by omega⟩
    have hi : i < n := by omega
    obtain ⟨o2, ho2⟩ : ∃ o2 : List F, o2.length = o.length + 1 ∧ ∀ m, at_ o2 m = if 1 ≤ m ∧ m ≤ o.length then at_ (o ++ [0]) m + at_ (o ++ [0]) (m - 1) * plc n i else at_ (o ++ [0]) m := by
      refine ⟨(List.range (o.length + 1)).map (fun m => if 1 ≤ m ∧ m ≤ o.length then at_ (o ++ [0]) m + at_ (o ++ [0]) (m - 1) * plc n i else at_ (o ++ [0]) m), by rw [List.length_map, List.length_range], fun m => ?_⟩
      by_cases hm : m < o.length + 1
      · rw [at_lt _ m (by rw [List.length_map, List.length_range]; exact hm), List.getElem_map, List.getElem_range]
      · rw [at_ge _ m (by rw [List.length_map, List.length_range]; omega), if_neg (by omega), at_ge _ m (by rw [List.length_append, List.length_singleton]; omega)]
    have happ : ∀ m, at_ (o ++ [0]) m = at_ o m := fun m => at_pad o 1 m
    have hmul : Sm o2 (mulL o [1, plc n i]) := fun m => by
      rw [ho2.2 m]
      cases m with
      | zero => rw [if_neg (by omega), happ, (at_mul2 o 1 (plc n i)).1, one_mul]
      | succ m =>
        rw [(at_mul2 o 1 (plc n i)).2, one_mul, happ]
        by_cases c : m + 1 ≤ o.length
        · rw [if_pos ⟨by omega, c⟩, Nat.add_sub_cancel, happ, mul_comm]
        · rw [if_neg (by omega), at_ge o m (by omega), mul_zero, add_zero]
    have hev : ∀ y, evp o2 y = evp o y * (1 + plc n i * y) := fun y => by rw [evp_congr hmul, evp_mulL, evp_two]
    obtain ⟨p, hp, hp2⟩ := loc_l0 n hn l hl hg rest (dn ++ [(i : Int)]) o2 (by rw [h, List.append_assoc]; rfl) (by rw [ho2.1, h1, List.length_append, List.length_singleton]) (by rw [ho2.2 0, if_neg (by omega), happ, h2]) (fun j hj => by
      rw [hev]
      rcases List.mem_append.1 hj with hj | hj
      · rw [h3 j hj, zero_mul]
      · rw [show j = i from Int.ofNat.inj (List.mem_singleton.1 hj), mul_inv _ (plc_ne n i), add_self, mul_zero])
    refine ⟨p, Ev.stepTo _ (fun k hk => ?_) (loc_l1 n l (plc n i) (dn.length : Int) (L p) o.length (o ++ [0]) (by rw [List.length_append, List.length_singleton]; omega) (by rw [List.length_append, List.length_singleton]; omega) (fun o' e1 e2 => ?_)), hp2⟩
    · rw [mend_locator.l0, if_pos (by omega), if_pos (by omega), if_pos (by omega), hrd, unit_run k hk i n hi hn, Option.bind_some, if_pos (by rw [L_length]; omega), Option.bind_some, show ([0] : List Int) = L [0] from rfl, ← L_append, L_length, List.length_append, List.length_singleton, wrap_id _ (by omega) (by omega), show (((o.length + 1 : Nat) : Int) - 1) = (o.length : Int) by omega]
      rfl
    · have : o' = o2 := ext_at (by rw [e1, ho2.1, List.length_append, List.length_singleton]) (fun m _ => by rw [e2 m, ho2.2 m])
      rw [this, wrap_id _ (by omega) (by omega)]
      rw [List.length_append, List.length_singleton] at hp
      exact hp
theorem locator_ev (n : Nat) (hn : n ≤ 255) (l : List Int) (hl : l.length ≤ 255) (hg : Good n l) : ∃ p : List F, Ev (fun k => mend_locator.f k l (n : Int)) (L p) ∧ p.length = l.length + 1 ∧ at_ p 0 = 1 ∧ (∀ i : Nat, (i : Int) ∈ l → evp p (inv (plc n i)) = 0) := by
  obtain ⟨p, h1, h2⟩ := loc_l0 n hn l hl hg l [] [1] rfl rfl rfl (fun i hi => nomatch hi)
  refine ⟨p, Ev.congr (fun k => ?_) h1, h2⟩
  rw [mend_locator.f, wrap_id _ (by omega) (by omega), if_pos (by omega), if_pos (by omega), Option.bind_some, if_pos (by decide)]
  rfl
theorem ev_mono {α : Type} {f : Nat → Option α} {r : α} (hm : ∀ k, LeO (f k) (f (k + 1))) {K : Nat} (h : f K = some r) : Ev f r := by
  refine ⟨K, fun n hn => ?_⟩
  obtain ⟨d, rfl⟩ : ∃ d, n = K + d := ⟨n - K, by omega⟩
  clear hn
  induction d with
  | zero => exact h
  | succ d ih => exact hm _ _ ih
theorem mid.mono (n r : Nat) (S p0 w : List Int) (k : Nat) : LeO (mid k n r S p0 w) (mid (k + 1) n r S p0 w) :=
  LeO.bind (mk_key.mono k _ _) fun _ => LeO.ite (LeO.refl _) (LeO.bind (mk_over.mono k _ _ _ _ _ _) fun _ => mk_fix.mono k _ _ _ _ _ _ _ _ _)
def Reach (w c : List F) (r : Nat) (l : List Int) : Prop := c.length = w.length ∧ Code r c ∧ 2 * (bad (lay w c) w.length (isf l)).length + l.length ≤ r
def outp : Option (List F) → ByteArray × Bool
  | none => (⟨#[]⟩, false)
  | some c => (B c, true)
theorem end_ev (w : List F) (r : Nat) (hfit : Fits w.length r) (l : List Int) (hlr : l.length ≤ 255) (b : List F) (hb : b.length = w.length) :
    ∃ o : Option (List F), Ev (fun k => mk_end k (B w) (r : Int) (marks w.length l) l.length (some (L b))) (outp o) ∧ ((o = some b ∧ Reach w b r l) ∨ (o = none ∧ ¬ Reach w b r l)) := by
  have hn := hfit.bounds
  have hw := whole_ev b r (by rw [hb]; exact hfit)
  rw [Int.toNat_natCast] at hw
  by_cases h1 : wholeB b r = true
  · rw [h1] at hw
    have hwi := within_ev w b hb (by omega) l r l.length (by omega)
    by_cases h2 : 2 * (bad (lay w b) w.length (isf l)).length + l.length ≤ r
    · rw [decide_eq_true h2] at hwi
      refine ⟨some b, ?_, Or.inl ⟨rfl, hb, (wholeB_iff b r).1 h1, h2⟩⟩
      refine Ev.congr (fun k => by rw [mk_end, strOf]) ?_
      refine Ev.bind hw ?_
      refine Ev.congr (fun k => by rw [if_pos rfl]) ?_
      refine Ev.bind hwi ?_
      exact Ev.congr (fun k => by rw [if_pos rfl]; rfl) (Ev.now _)
    · rw [decide_eq_false h2] at hwi
      refine ⟨none, ?_, Or.inr ⟨rfl, fun h => h2 h.2.2⟩⟩
      refine Ev.congr (fun k => by rw [mk_end, strOf]) ?_
      refine Ev.bind hw ?_
      refine Ev.congr (fun k => by rw [if_pos rfl]) ?_
      refine Ev.bind hwi ?_
      exact Ev.congr (fun k => by rw [if_neg (by decide)]; rfl) (Ev.now _)
  · rw [Bool.eq_false_iff.2 h1] at hw
    refine ⟨none, ?_, Or.inr ⟨rfl, fun h => h1 ((wholeB_iff b r).2 h.2.1)⟩⟩
    refine Ev.congr (fun k => by rw [mk_end, strOf]) ?_
    refine Ev.bind hw ?_
    exact Ev.congr (fun k => by rw [if_neg (by decide)]; rfl) (Ev.now _)
theorem bytes_B (p : List F) : bytesOf (B p) = L p := by
  unfold bytesOf L
  rw [B_data, List.toList_toArray, List.map_map]
  refine List.map_congr_left (fun a _ => ?_)
  show (((UInt8.ofNat a.val).toNat : Nat) : Int) = I a
  rw [u8_of_F]
  rfl
theorem mend_ev (w : List F) (r : Nat) (hfit : Fits w.length r) (l : List Int) (hg : Good w.length l) (hlr : l.length ≤ r) :
    ∃ o : Option (List F), Ev (fun k => mend_mend.f k (B w) (r : Int) (marks w.length l) l) (outp o) ∧ (∀ c, o = some c ↔ Reach w c r l) := by
  have hn := hfit.bounds
  obtain ⟨p0, hp, hp1, hp2, hp3⟩ := locator_ev w.length (by omega) l (by omega) hg
  obtain ⟨ob, hm, hm2, hm3⟩ := mid_run 18 (Nat.le_refl _) w r (by omega) (by omega) (isf l) l.length (gone_count _ _ hg) hlr p0 hp1 hp2 (fun i _ h => hp3 i (of_decide_eq_true h))
  have hmid := ev_mono (mid.mono w.length r (L (syn w r)) (L p0) (L w)) hm
  have hsyn := syndromes_ev w r hfit
  rw [Int.toNat_natCast] at hsyn
  have key : ∀ X, Ev (fun k => mk_end k (B w) (r : Int) (marks w.length l) l.length (ob.map L)) X → Ev (fun k => mend_mend.f k (B w) (r : Int) (marks w.length l) l) X := fun X hX => by
    refine Ev.congr (fun k => by rw [mend_mend.f]) ?_
    refine Ev.bind hsyn ?_
    refine Ev.congr (fun k => by rw [toNat_len]) ?_
    refine Ev.bind hp ?_
    have hb := Ev.bind (f := fun k ob => mk_end k (B w) (r : Int) (marks w.length l) l.length ob) hmid hX
    refine Ev.congr (fun k => ?_) hb
    unfold mid
    rw [Option.bind_assoc]
    congr 1
    funext q
    by_cases hq : q.2 > r
    · rw [if_pos (show (q.2 : Int) > (r : Int) by omega), if_pos hq, Option.bind_some]
      rfl
    · rw [if_neg (show ¬ (q.2 : Int) > (r : Int) by omega), if_neg hq, Option.bind_assoc]
      dsimp only
      rw [L_length, syn_length, if_pos ⟨by omega, by omega, rfl, by rw [B_size]; omega⟩, B_size, bytes_B]
  cases ob with
  | none =>
    refine ⟨none, key _ (Ev.now _), fun c => ⟨fun h => (nomatch h), fun h => ?_⟩⟩
    have := hm3 c h.1 h.2.1 h.2.2
    cases this
  | some b =>
    obtain ⟨o, ho, ho2⟩ := end_ev w r hfit l (by omega) b (hm2 b rfl)
    refine ⟨o, key _ ho, fun c => ?_⟩
    rcases ho2 with ⟨rfl, h1⟩ | ⟨rfl, h1⟩
    · exact ⟨fun h => by rw [← Option.some.inj h]; exact h1, fun h => hm3 c h.1 h.2.1 h.2.2⟩
    · refine ⟨fun h => (nomatch h), fun h => ?_⟩
      rw [← Option.some.inj (hm3 c h.1 h.2.1 h.2.2)] at h
      exact absurd h h1
theorem Reach.one {w c c' : List F} {r : Nat} {l : List Int} (hfit : Fits w.length r) (hg : Good w.length l) (h : Reach w c r l) (h' : Reach w c' r l) : c = c' := by
  obtain ⟨o, _, ho⟩ := mend_ev w r hfit l hg (by have := h.2.2; omega)
  exact Option.some.inj (((ho c).2 h).symm.trans ((ho c').2 h'))
theorem Mend_ev (w : List F) (r : Int) (l : List Int) (hl : l.length ≤ 140737488351232) :
    (¬ (Fits w.length r ∧ Good w.length l) ∧ Ev (fun k => mend_Mend.f k (B w) r l) (⟨#[]⟩, [], [], 1)) ∨ ((Fits w.length r ∧ Good w.length l) ∧ ((∃ c, Reach w c r.toNat l ∧ Ev (fun k => mend_Mend.f k (B w) r l) (B c, Lz (bad (lay w c) w.length (isf l)), Lz (gone w.length (isf l)), 0)) ∨ ((∀ c, ¬ Reach w c r.toNat l) ∧ Ev (fun k => mend_Mend.f k (B w) r l) (⟨#[]⟩, [], [], 9)))) := by
  by_cases hfit : Fits w.length r
  · have hn := hfit.bounds
    obtain ⟨X, hX, hX2⟩ := marked_ev w.length (by omega) l (by omega)
    have hchk : ∀ Y, Ev (fun k => if X.2 = true then some (X.1, (0 : Int)) else some (([] : List Bool), (1 : Int))) Y → Ev (fun k => mend_check.f k (B w) r l) Y := fun Y hY => by
      refine Ev.congr (fun k => by rw [mend_check.f, toNat_len, check_fits hfit, Option.bind_some, if_pos rfl]) ?_
      exact Ev.bind hX hY
    rcases hX2 with ⟨hg, rfl⟩ | ⟨hg, hX2⟩
    · have hc := hchk (marks w.length l, 0) (Ev.congr (fun k => by rw [if_pos rfl]) (Ev.now _))
      refine Or.inr ⟨⟨hfit, hg⟩, ?_⟩
      by_cases hlr : l.length ≤ r.toNat
      · obtain ⟨o, ho, ho2⟩ := mend_ev w r.toNat (by rw [Int.toNat_of_nonneg (by omega)]; exact hfit) l hg hlr
        rw [Int.toNat_of_nonneg (by omega)] at ho
        have go : ∀ Y, Ev (fun k => if (outp o).2 = true then (mend_unlike.f k (B w) (outp o).1 (marks w.length l)).bind fun t777 => (mend_rising.f k (marks w.length l)).bind fun t780 => some ((outp o).1, t777, t780, (0 : Int)) else some ((⟨#[]⟩ : ByteArray), ([] : List Int), ([] : List Int), (9 : Int))) Y → Ev (fun k => mend_Mend.f k (B w) r l) Y := fun Y hY => by
          refine Ev.congr (fun k => by rw [mend_Mend.f]) ?_
          refine Ev.bind hc ?_
          refine Ev.congr (fun k => by rw [if_pos rfl, if_neg (show ¬ (l.length : Int) > r by omega)]) ?_
          exact Ev.bind ho hY
        cases o with
        | none => exact Or.inr ⟨fun c h => (nomatch (ho2 c).2 h), go _ (Ev.congr (fun k => by rw [if_neg (by decide)]) (Ev.now _))⟩
        | some c =>
          have hR := (ho2 c).1 rfl
          refine Or.inl ⟨c, hR, go _ (Ev.congr (fun k => by rw [if_pos (show (outp (some c)).2 = true from rfl)]) ?_)⟩
          refine Ev.bind (unlike_ev w c hR.1 (by omega) l) ?_
          exact Ev.bind (rising_ev w.length (by omega) l) (Ev.now _)
      · refine Or.inr ⟨fun c h => hlr (by have := h.2.2; omega), ?_⟩
        refine Ev.congr (fun k => by rw [mend_Mend.f]) ?_
        refine Ev.bind hc ?_
        exact Ev.congr (fun k => by rw [if_pos rfl, if_pos (show (l.length : Int) > r by omega)]) (Ev.now _)
    · refine Or.inl ⟨fun h => hg h.2, ?_⟩
      have hc := hchk ([], 1) (Ev.congr (fun k => by rw [if_neg (by rw [hX2]; decide)]) (Ev.now _))
      refine Ev.congr (fun k => by rw [mend_Mend.f]) ?_
      refine Ev.bind hc ?_
      exact Ev.congr (fun k => by rw [if_neg (by decide)]) (Ev.now _)
  · refine Or.inl ⟨fun h => hfit h.1, ?_⟩
    refine Ev.congr (fun k => by rw [mend_Mend.f, mend_check.f, toNat_len, check_no hfit, Option.bind_some, if_neg (by decide), Option.bind_some, if_neg (by decide)]) (Ev.now _)
end Go.Proofs.Ytncoakokdajibaa.Sem
