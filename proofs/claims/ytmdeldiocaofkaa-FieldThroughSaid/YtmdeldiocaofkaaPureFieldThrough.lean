import Derived.Test.YtmdeldiocaofkaaQF1
import Derived.Test.YtmdeldiocaofkaaThru
/-
  The polynomial through points: what the program finds, point after point, is what the sum of the polynomials that are nought at the other points is. No condition.
-/
namespace Go.Proofs.Ytmdeldiocaofkaa.Pure
open Go.RowKit Go.Proofs.Ytmdeldiocaofkaa.Q Go.Proofs.YtmdeldiocaofkaaW.PrintWords Go.Proofs.YtmdeldiocaofkaaW.PrintLast Go.Proofs.YtmdeldiocaofkaaW.PrintMore Go.Proofs.Ytmdeldiocaofkaa.Gf Go.Proofs.Ytmdeldiocaofkaa.Sem

def oth (f : Nat → F × F) (i j : Nat) : List F := ((List.range j).filter (fun k => k != i)).map (fun k => (f k).1)
theorem oth_self (f : Nat → F × F) (i : Nat) : oth f i (i + 1) = oth f i i := by
  unfold oth; rw [List.range_succ, List.filter_append, List.map_append]; simp
theorem oth_succ (f : Nat → F × F) (i j : Nat) (h : j ≠ i) : oth f i (j + 1) = oth f i j ++ [(f j).1] := by
  unfold oth; rw [List.range_succ, List.filter_append, List.map_append]; simp [h]
theorem mem_oth {f : Nat → F × F} {i j : Nat} {x : F} : x ∈ oth f i j ↔ ∃ k, k < j ∧ k ≠ i ∧ (f k).1 = x := by
  unfold oth
  simp only [List.mem_map, List.mem_filter, List.mem_range, bne_iff_ne, and_assoc]
theorem oth_length (f : Nat → F × F) (i j : Nat) : (oth f i j).length + (if i < j then 1 else 0) = j := by
  induction j with
  | zero => rfl
  | succ j ih =>
    by_cases h : j = i
    · subst h
      rw [oth_self]
      rw [if_neg (by omega)] at ih
      rw [if_pos (by omega)]
      omega
    · rw [oth_succ f i j h, List.length_append]
      simp only [List.length_cons, List.length_nil]
      by_cases e : i < j
      · rw [if_pos e] at ih; rw [if_pos (by omega)]; omega
      · rw [if_neg e] at ih; rw [if_neg (by omega)]; omega
def lag (f : Nat → F × F) (n : Nat) : Nat → List F
  | 0 => []
  | i + 1 => addP (lag f n i) (mulP (ofRoots (oth f i n)) [(f i).2 * inv (evp (ofRoots (oth f i n)) (f i).1)])
theorem lag_length (f : Nat → F × F) (n i : Nat) : i ≤ n → (lag f n i).length ≤ n := by
  induction i with
  | zero => intro _; exact Nat.zero_le _
  | succ i ih =>
    intro h
    have h1 := mulP_const_length (ofRoots (oth f i n)) ((f i).2 * inv (evp (ofRoots (oth f i n)) (f i).1))
    have h2 := oth_length f i n
    rw [if_pos (by omega)] at h2
    rw [ofRoots_length] at h1
    have h3 := ih (by omega)
    have := addL_isPoly_lt (n + 1) (r := lag f n i) (s := mulP (ofRoots (oth f i n)) [(f i).2 * inv (evp (ofRoots (oth f i n)) (f i).1)]) (by omega) (by omega)
    rw [lag]
    omega
theorem oth_zero {f : Nat → F × F} {n i j : Nat} (hj : j < n) (h : j ≠ i) : evp (ofRoots (oth f i n)) (f j).1 = 0 := (root_iff _ _).2 (mem_oth.2 ⟨j, hj, h, rfl⟩)
theorem oth_ne {f : Nat → F × F} {n i : Nat} (hn : (Xs f n).Nodup) (hi : i < n) : evp (ofRoots (oth f i n)) (f i).1 ≠ 0 := fun e => by
  obtain ⟨k, hk, hne, he⟩ := mem_oth.1 ((root_iff _ _).1 e)
  exact hne (Xs_inj hn hk hi he)
theorem lag_at (f : Nat → F × F) (n : Nat) (hn : (Xs f n).Nodup) (i : Nat) : i ≤ n → ∀ j, j < n → evp (lag f n i) (f j).1 = if j < i then (f j).2 else 0 := by
  induction i with
  | zero => intro _ j _; rw [if_neg (by omega)]; rfl
  | succ i ih =>
    intro hi j hj
    rw [lag, addP, evp_trim, evp_addL, evp_mulP, evp_const, ih (by omega) j hj]
    by_cases e : j = i
    · subst e
      rw [if_neg (by omega), if_pos (by omega), mul_left_comm, mul_inv _ (oth_ne hn hj), mul_one, zero_add]
    · rw [oth_zero hj e, zero_mul, add_zero]
      by_cases h : j < i
      · rw [if_pos h, if_pos (by omega)]
      · rw [if_neg h, if_neg (by omega)]
theorem lag_newt (f : Nat → F × F) (n : Nat) (h6 : n ≤ 600) (hn : (Xs f n).Nodup) : trim (lag f n n) = newt f n :=
  (newt_unique f n h6 hn _ (trim_isPoly _) (Nat.le_trans (trim_length _) (lag_length f n n (Nat.le_refl _))) (fun i hi => by rw [evp_trim, lag_at f n hn n (Nat.le_refl _) i hi, if_pos hi])).symm
def P44 (f : Nat → F × F) (n : Nat) : List S44 := (List.range n).map (fun i => ⟨I (f i).1, I (f i).2⟩)
theorem P44_length (f : Nat → F × F) (n : Nat) : (P44 f n).length = n := by unfold P44; rw [List.length_map, List.length_range]
theorem P44_succ (f : Nat → F × F) (n : Nat) : P44 f (n + 1) = P44 f n ++ [⟨I (f n).1, I (f n).2⟩] := by unfold P44; rw [List.range_succ, List.map_append]; rfl
theorem P45_succ (f : Nat → F × F) (n : Nat) : P45 f (n + 1) = P45 f n ++ [⟨I (f n).1, I (f n).2⟩] := by unfold P45; rw [List.range_succ, List.map_append]; rfl
theorem rd_P44 (f : Nat → F × F) (n i : Nat) (h : i < n) : rd_T44 (P44 f n) (i : Int) = ⟨I (f i).1, I (f i).2⟩ := by
  unfold rd_T44 P44
  rw [Int.toNat_natCast, List.getD_eq_getElem?_getD, List.getElem?_map, List.getElem?_range h]
  rfl
theorem rd_P44_0 (f : Nat → F × F) (n i : Nat) (h : i < n) : (rd_T44 (P44 f n) (i : Int)).f0 = I (f i).1 := by rw [rd_P44 f n i h]
theorem rd_P44_1 (f : Nat → F × F) (n i : Nat) (h : i < n) : (rd_T44 (P44 f n) (i : Int)).f1 = I (f i).2 := by rw [rd_P44 f n i h]
theorem rthrough_l2 (f : Nat → F × F) (n : Nat) (hn : n ≤ 256) (hnd : (Xs f n).Nodup) (i : Nat) (hi : i < n) (r : List Int × Int) (hnext : Ev (fun k => foghornref18_Through.l1 k (P44 f n) (L (lag f n (i + 1))) ((i + 1 : Nat) : Int)) r) (d : Nat) :
    ∀ j, j + d = n → Ev (fun k => foghornref18_Through.l2 k (P44 f n) (L (lag f n i)) (i : Int) (L (ofRoots (oth f i j))) (j : Int)) r := by
  induction d with
  | zero =>
    intro j hj
    obtain rfl : j = n := by omega
    have h1 := ofRoots_length (oth f i j)
    have h2 := oth_length f i j
    rw [if_pos hi] at h2
    have h3 := mulP_const_length (ofRoots (oth f i j)) ((f i).2 * inv (evp (ofRoots (oth f i j)) (f i).1))
    have h4 := lag_length f j i (by omega)
    refine Ev.stepTo' _ (fun k _ => by rw [foghornref18_Through.l2, if_neg (by rw [P44_length]; omega), if_pos (by omega), if_pos (by rw [P44_length]; omega), rd_P44_0 f j i hi, rd_P44_1 f j i hi]) ?_
    refine Ev.bind (rat_ev _ _ (by omega)) ?_
    refine Ev.bind (rover_ev _ _ (oth_ne hnd hi)) ?_
    refine Ev.bind (rproduct_ev (ofRoots (oth f i j)) [(f i).2 * inv (evp (ofRoots (oth f i j)) (f i).1)] (by simp only [List.length_cons, List.length_nil]; omega)) ?_
    refine Ev.bind (rSum_ev (lag f j i) _ (by omega) (by omega)) ?_
    refine Ev.congr (fun k => ?_) hnext
    show foghornref18_Through.l1 k _ _ (wrap64 ((i : Int) + 1)) = _
    rw [wrap_id _ (by omega) (by omega)]
    rfl
  | succ d ih =>
    intro j hj
    have hw : wrap64 ((j : Int) + 1) = ((j + 1 : Nat) : Int) := by rw [wrap_id _ (by omega) (by omega)]; omega
    by_cases e : j = i
    · subst e
      refine Ev.stepTo' _ (fun k _ => by rw [foghornref18_Through.l2, if_pos (by rw [P44_length]; omega), if_pos rfl, hw]) ?_
      have := ih (j + 1) (by omega)
      rw [oth_self] at this
      exact this
    · have h1 := ofRoots_length (oth f i j)
      have h2 := oth_length f i j
      refine Ev.stepTo' _ (fun k _ => by rw [foghornref18_Through.l2, if_pos (by rw [P44_length]; omega), if_neg (by omega), if_pos (by omega), hw, rd_P44_0 f n j (by omega)]) ?_
      refine Ev.bind (rproduct_ev (ofRoots (oth f i j)) [(f j).1, 1] (by simp only [List.length_cons, List.length_nil]; omega)) ?_
      have := ih (j + 1) (by omega)
      rw [oth_succ f i j e, ofRoots_snoc] at this
      exact this
theorem rthrough_l1 (f : Nat → F × F) (n : Nat) (hn : n ≤ 256) (hnd : (Xs f n).Nodup) (d : Nat) : ∀ i, i + d = n → Ev (fun k => foghornref18_Through.l1 k (P44 f n) (L (lag f n i)) (i : Int)) (L (newt f n), 0) := by
  induction d with
  | zero =>
    intro i hi
    obtain rfl : i = n := by omega
    have h4 := lag_length f i i (by omega)
    refine Ev.stepTo' _ (fun k _ => by rw [foghornref18_Through.l1, if_neg (by rw [P44_length]; omega)]) ?_
    refine Ev.bind (rTrim_ev _ (by omega)) ?_
    rw [lag_newt f i (by omega) hnd]
    exact Ev.now _
  | succ d ih =>
    intro i hi
    refine Ev.stepTo' _ (fun k _ => by rw [foghornref18_Through.l1, if_pos (by rw [P44_length]; omega)]) ?_
    exact rthrough_l2 f n hn hnd i (by omega) _ (ih (i + 1) (by omega)) n 0 (by omega)
open Classical in
theorem rthrough_l0 (f : Nat → F × F) (n : Nat) (hn : n ≤ 256) (d : Nat) : ∀ (i : Nat) (c : List Bool), i + d = n → c.length = 256 → (Xs f i).Nodup → (∀ x : F, rdOf false c (I x) = decide (x ∈ Xs f i)) →
    Ev (fun k => foghornref18_Through.l0 k (P44 f n) c (i : Int)) (if (Xs f n).Nodup then (L (newt f n), 0) else ([], 1)) := by
  induction d with
  | zero =>
    intro i c hi hc hnd hx
    obtain rfl : i = n := by omega
    refine Ev.stepTo' _ (fun k _ => by rw [foghornref18_Through.l0, if_neg (by rw [P44_length]; omega)]) ?_
    rw [if_pos hnd]
    exact rthrough_l1 f i hn hnd i 0 (by omega)
  | succ d ih =>
    intro i c hi hc hnd hx
    have hI0 := I_lo (f i).1
    have hI1 := I_hi (f i).1
    refine Ev.stepTo' _ (fun k _ => by rw [foghornref18_Through.l0, if_pos (by rw [P44_length]; omega), if_pos (by omega), rd_P44_0 f n i (by omega), if_pos hI0, if_pos (by omega), if_pos (by omega), hx]) ?_
    by_cases hm : (f i).1 ∈ Xs f i
    · refine Ev.congr (fun k => by rw [if_pos (decide_eq_true hm)]) ?_
      rw [if_neg (fun h => (Xs_nodup_succ.1 (Xs_nodup_le n (by omega : i + 1 ≤ n) h)).2 hm)]
      exact Ev.now _
    · refine Ev.congr (fun k => by rw [if_neg (by rw [decide_eq_true_iff]; exact hm), wrap_id _ (by omega) (by omega), show ((i : Int) + 1) = ((i + 1 : Nat) : Int) from by omega]) ?_
      refine ih (i + 1) _ (by omega) (by rw [List.length_set]; exact hc) (Xs_nodup_succ.2 ⟨hnd, hm⟩) (fun x => ?_)
      have hx0 := I_lo x
      have hx1 := I_hi x
      rw [Xs_succ]
      by_cases e : x = (f i).1
      · subst e
        rw [decide_eq_true (List.mem_append.2 (.inr (List.mem_singleton.2 rfl)))]
        show (c.set _ _).getD _ _ = _
        rw [List.getD_eq_getElem?_getD, List.getElem?_set_self (by omega)]
        rfl
      · have hne : (I (f i).1).toNat ≠ (I x).toNat := fun h => e (I_inj (by omega))
        have h4 : rdOf false (c.set (I (f i).1).toNat true) (I x) = rdOf false c (I x) := by
          show (c.set _ _).getD _ _ = c.getD _ _
          rw [List.getD_eq_getElem?_getD, List.getElem?_set_ne hne, List.getD_eq_getElem?_getD]
        rw [h4, hx]
        have : (x ∈ Xs f i ++ [(f i).1]) = (x ∈ Xs f i) := by
          rw [List.mem_append, List.mem_singleton]
          exact propext ⟨fun h => h.elim id (fun h => absurd h e), .inl⟩
        simp only [this]
open Classical in
theorem rthrough_ev (f : Nat → F × F) (n : Nat) (hn : n ≤ 256) : Ev (fun k => foghornref18_Through.f k (P44 f n)) (if (Xs f n).Nodup then (L (newt f n), 0) else ([], 1)) := by
  refine Ev.congr (fun k => by rw [foghornref18_Through.f, P44_length, if_neg (by omega)]) ?_
  exact rthrough_l0 f n hn n 0 (List.replicate 256 false) (by omega) (by rw [List.length_replicate]) (by unfold Xs; exact List.nodup_nil) (fun x => by
    rw [decide_eq_false (by unfold Xs; simp)]
    show (List.replicate 256 false).getD _ _ = _
    rw [List.getD_eq_getElem?_getD, List.getElem?_replicate]
    split <;> rfl)
theorem FieldThrough_l1 (f : Nat → F × F) (m : Nat) (hm : m ≤ 40) (many : Bool) (d : Nat) : ∀ i, i + d = m → Ev (fun k => foghornlaw18_FieldThrough.l1 k many (P45 f m ++ [⟨7, 77⟩]) (P44 f m) (i : Int)) true := by
  have hrd : ∀ i : Nat, i < m → rd_T45 (P45 f m ++ [⟨7, 77⟩]) (i : Int) = rd_T45 (P45 f m) (i : Int) := fun i hi => by
    show List.getD _ _ _ = List.getD _ _ _
    rw [List.getD_eq_getElem?_getD, List.getD_eq_getElem?_getD, Int.toNat_natCast, List.getElem?_append_left (by rw [P45_length]; omega)]
  induction d with
  | zero =>
    intro i hi
    obtain rfl : i = m := by omega
    refine Ev.stepTo' _ (fun k _ => by rw [foghornlaw18_FieldThrough.l1, if_neg (by rw [P44_length]; omega)]) ?_
    cases many with
    | false => exact Ev.congr (fun k => by rw [if_neg (by decide)]) (Ev.bind wake (Ev.now _))
    | true =>
      refine Ev.congr (fun k => by rw [if_pos rfl, if_pos (by decide), field_Through.f, List.length_replicate, if_pos (by decide), Option.bind_some, if_pos rfl]) ?_
      exact Ev.bind wake (Ev.now _)
  | succ d ih =>
    intro i hi
    refine Ev.stepTo' _ (fun k _ => by rw [foghornlaw18_FieldThrough.l1, if_pos (by rw [P44_length]; omega), if_pos (by omega), if_pos (by rw [List.length_append, P45_length]; omega), hrd i (by omega), rd_P45_0 f m i (by omega), rd_P45_1 f m i (by omega), rd_P44_0 f m i (by omega), rd_P44_1 f m i (by omega), if_pos rfl, if_pos rfl, wrap_id _ (by omega) (by omega), show ((i : Int) + 1) = ((i + 1 : Nat) : Int) from by omega]) ?_
    exact ih (i + 1) (by omega)
theorem FieldThrough_j1 (f : Nat → F × F) (m : Nat) (hm : m ≤ 40) (many : Bool) : Ev (fun k => foghornlaw18_FieldThrough.j1 k many (P45 f m) (P44 f m)) true := by
  classical
  have hlen : (P45 f m ++ [(⟨7, 77⟩ : S45)]).length = m + 1 := by rw [List.length_append, P45_length]; rfl
  have htake : (P45 f m ++ [(⟨7, 77⟩ : S45)]).take m = P45 f m := List.take_left' (P45_length f m)
  have hlast : (rd_T45 (P45 f m ++ [(⟨7, 77⟩ : S45)]) (m : Int)).f1 = 77 := by
    have : rd_T45 (P45 f m ++ [(⟨7, 77⟩ : S45)]) (m : Int) = ⟨7, 77⟩ := by
      unfold rd_T45
      rw [List.getD_eq_getElem?_getD, Int.toNat_natCast, List.getElem?_append_right (by rw [P45_length]; exact Nat.le_refl _), P45_length, Nat.sub_self]
      rfl
    rw [this]
  refine Ev.stepTo' _ (fun k _ => by rw [foghornlaw18_FieldThrough.j1, if_pos (by rw [P45_length]; omega), Option.bind_some, P44_length, hlen, if_pos (by omega), if_pos (by omega), Int.toNat_natCast, htake]) ?_
  refine Ev.bind (through_ev f m (by omega)) ?_
  refine Ev.bind (rthrough_ev f m (by omega)) ?_
  refine Ev.congr (fun k => by rw [if_pos rfl]) ?_
  refine Ev.bind (rSame _ ?_) ?_
  · have h1 := newt_length f m
    split
    · show (L (newt f m)).length < _
      rw [L_length]; omega
    · simp
  refine Ev.congr (fun k => by rw [if_pos rfl, if_pos (by omega), hlast]) ?_
  refine Ev.stepTo' _ (fun k _ => by rw [foghornlaw18_FieldThrough.j2, if_neg (by decide)]) ?_
  exact FieldThrough_l1 f m hm many m 0 (by omega)
theorem FieldThrough_l0 (f : Nat → F × F) (l : List S44) (hf : ∀ i : Nat, i < l.length → rd_T44 l (i : Int) = ⟨I (f i).1, I (f i).2⟩) (many : Bool) (d : Nat) : ∀ i : Nat, i + d = min l.length 40 → Ev (fun k => foghornlaw18_FieldThrough.l0 k l many (P45 f i) (P44 f i) (i : Int)) true := by
  induction d with
  | zero =>
    intro i hi
    by_cases e : (i : Int) < l.length
    · refine Ev.stepTo' _ (fun k _ => by rw [foghornlaw18_FieldThrough.l0, if_pos e, if_neg (by omega)]) ?_
      exact FieldThrough_j1 f i (by omega) many
    · refine Ev.stepTo' _ (fun k _ => by rw [foghornlaw18_FieldThrough.l0, if_neg e]) ?_
      exact FieldThrough_j1 f i (by omega) many
  | succ d ih =>
    intro i hi
    refine Ev.stepTo' _ (fun k _ => by rw [foghornlaw18_FieldThrough.l0, if_pos (by omega), if_pos (by omega), if_pos (by omega), if_pos (by rw [P45_length]; omega), if_pos (by rw [P44_length]; omega), hf i (by omega), ← P45_succ, ← P44_succ, wrap_id _ (by omega) (by omega), show ((i : Int) + 1) = ((i + 1 : Nat) : Int) from by omega]) ?_
    exact ih (i + 1) (by omega)
/-- The statement over numbers. -/
theorem FieldThrough : foghornlaw18_FieldThrough.Pure := by
  intro l many h
  have h' := h.2
  refine Ev.rounds ?_
  have hex : ∀ i : Nat, ∃ p : F × F, i < l.length → rd_T44 l (i : Int) = ⟨I p.1, I p.2⟩ := fun i => by
    by_cases hi : i < l.length
    · have hm : rd_T44 l (i : Int) ∈ l := by
        unfold rd_T44
        rw [Int.toNat_natCast, List.getD_eq_getElem?_getD, List.getElem?_eq_getElem hi]
        exact List.getElem_mem _
      have hw := h' _ hm
      obtain ⟨a, ha⟩ := u8_of hw.1
      obtain ⟨b, hb⟩ := u8_of hw.2
      exact ⟨(a, b), fun _ => by rw [← ha, ← hb]⟩
    · exact ⟨(0, 0), fun e => absurd e hi⟩
  refine Ev.congr (fun k => by rw [foghornlaw18_FieldThrough.f]) ?_
  exact FieldThrough_l0 (fun i => Classical.choose (hex i)) l (fun i hi => Classical.choose_spec (hex i) hi) many (min l.length 40) 0 (by omega)
end Go.Proofs.Ytmdeldiocaofkaa.Pure
