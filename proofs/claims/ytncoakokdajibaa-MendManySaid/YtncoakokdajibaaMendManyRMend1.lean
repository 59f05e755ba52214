import Derived.Test.YtncoakokdajibaaMendManyMendEv
import Derived.Test.YtncoakokdajibaaMendManyRefReed
import Derived.Test.YtncoakokdajibaaMendManyGauss
import Derived.Test.YtncoakokdajibaaMendManyF1
/- The document's marked places, places unlike, the locator: what they come to. -/
namespace Go.Proofs.Ytncoakokdajibaa.Sem
open Go.RowKit Go.Proofs.Ytncoakokdajibaa.Q Go.Proofs.YtncoakokdajibaaW.PrintWords Go.Proofs.YtncoakokdajibaaW.PrintLast Go.Proofs.YtncoakokdajibaaW.PrintMore Go.Proofs.Ytncoakokdajibaa.Gf
theorem places_l0 (n : Nat) (hn : n ≤ 255) (l : List Int) (hl : l.length < 9223372036854775807) : ∀ (rest dn : List Int), l = dn ++ rest → Good n dn →
    ∃ X : List Bool × Bool, Ev (fun k => foghornref20_places.l0 k l (n : Int) (marks n dn) (dn.length : Int)) X ∧ ((Good n l ∧ X = (marks n l, true)) ∨ (¬ Good n l ∧ X.2 = false))
  | [], dn, h, hg => by
    rw [List.append_nil] at h
    subst h
    exact ⟨_, Ev.stepTo2 _ (fun k _ => by rw [foghornref20_places.l0, if_neg (by omega)]) (Ev.now _), Or.inl ⟨hg, rfl⟩⟩
  | x :: rest, dn, h, hg => by
    have hlen : l.length = dn.length + rest.length + 1 := by rw [h, List.length_append, List.length_cons]; omega
    have hrd : rd l (dn.length : Int) = x := by
      unfold rd
      rw [Int.toNat_natCast, h, List.getD_eq_getElem?_getD, List.getElem?_append_right (Nat.le_refl _), Nat.sub_self]
      rfl
    have hmem : x ∈ l := by rw [h]; exact List.mem_append_right _ (List.mem_cons_self ..)
    by_cases h0 : x < 0
    · exact ⟨_, Ev.stepTo2 _ (fun k _ => by rw [foghornref20_places.l0, if_pos (by omega), if_pos (by omega), hrd, if_pos h0]) (Ev.now _), Or.inr ⟨fun hG => by have := (hG.1 x hmem).1; omega, rfl⟩⟩
    · by_cases h1 : x ≥ (n : Int)
      · exact ⟨_, Ev.stepTo2 _ (fun k _ => by rw [foghornref20_places.l0, if_pos (by omega), if_pos (by omega), hrd, if_neg h0, if_pos h1]) (Ev.now _), Or.inr ⟨fun hG => by have := (hG.1 x hmem).2; omega, rfl⟩⟩
      · obtain ⟨i, rfl⟩ : ∃ i : Nat, x = (i : Int) := ⟨x.toNat, by omega⟩
        have hi : i < n := by omega
        by_cases h2 : (i : Int) ∈ dn
        · refine ⟨_, Ev.stepTo2 _ (fun k _ => by rw [foghornref20_places.l0, if_pos (by omega), if_pos (by omega), hrd, if_neg h0, if_neg h1, if_pos (by omega), if_pos (by rw [marks_length]; omega), rd_marks n dn i hi, if_pos (show isf dn i = true from decide_eq_true h2)]) (Ev.now _), Or.inr ⟨fun hG => ?_, rfl⟩⟩
          have := hG.2
          rw [h, List.nodup_append] at this
          exact this.2.2 _ h2 _ (List.mem_cons_self ..) rfl
        · have hg' : Good n (dn ++ [(i : Int)]) := ⟨fun y hy => (List.mem_append.1 hy).elim (hg.1 y) (fun hy => by rw [List.mem_singleton.1 hy]; omega), by
            rw [List.nodup_append]
            refine ⟨hg.2, by simp, fun a ha b hb hab => ?_⟩
            rw [List.mem_singleton.1 hb] at hab
            exact h2 (hab ▸ ha)⟩
          obtain ⟨X, hX, hX2⟩ := places_l0 n hn l hl rest (dn ++ [(i : Int)]) (by rw [h, List.append_assoc]; rfl) hg'
          refine ⟨X, Ev.stepTo2 _ (fun k _ => ?_) hX, hX2⟩
          rw [foghornref20_places.l0, if_pos (by omega), if_pos (by omega), hrd, if_neg h0, if_neg h1, if_pos (by omega), if_pos (by rw [marks_length]; omega), rd_marks n dn i hi, if_neg (by unfold isf; rw [decide_eq_false h2]; decide), Int.toNat_natCast, marks_set n dn i hi, wrap_id _ (by omega) (by omega), List.length_append, show ((dn.length : Int) + 1) = ((dn.length + [(i : Int)].length : Nat) : Int) from by rw [List.length_singleton]; omega]
theorem places_ev (n : Nat) (hn : n ≤ 255) (l : List Int) (hl : l.length < 9223372036854775807) : ∃ X : List Bool × Bool, Ev (fun k => foghornref20_places.f k l (n : Int)) X ∧ ((Good n l ∧ X = (marks n l, true)) ∨ (¬ Good n l ∧ X.2 = false)) := by
  obtain ⟨X, h1, h2⟩ := places_l0 n hn l hl l [] rfl ⟨fun x hx => (nomatch hx), List.nodup_nil⟩
  refine ⟨X, Ev.congr (fun k => ?_) h1, h2⟩
  rw [foghornref20_places.f, if_pos (by omega), if_pos (by omega), Int.toNat_natCast, marks_nil]
  rfl
theorem wrong_no (w : List F) (r : Int) (l : List Int) (hl : l.length ≤ 140737488351232) (h : ¬ (Fits w.length r ∧ Good w.length l)) : Ev (fun k => foghornref20_Wrong.f k (B w) r l) (([] : List Bool), 1) := by
  by_cases hfit : Fits w.length r
  · have hn := hfit.bounds
    obtain ⟨X, hX, hX2⟩ := places_ev w.length (by omega) l (by omega)
    rcases hX2 with ⟨hg, _⟩ | ⟨_, hX2⟩
    · exact absurd ⟨hfit, hg⟩ h
    · refine Ev.congr (fun k => by rw [foghornref20_Wrong.f, toNat_len, rcheck_fits hfit, Option.bind_some, if_pos rfl]) ?_
      refine Ev.bind hX ?_
      exact Ev.congr (fun k => by rw [hX2, if_neg (by decide)]) (Ev.now _)
  · exact Ev.congr (fun k => by rw [foghornref20_Wrong.f, toNat_len, rcheck_no hfit, Option.bind_some, if_neg (by decide)]) (Ev.now _)
theorem wrong_ok (w : List F) (r : Int) (l : List Int) (hl : l.length ≤ 140737488351232) (hfit : Fits w.length r) (hg : Good w.length l) : Ev (fun k => foghornref20_Wrong.f k (B w) r l) (marks w.length l, 0) := by
  have hn := hfit.bounds
  obtain ⟨X, hX, hX2⟩ := places_ev w.length (by omega) l (by omega)
  rcases hX2 with ⟨_, rfl⟩ | ⟨hg', _⟩
  · refine Ev.congr (fun k => by rw [foghornref20_Wrong.f, toNat_len, rcheck_fits hfit, Option.bind_some, if_pos rfl]) ?_
    refine Ev.bind hX ?_
    exact Ev.congr (fun k => by rw [if_pos rfl]) (Ev.now _)
  · exact absurd hg hg'
theorem rrising_l0 (M : List Bool) (n : Nat) (hM : M.length = n) (hn : n ≤ 255) (is : Nat → Bool) (his : ∀ i, i < n → rdOf false M (i : Int) = is i) (d : Nat) : ∀ i, i + d = n → Ev (fun k => foghornref20_rising.l0 k M (Lz (gone i is)) (i : Int)) (Lz (gone n is)) := by
  induction d with
  | zero =>
    intro i hi
    obtain rfl : i = n := by omega
    exact Ev.stepTo2 _ (fun k _ => by rw [foghornref20_rising.l0, if_neg (by omega)]) (Ev.now _)
  | succ d ih =>
    intro i hi
    have h1 := ih (i + 1) (by omega)
    rw [gone_succ] at h1
    by_cases e2 : is i = true
    · rw [if_pos e2] at h1
      refine Ev.stepTo2 _ (fun k _ => ?_) h1
      rw [foghornref20_rising.l0, if_pos (by omega), if_pos (by omega), his i (by omega), if_pos e2, if_pos (by rw [Lz_length]; have := gone_le i is; omega), wrap_id _ (by omega) (by omega), show ((i : Int) + 1) = ((i + 1 : Nat) : Int) from by omega]
      congr 1
      unfold Lz
      rw [List.map_append]
      rfl
    · rw [if_neg e2] at h1
      refine Ev.stepTo2 _ (fun k _ => ?_) h1
      rw [foghornref20_rising.l0, if_pos (by omega), if_pos (by omega), his i (by omega), if_neg e2, wrap_id _ (by omega) (by omega), show ((i : Int) + 1) = ((i + 1 : Nat) : Int) from by omega]
theorem rrising_ev (M : List Bool) (n : Nat) (hM : M.length = n) (hn : n ≤ 255) (is : Nat → Bool) (his : ∀ i, i < n → rdOf false M (i : Int) = is i) : Ev (fun k => foghornref20_rising.f k M) (Lz (gone n is)) := by
  refine Ev.congr (fun k => by rw [foghornref20_rising.f]) ?_
  exact rrising_l0 M n hM hn is his n 0 (Nat.zero_add _)
def flags (n : Nat) (P : Nat → Bool) : List Bool := (List.range n).map P
theorem flags_length (n : Nat) (P : Nat → Bool) : (flags n P).length = n := by unfold flags; rw [List.length_map, List.length_range]
theorem rd_flags (n : Nat) (P : Nat → Bool) (i : Nat) (h : i < n) : rdOf false (flags n P) (i : Int) = P i := by
  unfold rdOf flags
  rw [Int.toNat_natCast, List.getD_eq_getElem?_getD, List.getElem?_map, List.getElem?_range h]
  rfl
theorem flags_set (n : Nat) (P : Nat → Bool) (i : Nat) (b : Bool) : (flags n P).set i b = flags n (fun m => if m = i then b else P m) := by
  apply List.ext_getElem
  · rw [List.length_set, flags_length, flags_length]
  · intro m h1 h2
    rw [List.getElem_set]
    simp only [flags, List.getElem_map, List.getElem_range]
    by_cases e : i = m
    · rw [if_pos e, if_pos e.symm]
    · rw [if_neg e, if_neg (fun h => e h.symm)]
theorem flags_congr {n : Nat} {P P' : Nat → Bool} (h : ∀ i, i < n → P i = P' i) : flags n P = flags n P' := List.map_congr_left (fun i hi => h i (List.mem_range.1 hi))
theorem runlike_l0 (w c : List F) (hc : c.length = w.length) (hn : w.length ≤ 255) (l : List Int) (d : Nat) : ∀ i, i + d = w.length → Ev (fun k => foghornref20_unlike.l0 k (B w) (B c) (marks w.length l) (flags w.length (fun m => decide (m < i) && (!isf l m && nz (at_ (lay w c) m)))) (i : Int)) (Lz (bad (lay w c) w.length (isf l))) := by
  induction d with
  | zero =>
    intro i hi
    obtain rfl : i = w.length := by omega
    refine Ev.stepTo2 _ (fun k _ => by rw [foghornref20_unlike.l0, if_neg (by rw [B_size]; omega)]) ?_
    have h := rrising_ev (flags w.length (fun m => decide (m < w.length) && (!isf l m && nz (at_ (lay w c) m)))) w.length (flags_length _ _) hn (fun m => !isf l m && nz (at_ (lay w c) m)) (fun m hm => by rw [rd_flags _ _ _ hm, decide_eq_true hm]; rfl)
    exact Ev.bind h (Ev.now _)
  | succ d ih =>
    intro i hi
    have h1 := ih (i + 1) (by omega)
    have hat : at_ (lay w c) i = 0 ↔ I (at_ w i) = I (at_ c i) := by
      rw [at_lay w c i hc.symm, add_eq_zero_iff]
      exact ⟨fun h => by rw [h], I_inj⟩
    have step : ∀ b : Bool, b = (!isf l i && nz (at_ (lay w c) i)) → (flags w.length (fun m => decide (m < i) && (!isf l m && nz (at_ (lay w c) m)))).set i b = flags w.length (fun m => decide (m < i + 1) && (!isf l m && nz (at_ (lay w c) m))) := fun b hb => by
      rw [flags_set]
      refine flags_congr (fun m _ => ?_)
      by_cases e : m = i
      · rw [if_pos e, e, decide_eq_true (Nat.lt_succ_self i), hb]; rfl
      · rw [if_neg e, show decide (m < i) = decide (m < i + 1) from decide_eq_decide.2 (by omega)]
    by_cases e : I (at_ w i) = I (at_ c i)
    · refine Ev.stepTo2 _ (fun k _ => ?_) h1
      rw [foghornref20_unlike.l0, if_pos (by rw [B_size]; omega), if_pos (by omega), if_pos (by rw [B_size]; omega), bt_B, bt_B, Int.toNat_natCast, if_pos e, if_pos (by rw [flags_length]; omega), wrap_id _ (by omega) (by omega), show ((i : Int) + 1) = ((i + 1 : Nat) : Int) from by omega, step false (by unfold nz; rw [hat.2 e]; simp)]
    · refine Ev.stepTo2 _ (fun k _ => ?_) h1
      rw [foghornref20_unlike.l0, if_pos (by rw [B_size]; omega), if_pos (by omega), if_pos (by rw [B_size]; omega), bt_B, bt_B, Int.toNat_natCast, if_neg e, if_pos (by rw [marks_length]; omega), if_pos (by rw [flags_length]; omega), rd_marks _ _ i (by omega), wrap_id _ (by omega) (by omega), show ((i : Int) + 1) = ((i + 1 : Nat) : Int) from by omega, step (!isf l i) (by
        have : nz (at_ (lay w c) i) = true := by unfold nz; exact decide_eq_true (fun h => e (hat.1 h))
        rw [this, Bool.and_true])]
theorem runlike_ev (w c : List F) (hc : c.length = w.length) (hn : w.length ≤ 255) (l : List Int) : Ev (fun k => foghornref20_unlike.f k (B w) (B c) (marks w.length l)) (Lz (bad (lay w c) w.length (isf l))) := by
  have e : List.replicate w.length false = flags w.length (fun m => decide (m < 0) && (!isf l m && nz (at_ (lay w c) m))) := by
    rw [marks_nil]
    exact List.map_congr_left (fun m _ => rfl)
  refine Ev.congr (fun k => ?_) (runlike_l0 w c hc hn l w.length 0 (Nat.zero_add _))
  rw [foghornref20_unlike.f, toNat_len, if_pos (by omega), if_pos (by omega), Int.toNat_natCast, e]
  rfl
theorem rwithin_ev (w c : List F) (r : Int) (l : List Int) (hl : l.length ≤ 140737488351232) (hfit : Fits w.length r) (hg : Good w.length l) (hc : c.length = w.length) :
    ∃ X : Bool × Int, Ev (fun k => foghornref20_Within.f k (B w) (B c) r l) X ∧ Ev (fun k => mend_Within.f k (B w) (B c) r l) X ∧ (X.1 = true ↔ Reach w c r.toNat l) := by
  have hn := hfit.bounds
  have hlen : l.length ≤ w.length := by have := gone_count _ _ hg; have := gone_le w.length (isf l); omega
  have hb := bad_le (lay w c) w.length (isf l)
  have hmc : Ev (fun k => mend_check.f k (B w) r l) (marks w.length l, 0) := by
    obtain ⟨X, hX, hX2⟩ := marked_ev w.length (by omega) l (by omega)
    rcases hX2 with ⟨_, rfl⟩ | ⟨hg', _⟩
    · refine Ev.congr (fun k => by rw [mend_check.f, toNat_len, check_fits hfit, Option.bind_some, if_pos rfl]) ?_
      refine Ev.bind hX ?_
      exact Ev.congr (fun k => by rw [if_pos rfl]) (Ev.now _)
    · exact absurd hg hg'
  have hsz : (((B c).size : Int) != ((B w).size : Int)) = false := by rw [B_size, B_size, hc]; simp
  have hw1 := rwhole_ev c r (by rw [hc]; exact hfit)
  have hw2 := whole_ev c r (by rw [hc]; exact hfit)
  by_cases hW : wholeB c r.toNat = true
  · refine ⟨(decide (2 * (bad (lay w c) w.length (isf l)).length + l.length ≤ r.toNat), 0), ?_, ?_, ?_⟩
    · refine Ev.congr (fun k => by rw [foghornref20_Within.f]) ?_
      refine Ev.bind (wrong_ok w r l hl hfit hg) ?_
      refine Ev.congr (fun k => by rw [if_pos rfl, hsz]) ?_
      refine Ev.stepTo2 _ (fun k _ => by rw [foghornref20_Within.j0, if_neg (by decide)]) ?_
      refine Ev.bind hw1 ?_
      refine Ev.congr (fun k => by rw [if_pos rfl, hW, if_pos rfl]) ?_
      refine Ev.bind (runlike_ev w c hc (by omega) l) ?_
      refine Ev.congr (fun k => by rw [Lz_length, wrap_id (2 * _) (by omega) (by omega), wrap_id _ (by omega) (by omega), show decide (2 * ((bad (lay w c) w.length (isf l)).length : Int) + (l.length : Int) ≤ r) = decide (2 * (bad (lay w c) w.length (isf l)).length + l.length ≤ r.toNat) from decide_eq_decide.2 (by omega)]) (Ev.now _)
    · refine Ev.congr (fun k => by rw [mend_Within.f]) ?_
      refine Ev.bind hmc ?_
      refine Ev.congr (fun k => by rw [if_pos rfl, hsz]) ?_
      refine Ev.stepTo2 _ (fun k _ => by rw [mend_Within.j0, if_neg (by decide)]) ?_
      refine Ev.bind hw2 ?_
      refine Ev.congr (fun k => by rw [hW, if_pos rfl]) ?_
      have := within_ev w c hc (by omega) l r.toNat l.length (by omega)
      rw [Int.toNat_of_nonneg (by omega)] at this
      exact Ev.bind this (Ev.now _)
    · simp only [decide_eq_true_eq]
      exact ⟨fun h => ⟨hc, (wholeB_iff c r.toNat).1 hW, h⟩, fun h => h.2.2⟩
  · have hW' := Bool.eq_false_iff.2 hW
    refine ⟨(false, 1), ?_, ?_, ⟨fun h => (nomatch h), fun h => absurd ((wholeB_iff c r.toNat).2 h.2.1) hW⟩⟩
    · refine Ev.congr (fun k => by rw [foghornref20_Within.f]) ?_
      refine Ev.bind (wrong_ok w r l hl hfit hg) ?_
      refine Ev.congr (fun k => by rw [if_pos rfl, hsz]) ?_
      refine Ev.stepTo2 _ (fun k _ => by rw [foghornref20_Within.j0, if_neg (by decide)]) ?_
      refine Ev.bind hw1 ?_
      exact Ev.congr (fun k => by rw [if_pos rfl, hW', if_neg (by decide)]) (Ev.now _)
    · refine Ev.congr (fun k => by rw [mend_Within.f]) ?_
      refine Ev.bind hmc ?_
      refine Ev.congr (fun k => by rw [if_pos rfl, hsz]) ?_
      refine Ev.stepTo2 _ (fun k _ => by rw [mend_Within.j0, if_neg (by decide)]) ?_
      refine Ev.bind hw2 ?_
      exact Ev.congr (fun k => by rw [hW', if_neg (by decide)]) (Ev.now _)
theorem rloc_l1 (n : Nat) (hn : n ≤ 255) (l : List Int) (p : List F) (i q : Nat) (hq : q < n) (hp : p.length ≤ 256) (hi : i < l.length) (hrd : rd l (i : Int) = (q : Int)) (res : List Int × Int) (d : Nat) : ∀ (j : Nat) (o : List F), j + d = p.length → o.length = p.length + 1 → (∀ m, at_ o m = at_ p m + if 1 ≤ m ∧ m ≤ j then at_ p (m - 1) * plc n q else 0) →
    (∀ o' : List F, o'.length = p.length + 1 → (∀ m, at_ o' m = at_ p m + if 1 ≤ m ∧ m ≤ p.length then at_ p (m - 1) * plc n q else 0) → Ev (fun k => foghornref20_Locator.l0 k l (n : Int) (L o') (wrap64 ((i : Int) + 1))) res) →
    Ev (fun k => foghornref20_Locator.l1 k l (n : Int) (L p) (i : Int) (L o) (j : Int)) res := by
  induction d with
  | zero =>
    intro j o hj ho hat H
    obtain rfl : j = p.length := by omega
    exact Ev.stepTo2 _ (fun k _ => by rw [foghornref20_Locator.l1, if_neg (by rw [L_length]; omega)]) (H o ho hat)
  | succ d ih =>
    intro j o hj ho hat H
    have h1 := ih (j + 1) (o.set (j + 1) (at_ o (j + 1) + at_ p j * plc n q)) (by omega) (by rw [List.length_set]; exact ho) (fun m => by
      rw [at_set _ _ _ _ (by omega)]
      by_cases e : m = j + 1
      · rw [if_pos e, e, if_pos (by omega), Nat.add_sub_cancel, hat (j + 1), if_neg (by omega), add_zero]
      · rw [if_neg e, hat m]
        by_cases e2 : 1 ≤ m ∧ m ≤ j
        · rw [if_pos e2, if_pos (by omega)]
        · rw [if_neg e2, if_neg (by omega)]) H
    refine Ev.stepTo2 _ (fun k _ => by rw [foghornref20_Locator.l1, if_pos (by rw [L_length]; omega), wrap_id ((j : Int) + 1) (by omega) (by omega), if_pos (by omega), if_pos (by rw [L_length]; omega), if_pos (by omega), if_pos (by omega), if_pos (by omega), hrd]) ?_
    refine Ev.bind (rx_ev q n hq hn) ?_
    refine Ev.congr (fun k => by rw [rd_L, Int.toNat_natCast]) ?_
    refine Ev.bind (rtimes_ev _ _) ?_
    refine Ev.congr (fun k => ?_) h1
    rw [show ((j : Int) + 1) = ((j + 1 : Nat) : Int) from by omega, rd_L, Int.toNat_natCast, bx, L_set]
theorem rloc_l0 (n : Nat) (hn : n ≤ 255) (l : List Int) (hl : l.length ≤ 255) (hg : Good n l) : ∀ (rest dn : List Int) (o : List F), l = dn ++ rest → o.length = dn.length + 1 → at_ o 0 = 1 → (∀ i : Nat, (i : Int) ∈ dn → evp o (inv (plc n i)) = 0) →
    ∃ p : List F, Ev (fun k => foghornref20_Locator.l0 k l (n : Int) (L o) (dn.length : Int)) (L p, 0) ∧ p.length = l.length + 1 ∧ at_ p 0 = 1 ∧ (∀ i : Nat, (i : Int) ∈ l → evp p (inv (plc n i)) = 0)
  | [], dn, o, h, h1, h2, h3 => by
    rw [List.append_nil] at h
    subst h
    exact ⟨o, Ev.stepTo2 _ (fun k _ => by rw [foghornref20_Locator.l0, if_neg (by omega)]) (Ev.now _), h1, h2, h3⟩
  | x :: rest, dn, o, h, h1, h2, h3 => by
    have hlen : l.length = dn.length + rest.length + 1 := by rw [h, List.length_append, List.length_cons]; omega
    have hrd : rd l (dn.length : Int) = x := by
      unfold rd
      rw [Int.toNat_natCast, h, List.getD_eq_getElem?_getD, List.getElem?_append_right (Nat.le_refl _), Nat.sub_self]
      rfl
    have hx := hg.1 x (by rw [h]; exact List.mem_append_right _ (List.mem_cons_self ..))
    obtain ⟨i, rfl⟩ : ∃ i : Nat, x = (i : Int) := ⟨x.toNat, by omega⟩
    have hi : i < n := by omega
    obtain ⟨o2, ho2⟩ : ∃ o2 : List F, o2.length = o.length + 1 ∧ ∀ m, at_ o2 m = at_ o m + if 1 ≤ m ∧ m ≤ o.length then at_ o (m - 1) * plc n i else 0 := by
      refine ⟨(List.range (o.length + 1)).map (fun m => at_ o m + if 1 ≤ m ∧ m ≤ o.length then at_ o (m - 1) * plc n i else 0), by rw [List.length_map, List.length_range], fun m => ?_⟩
      by_cases hm : m < o.length + 1
      · rw [at_lt _ m (by rw [List.length_map, List.length_range]; exact hm), List.getElem_map, List.getElem_range]
      · rw [at_ge _ m (by rw [List.length_map, List.length_range]; omega), if_neg (by omega), at_ge _ m (by omega), add_zero]
    have hmul : Sm o2 (mulL o [1, plc n i]) := fun m => by
      rw [ho2.2 m]
      cases m with
      | zero => rw [if_neg (by omega), (at_mul2 o 1 (plc n i)).1, one_mul, add_zero]
      | succ m =>
        rw [(at_mul2 o 1 (plc n i)).2, one_mul]
        by_cases c : m + 1 ≤ o.length
        · rw [if_pos ⟨by omega, c⟩, Nat.add_sub_cancel, mul_comm]
        · rw [if_neg (by omega), at_ge o m (by omega), mul_zero]
    have hev : ∀ y, evp o2 y = evp o y * (1 + plc n i * y) := fun y => by rw [evp_congr hmul, evp_mulL, evp_two]
    obtain ⟨p, hp, hp2⟩ := rloc_l0 n hn l hl hg rest (dn ++ [(i : Int)]) o2 (by rw [h, List.append_assoc]; rfl) (by rw [ho2.1, h1, List.length_append, List.length_singleton]) (by rw [ho2.2 0, if_neg (by omega), add_zero, h2]) (fun j hj => by
      rw [hev]
      rcases List.mem_append.1 hj with hj | hj
      · rw [h3 j hj, zero_mul]
      · rw [show j = i from Int.ofNat.inj (List.mem_singleton.1 hj), mul_inv _ (plc_ne n i), add_self, mul_zero])
    refine ⟨p, Ev.stepTo2 _ (fun k hk => ?_) (rloc_l1 n hn l o dn.length i hi (by omega) (by omega) hrd (L p, 0) o.length 0 (o ++ [0]) (by omega) (by rw [List.length_append, List.length_singleton]) (fun m => by rw [show at_ (o ++ [0]) m = at_ o m from at_pad o 1 m, if_neg (by omega), add_zero]) (fun o' e1 e2 => ?_)), hp2⟩
    · rw [foghornref20_Locator.l0, if_pos (by omega), Option.bind_some, if_pos (by rw [L_length, List.length_nil]; omega), List.nil_append, Option.bind_some, if_pos (by rw [L_length]; omega), show L o ++ [0] = L (o ++ [0]) from (L_append o [0]).symm]
      rfl
    · have : o' = o2 := ext_at (by rw [e1, ho2.1]) (fun m _ => by rw [e2 m, ho2.2 m])
      rw [this, wrap_id _ (by omega) (by omega)]
      rw [List.length_append, List.length_singleton] at hp
      exact hp
theorem rlocator_ev (n : Nat) (hn1 : 1 ≤ n) (hn : n ≤ 255) (l : List Int) (hg : Good n l) : ∃ p : List F, Ev (fun k => foghornref20_Locator.f k l (n : Int)) (L p, 0) ∧ p.length = l.length + 1 ∧ at_ p 0 = 1 ∧ (∀ i : Nat, (i : Int) ∈ l → evp p (inv (plc n i)) = 0) := by
  have hlen : l.length ≤ n := by have := gone_count _ _ hg; have := gone_le n (isf l); omega
  obtain ⟨X, hX, hX2⟩ := places_ev n hn l (by omega)
  rcases hX2 with ⟨_, rfl⟩ | ⟨hg', _⟩
  · obtain ⟨p, hp, hp2⟩ := rloc_l0 n hn l (by omega) hg l [] [1] rfl rfl rfl (fun i hi => nomatch hi)
    refine ⟨p, Ev.congr (fun k => by rw [foghornref20_Locator.f, if_neg (by omega), decide_eq_false (by omega)]) (Ev.stepTo2 _ (fun k _ => by rw [foghornref20_Locator.j0, if_neg (by decide)]) ?_), hp2⟩
    refine Ev.bind hX ?_
    exact Ev.congr (fun k => by rw [if_pos rfl]; rfl) hp
  · exact absurd hg hg'
end Go.Proofs.Ytncoakokdajibaa.Sem
