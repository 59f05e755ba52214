import Derived.Test.YtncoakokdajibaaMendNeverMendLaw
import Derived.Test.YtncoakokdajibaaMendNeverF1
/- What is told is within reach; and if nothing is told, nothing is. -/
namespace Go.Proofs.Ytncoakokdajibaa.Sem
open Go.RowKit Go.Proofs.Ytncoakokdajibaa.Q Go.Proofs.YtncoakokdajibaaW.PrintWords Go.Proofs.YtncoakokdajibaaW.PrintLast Go.Proofs.YtncoakokdajibaaW.PrintMore Go.Proofs.Ytncoakokdajibaa.Gf

theorem check_ev (w : List F) (r : Int) (hfit : Fits w.length r) (l : List Int) (hg : Good w.length l) (hl : l.length ≤ 140737488351232) : Ev (fun k => mend_check.f k (B w) r l) (marks w.length l, 0) := by
  have hn := hfit.bounds
  obtain ⟨X, hX, ⟨_, rfl⟩ | ⟨h, _⟩⟩ := marked_ev w.length (by omega) l (by omega)
  · refine Ev.congr (fun k => by rw [mend_check.f, toNat_len, check_fits hfit, Option.bind_some, if_pos rfl]) ?_
    exact Ev.bind hX (Ev.congr (fun k => by rw [if_pos rfl]) (Ev.now _))
  · exact absurd hg h
theorem Within_off (w : List F) (r : Int) (hfit : Fits w.length r) (l : List Int) (hg : Good w.length l) (hl : l.length ≤ 140737488351232) : Ev (fun k => mend_Within.f k (B w) (B []) r l) (false, 1) := by
  have hn := hfit.bounds
  refine Ev.congr (fun k => by rw [mend_Within.f]) ?_
  refine Ev.bind (check_ev w r hfit l hg hl) ?_
  refine Ev.congr (fun k => by rw [if_pos rfl, B_size, B_size, show (((([] : List F).length : Nat) : Int) != (w.length : Int)) = true from bne_iff_ne.2 (by rw [List.length_nil]; omega)]) ?_
  exact Ev.stepTo _ (fun k _ => by rw [mend_Within.j0, if_pos rfl]) (Ev.now _)
theorem Within_on (w c : List F) (r : Int) (hfit : Fits w.length r) (l : List Int) (hg : Good w.length l) (hl : l.length ≤ 255) (hc : c.length = w.length) (hcode : Code r.toNat c) : Ev (fun k => mend_Within.f k (B w) (B c) r l) (decide (2 * (bad (lay w c) w.length (isf l)).length + l.length ≤ r.toNat), 0) := by
  have hn := hfit.bounds
  have hw := whole_ev c r (by rw [hc]; exact hfit)
  rw [(wholeB_iff c r.toNat).2 hcode] at hw
  refine Ev.congr (fun k => by rw [mend_Within.f]) ?_
  refine Ev.bind (check_ev w r hfit l hg (by omega)) ?_
  refine Ev.congr (fun k => by rw [if_pos rfl, B_size, B_size, hc, bne_self_eq_false]) ?_
  refine Ev.stepTo _ (fun k _ => by rw [mend_Within.j0, if_neg (by decide)]) ?_
  refine Ev.bind hw ?_
  refine Ev.congr (fun k => by rw [if_pos rfl]) ?_
  have h1 := within_ev w c hc (by omega) l r.toNat l.length (by omega)
  rw [Int.toNat_of_nonneg (by omega)] at h1
  exact Ev.bind h1 (Ev.now _)
theorem none_told : (wrap64 ((([] : List Int).length : Int) + (([] : List Int).length : Int)) == 0) = true := by rw [wrap_id _ (by decide) (by decide)]; rfl
theorem good_len {n : Nat} {l : List Int} (hg : Good n l) : l.length ≤ n := by
  rw [← gone_count n l hg]
  exact gone_le n _
theorem bad_pre (e : List F) (is : Nat → Bool) (p : Nat) : ∀ d, ∃ t, bad e (p + d) is = bad e p is ++ t
  | 0 => ⟨[], (List.append_nil _).symm⟩
  | d + 1 => by
    obtain ⟨t, h⟩ := bad_pre e is p d
    rw [← Nat.add_assoc, bad_succ]
    split
    · exact ⟨t ++ [p + d], by rw [h, List.append_assoc]⟩
    · exact ⟨t, h⟩
theorem never_l1 (w c : List F) (hc : c.length = w.length) (hn : w.length ≤ 255) (l : List Int) (hl : l.length ≤ 255) (g : List Int) (d : Nat) : ∀ p, p + d = w.length →
    Ev (fun k => foghornlaw20_MendNever.l1 k (B w) l ((bad (lay w c) p (isf l)).length : Int) (p : Int) (B c) (Lz (bad (lay w c) w.length (isf l))) g) true := by
  induction d with
  | zero =>
    intro p hp
    obtain rfl : p = w.length := by omega
    refine Ev.stepTo _ (fun k _ => by rw [foghornlaw20_MendNever.l1, if_neg (by rw [B_size]; omega), Lz_length, beq_self_eq_true]) (Ev.now _)
  | succ d ih =>
    intro p hp
    have hb := bad_le (lay w c) p (isf l)
    refine Ev.stepTo _ (fun k _ => by rw [foghornlaw20_MendNever.l1, if_pos (by rw [B_size]; omega)]) ?_
    have next := ih (p + 1) (by omega)
    rw [bad_succ] at next
    have hat : at_ (lay w c) p = 0 ↔ I (at_ w p) = I (at_ c p) := by
      rw [at_lay w c p hc.symm, add_eq_zero_iff]
      exact ⟨fun h => by rw [h], I_inj⟩
    have j7 : ∀ x : Bool, x = (!isf l p && (I (at_ w p) != I (at_ c p))) → Ev (fun k => foghornlaw20_MendNever.j7 k (B w) l ((bad (lay w c) p (isf l)).length : Int) (p : Int) x (B c) (Lz (bad (lay w c) w.length (isf l))) g) true := fun x hx => by
      by_cases h : isf l p = false ∧ at_ (lay w c) p ≠ 0
      · rw [if_pos h] at next
        have hx' : x = true := by
          rw [hx, h.1, bne_iff_ne.2 (fun e => h.2 (hat.2 e))]
          rfl
        subst hx'
        obtain ⟨t, ht⟩ := bad_pre (lay w c) (isf l) (p + 1) d
        rw [show p + 1 + d = w.length by omega, bad_succ, if_pos h] at ht
        have hlen : (bad (lay w c) p (isf l)).length < (bad (lay w c) w.length (isf l)).length := by
          rw [ht, List.length_append, List.length_append, List.length_singleton]
          omega
        have hrd : rd (Lz (bad (lay w c) w.length (isf l))) ((bad (lay w c) p (isf l)).length : Int) = (p : Int) := by
          unfold rd Lz
          rw [Int.toNat_natCast, List.getD_eq_getElem?_getD, List.getElem?_map, ht, List.append_assoc, List.getElem?_append_right (Nat.le_refl _), Nat.sub_self]
          rfl
        refine Ev.stepTo _ (fun k _ => ?_) next
        rw [foghornlaw20_MendNever.j7, if_pos rfl, Lz_length, if_neg (by omega), if_pos (by omega), if_pos (by omega), hrd, if_pos rfl, wrap_id _ (by omega) (by omega), wrap_id _ (by omega) (by omega), List.length_append, List.length_singleton, show (((bad (lay w c) p (isf l)).length : Int) + 1) = (((bad (lay w c) p (isf l)).length + 1 : Nat) : Int) by omega, show ((p : Int) + 1) = ((p + 1 : Nat) : Int) by omega]
      · rw [if_neg h] at next
        have hx' : x = false := by
          rw [hx]
          refine Bool.eq_false_iff.2 (fun hh => h ?_)
          rw [Bool.and_eq_true] at hh
          exact ⟨by simpa using hh.1, fun e => absurd (hat.1 e) (bne_iff_ne.1 hh.2)⟩
        subst hx'
        refine Ev.stepTo _ (fun k _ => ?_) next
        rw [foghornlaw20_MendNever.j7, if_neg (by decide), wrap_id _ (by omega) (by omega), show ((p : Int) + 1) = ((p + 1 : Nat) : Int) by omega]
    have l2 : ∀ (e : Nat) (j : Nat), j + e = l.length → Ev (fun k => foghornlaw20_MendNever.l2 k (B w) l ((bad (lay w c) p (isf l)).length : Int) (p : Int) (isf (l.take j) p) (j : Int) (B c) (Lz (bad (lay w c) w.length (isf l))) g) true := by
      intro e
      induction e with
      | zero =>
        intro j hj
        rw [List.take_of_length_le (show l.length ≤ j by omega)]
        cases hi : isf l p with
        | true => exact Ev.stepTo _ (fun k _ => by rw [foghornlaw20_MendNever.l2, if_neg (by omega), if_pos rfl]) (j7 false (by rw [hi]; rfl))
        | false => exact Ev.stepTo _ (fun k _ => by rw [foghornlaw20_MendNever.l2, if_neg (by omega), if_neg (by decide), if_pos (by omega), if_pos (by rw [B_size]; omega), if_pos (by rw [B_size]; omega), bt_B, bt_B, Int.toNat_natCast]) (j7 _ (by rw [hi]; rfl))
      | succ e ihe =>
        intro j hj
        have h1 := ihe (j + 1) (by omega)
        have ht : isf (l.take (j + 1)) p = (isf (l.take j) p || (rd l (j : Int) == (p : Int))) := by
          have hrd : rd l (j : Int) = l[j] := by
            unfold rd
            rw [Int.toNat_natCast, List.getD_eq_getElem?_getD, List.getElem?_eq_getElem (by omega)]
            rfl
          rw [hrd]
          unfold isf
          rw [List.take_add_one, List.getElem?_eq_getElem (by omega), Bool.eq_iff_iff, Bool.or_eq_true, decide_eq_true_iff, decide_eq_true_iff, beq_iff_eq, List.mem_append]
          refine or_congr Iff.rfl ?_
          show (p : Int) ∈ [l[j]] ↔ _
          rw [List.mem_singleton]
          exact eq_comm
        rw [ht] at h1
        cases hi : isf (l.take j) p with
        | true =>
          rw [hi, Bool.true_or] at h1
          exact Ev.stepTo _ (fun k _ => by rw [foghornlaw20_MendNever.l2, if_pos (by omega), if_pos rfl, wrap_id _ (by omega) (by omega), show ((j : Int) + 1) = ((j + 1 : Nat) : Int) by omega]) h1
        | false =>
          rw [hi, Bool.false_or] at h1
          exact Ev.stepTo _ (fun k _ => by rw [foghornlaw20_MendNever.l2, if_pos (by omega), if_neg (by decide), if_pos (by omega), wrap_id _ (by omega) (by omega), show ((j : Int) + 1) = ((j + 1 : Nat) : Int) by omega]) h1
    exact l2 l.length 0 (Nat.zero_add _)
/-- What Mend answered, and another codeword (or none): all that is asked holds. -/
theorem never_j3 (w o : List F) (r : Int) (hfit : Fits w.length r) (l : List Int) (hg : Good w.length l) (inn : Bool) (hin : inn = true → Reach w o r.toNat l) :
    (∀ c, Reach w c r.toNat l → Ev (fun k => foghornlaw20_MendNever.j3 k (B w) r l 0 (B o) inn false (B c) (Lz (bad (lay w c) w.length (isf l))) (Lz (gone w.length (isf l)))) true) ∧ ((∀ c, ¬ Reach w c r.toNat l) → Ev (fun k => foghornlaw20_MendNever.j3 k (B w) r l 9 (B o) inn false (B []) [] []) true) := by
  have hn := hfit.bounds
  have hr : ((r.toNat : Nat) : Int) = r := by omega
  have hgl := good_len hg
  refine ⟨fun c hc => ?_, fun h => ?_⟩
  · have hcc : Reach c c r.toNat l := by
      refine ⟨rfl, hc.2.1, ?_⟩
      have hz : bad (lay c c) c.length (isf l) = [] := List.filter_eq_nil_iff.2 (fun i _ hi => by
        rw [lay_self] at hi
        unfold nz at hi
        rw [at_replicate] at hi
        simp at hi)
      rw [hz]
      have := hc.2.2
      simp
      omega
    have hfc : Fits c.length r := by rw [hc.1]; exact hfit
    have hgc : Good c.length l := by rw [hc.1]; exact hg
    have hwh := whole_ev c r hfc
    rw [(wholeB_iff c r.toNat).2 hc.2.1] at hwh
    have hwi := Within_on w c r hfit l hg (by omega) hc.1 hc.2.1
    rw [decide_eq_true hc.2.2] at hwi
    rcases Mend_ev c r l (by omega) with ⟨h, _⟩ | ⟨_, ⟨c', hc', hm⟩ | ⟨h, _⟩⟩
    · exact absurd ⟨hfc, hgc⟩ h
    · obtain rfl := Reach.one (r := r.toNat) (by rw [hr]; exact hfc) hgc hcc hc'
      have hz : bad (lay c c) c.length (isf l) = [] := List.filter_eq_nil_iff.2 (fun i _ hi => by
        rw [lay_self] at hi
        unfold nz at hi
        rw [at_replicate] at hi
        simp at hi)
      have j4 : Ev (fun k => foghornlaw20_MendNever.j4 k (B w) l false (B c) (Lz (bad (lay w c) w.length (isf l))) (Lz (gone w.length (isf l)))) true := by
        refine Ev.stepTo _ (fun k _ => by rw [foghornlaw20_MendNever.j4, if_neg (by decide)]) ?_
        exact never_l1 w c hc.1 (by omega) l (by omega) _ w.length 0 (Nat.zero_add _)
      refine Ev.stepTo _ (fun k _ => by rw [foghornlaw20_MendNever.j3, if_neg (by decide), if_neg (by decide)]) ?_
      refine Ev.bind hwh (Ev.bind hwi (Ev.bind hm ?_))
      have hb := bad_le (lay w c) w.length (isf l)
      have hreach := hc.2.2
      refine Ev.congr (fun k => by rw [if_pos rfl, if_pos rfl, if_pos rfl, if_pos rfl, if_pos rfl, if_pos rfl, if_pos rfl, hz, if_pos (show (((Lz []).length : Nat) : Int) = 0 from rfl), Lz_length, gone_count _ _ hg, if_pos rfl, Lz_length, wrap_id (2 * _) (by omega) (by omega), wrap_id _ (by omega) (by omega), if_neg (by omega)]) ?_
      cases inn with
      | true =>
        obtain rfl := Reach.one (r := r.toNat) (by rw [hr]; exact hfit) hg (hin rfl) hc
        exact Ev.congr (fun k => by rw [if_pos rfl, bne_self_eq_false]) j4
      | false => exact Ev.congr (fun k => by rw [if_neg (by decide)]) j4
    · exact absurd hcc (h c)
  · have hi : inn = false := by
      cases inn with
      | true => exact absurd (hin rfl) (h o)
      | false => rfl
    subst hi
    refine Ev.stepTo _ (fun k _ => by rw [foghornlaw20_MendNever.j3, if_neg (by decide), if_pos rfl, if_neg (by decide), if_pos (B_empty.2 rfl)]) ?_
    exact Ev.congr (fun k => by rw [none_told]) (Ev.now _)
theorem never_l0 (w : List F) (r : Int) (hfit : Fits w.length r) (l : List Int) (e : Int) (W : ByteArray) (g1 g2 : List Int) (H : ∀ o : List F, o.length = w.length → Code r.toNat o → Ev (fun k => foghornlaw20_MendNever.j2 k (B w) r l e (B o) W g1 g2) true) : ∀ (m : Nat) (d : List F), 0 < d.length → d.length ≤ 140737488351232 → w.length - r.toNat ≤ d.length + m →
    Ev (fun k => foghornlaw20_MendNever.l0 k (B w) r l (B d) e W g1 g2) true
  | m, d, hd, hd2, hm => by
    have hn := hfit.bounds
    have hw : wrap64 ((w.length : Int) - r) = (w.length : Int) - r := wrap_id _ (by omega) (by omega)
    by_cases c : (d.length : Int) < (w.length : Int) - r
    · have ih := never_l0 w r hfit l e W g1 g2 H (m - d.length) (d ++ d) (by rw [List.length_append]; omega) (by rw [List.length_append]; omega) (by rw [List.length_append]; omega)
      exact Ev.stepTo _ (fun k _ => by rw [foghornlaw20_MendNever.l0, B_size, B_size, hw, if_pos c, if_pos (by omega), B_append]) ih
    · have hl : (d.take ((w.length : Int) - r).toNat).length = ((w.length : Int) - r).toNat := by rw [List.length_take]; omega
      have hne : d.take ((w.length : Int) - r).toNat ≠ [] := fun h => by rw [h, List.length_nil] at hl; omega
      have hs : ((d.take ((w.length : Int) - r).toNat).length : Int) + r = (w.length : Int) := by rw [hl]; omega
      have henc := rencode_ev (d.take ((w.length : Int) - r).toNat) r (by rw [hs]; exact hfit) hne
      refine Ev.stepTo _ (fun k _ => by rw [foghornlaw20_MendNever.l0, B_size, B_size, hw, if_neg c, if_pos (by omega), if_pos (by omega), B_take]) ?_
      refine Ev.bind henc ?_
      have hck := chk_all r.toNat (by omega) (d.take ((w.length : Int) - r).toNat)
      exact H _ (by rw [List.length_append, hck.1]; omega) hck.2
termination_by _ d => w.length - r.toNat - d.length
decreasing_by
  rw [List.length_append]
  omega
theorem never_ev (w : List F) (r : Int) (l : List Int) (hl : l.length ≤ 140737488351232) (d : List F) (hd : d.length ≤ 140737488351232) : Ev (fun k => foghornlaw20_MendNever.f k (B w) r l (B d)) true := by
  have go : ∀ (hfit : Fits w.length r) (hg : Good w.length l) (e : Int) (W : ByteArray) (g1 g2 : List Int), e ≠ 1 → Ev (fun k => mend_Mend.f k (B w) r l) (W, g1, g2, e) → (∀ (o : List F) (inn : Bool), (inn = true → Reach w o r.toNat l) → Ev (fun k => foghornlaw20_MendNever.j3 k (B w) r l e (B o) inn false W g1 g2) true) → Ev (fun k => foghornlaw20_MendNever.f k (B w) r l (B d)) true := by
    intro hfit hg e W g1 g2 he hM H
    have hn := hfit.bounds
    have hgl := good_len hg
    have hr : ((r.toNat : Nat) : Int) = r := by omega
    have j2c : ∀ o : List F, o.length = w.length → Code r.toNat o → Ev (fun k => foghornlaw20_MendNever.j2 k (B w) r l e (B o) W g1 g2) true := fun o ho hcode => by
      have hne : (B o).toList ≠ [] := fun h => by rw [B_empty.1 h, List.length_nil] at ho; omega
      refine Ev.stepTo _ (fun k _ => by rw [foghornlaw20_MendNever.j2]) ?_
      refine Ev.bind (Within_on w o r hfit l hg (by omega) ho hcode) ?_
      refine Ev.congr (fun k => by rw [if_neg hne]) ?_
      exact H o _ (fun h => ⟨ho, hcode, of_decide_eq_true h⟩)
    have j2n : Ev (fun k => foghornlaw20_MendNever.j2 k (B w) r l e (B []) W g1 g2) true := by
      refine Ev.stepTo _ (fun k _ => by rw [foghornlaw20_MendNever.j2]) ?_
      refine Ev.bind (Within_off w r hfit l hg hl) ?_
      refine Ev.congr (fun k => by rw [if_pos (B_empty.2 rfl)]) ?_
      exact H [] false (fun h => nomatch h)
    refine Ev.congr (fun k => by rw [foghornlaw20_MendNever.f]) ?_
    refine Ev.bind awake_ev ?_
    refine Ev.congr (fun k => by rw [if_pos rfl]) ?_
    refine Ev.bind hM ?_
    refine Ev.congr (fun k => by rw [if_neg (show ¬ (W, g1, g2, e).2.2.2 = 1 from he)]) ?_
    by_cases h0 : 0 < d.length
    · refine Ev.congr (fun k => by rw [B_size, B_size, if_pos (show (d.length : Int) > 0 by omega), wrap_id _ (by omega) (by omega), decide_eq_true (show (w.length : Int) - r > 0 by omega)]) ?_
      refine Ev.stepTo _ (fun k _ => by rw [foghornlaw20_MendNever.j0, if_pos rfl]) ?_
      exact never_l0 w r hfit l e W g1 g2 j2c (w.length) d h0 hd (by omega)
    · refine Ev.congr (fun k => by rw [B_size, B_size, if_neg (show ¬ (d.length : Int) > 0 by omega)]) ?_
      exact Ev.stepTo _ (fun k _ => by rw [foghornlaw20_MendNever.j0, if_neg (by decide), B_nil]) j2n
  rcases Mend_ev w r l hl with ⟨_, hM⟩ | ⟨⟨hfit, hg⟩, ⟨c, hc, hM⟩ | ⟨h, hM⟩⟩
  · refine Ev.congr (fun k => by rw [foghornlaw20_MendNever.f]) ?_
    refine Ev.bind awake_ev ?_
    refine Ev.congr (fun k => by rw [if_pos rfl]) ?_
    refine Ev.bind hM ?_
    refine Ev.congr (fun k => by rw [if_pos rfl, if_pos (show ((⟨#[]⟩ : ByteArray), ([] : List Int), ([] : List Int), (1 : Int)).1.toList = [] from B_empty.2 rfl)]) ?_
    exact Ev.congr (fun k => by rw [none_told]) (Ev.now _)
  · exact go hfit hg 0 _ _ _ (by decide) hM (fun o inn hin => (never_j3 w o r hfit l hg inn hin).1 c hc)
  · exact go hfit hg 9 _ _ _ (by decide) hM (fun o inn hin => (never_j3 w o r hfit l hg inn hin).2 h)
end Go.Proofs.Ytncoakokdajibaa.Sem
namespace Go.Proofs.Ytncoakokdajibaa.Pure
open Go.RowKit Go.Proofs.Ytncoakokdajibaa.Q Go.Proofs.YtncoakokdajibaaW.PrintWords Go.Proofs.YtncoakokdajibaaW.PrintLast Go.Proofs.YtncoakokdajibaaW.PrintMore Go.Proofs.Ytncoakokdajibaa.Gf Go.Proofs.Ytncoakokdajibaa.Sem
theorem MendNever : foghornlaw20_MendNever.Pure := by
  intro a0 a1 l2 a3 h0 h1 h2 h3 h4 h5
  obtain ⟨w, rfl⟩ := B_of a0
  obtain ⟨d, rfl⟩ := B_of a3
  rw [B_size] at h5
  obtain ⟨K, hK⟩ := never_ev w a1 l2 (by omega) d h5
  exact ⟨K, hK K (Nat.le_refl _)⟩
end Go.Proofs.Ytncoakokdajibaa.Pure
