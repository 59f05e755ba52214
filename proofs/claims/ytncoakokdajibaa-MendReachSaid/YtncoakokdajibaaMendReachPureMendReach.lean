import Derived.Test.YtncoakokdajibaaMendReachMendLaw
import Derived.Test.YtncoakokdajibaaMendReachF0
/- Whatever befalls a codeword within reach: it is told, and just what was changed. -/
namespace Go.Proofs.Ytncoakokdajibaa.Sem
open Go.RowKit Go.Proofs.Ytncoakokdajibaa.Q Go.Proofs.YtncoakokdajibaaW.PrintWords Go.Proofs.YtncoakokdajibaaW.PrintLast Go.Proofs.YtncoakokdajibaaW.PrintMore Go.Proofs.Ytncoakokdajibaa.Gf

def Ms (n : Nat) (st : Nat → Int) : List Int := (List.range n).map st
theorem Ms_length (n : Nat) (st : Nat → Int) : (Ms n st).length = n := by unfold Ms; rw [List.length_map, List.length_range]
theorem rd_Ms (n : Nat) (st : Nat → Int) (i : Nat) (h : i < n) : rd (Ms n st) (i : Int) = st i := by
  unfold rd Ms
  rw [Int.toNat_natCast, List.getD_eq_getElem?_getD, List.getElem?_map, List.getElem?_range h]
  rfl
def upd (st : Nat → Int) (p : Nat) (v : Int) : Nat → Int := fun i => if i = p then v else st i
theorem Ms_set (n : Nat) (st : Nat → Int) (p : Nat) (v : Int) : (Ms n st).set p v = Ms n (upd st p v) := by
  apply List.ext_getElem
  · rw [List.length_set, Ms_length, Ms_length]
  · intro m h1 h2
    rw [List.getElem_set]
    simp only [Ms, List.getElem_map, List.getElem_range, upd]
    by_cases e : p = m
    · rw [if_pos e, if_pos e.symm]
    · rw [if_neg e, if_neg (fun h => e h.symm)]
theorem Ms_zero (n : Nat) : List.replicate n (0 : Int) = Ms n (fun _ => 0) := by
  apply List.ext_getElem
  · rw [List.length_replicate, Ms_length]
  · intro m h1 h2
    simp only [Ms, List.getElem_map, List.getElem_replicate]
def isv (st : Nat → Int) (v : Int) (i : Nat) : Bool := decide (st i = v)
theorem cnt_same (n : Nat) (st : Nat → Int) (p : Nat) (hp : p < n) (v : Int) (h : st p ≠ v) : (gone n (isv (upd st p v) v)).length = (gone n (isv st v)).length + 1 := by
  have h1 := count_or (fun i : Nat => decide ((i : Int) = (p : Int))) (isv st v) (List.range n) (fun a _ ha => by
    have : a = p := Int.ofNat.inj (of_decide_eq_true ha)
    rw [this]
    exact decide_eq_false h)
  rw [one_of, if_pos (by omega)] at h1
  unfold gone
  rw [Nat.add_comm, ← h1]
  congr 1
  refine List.filter_congr (fun i _ => ?_)
  unfold isv upd
  by_cases e : i = p
  · rw [if_pos e, decide_eq_true rfl, decide_eq_true (by rw [e]), Bool.true_or]
  · rw [if_neg e, decide_eq_false (show ¬ (i : Int) = (p : Int) from fun hc => e (Int.ofNat.inj hc)), Bool.false_or]
theorem cnt_other (n : Nat) (st : Nat → Int) (p : Nat) (v u : Int) (h : st p ≠ u) (hv : v ≠ u) : (gone n (isv (upd st p v) u)).length = (gone n (isv st u)).length := by
  unfold gone
  congr 1
  refine List.filter_congr (fun i _ => ?_)
  unfold isv upd
  by_cases e : i = p
  · rw [if_pos e, decide_eq_false hv, e, decide_eq_false h]
  · rw [if_neg e]
structure RI (s : List F) (r : Nat) (st : Nat → Int) (b : List F) (left : Nat) : Prop where
  len : b.length = s.length
  at_ : ∀ i, i < s.length → (st i = 0 ∧ Sem.at_ b i = Sem.at_ s i) ∨ (st i = 1 ∧ Sem.at_ b i ≠ Sem.at_ s i) ∨ st i = 2
  cnt : 2 * (gone s.length (isv st 1)).length + (gone s.length (isv st 2)).length + left = r
theorem reach_l1 (s : List F) (r : Int) (hfit : Fits s.length r) (hcode : Code r.toNat s) (st : Nat → Int) (b : List F) (left : Nat) (hi : RI s r.toNat st b left) (d : Nat) : ∀ i, i + d = s.length →
    Ev (fun k => foghornlaw20_MendReach.l1 k r (B s) (L b) (Ms s.length st) (Lz (gone i (isv st 1))) (Lz (gone i (isv st 2))) (Lz (gone i (isv st 2))).reverse (i : Int)) true := by
  have hb := hfit.bounds
  induction d with
  | zero =>
    intro i hd
    obtain rfl : i = s.length := by omega
    have hmem : ∀ i : Nat, (i : Int) ∈ (Lz (gone s.length (isv st 2))).reverse ↔ i < s.length ∧ isv st 2 i = true := fun i => by
      rw [List.mem_reverse, ← mem_gone]
      unfold Lz
      rw [List.mem_map]
      exact ⟨fun ⟨j, h1, h2⟩ => (Int.ofNat.inj h2) ▸ h1, fun h => ⟨i, h, rfl⟩⟩
    have hgood : Good b.length (Lz (gone s.length (isv st 2))).reverse := by
      refine ⟨fun x hx => ?_, ?_⟩
      · rw [List.mem_reverse] at hx
        obtain ⟨j, h1, rfl⟩ := List.mem_map.1 hx
        have := (mem_gone.1 h1).1
        rw [hi.len]
        omega
      · have h1 : (Lz (gone s.length (isv st 2))).Nodup := nodup_on _ _ (fun a _ b _ h => Int.ofNat.inj h) (List.nodup_range.filter _)
        unfold List.Nodup at h1 ⊢
        rw [List.pairwise_reverse]
        exact h1.imp Ne.symm
    have hisf : ∀ i, i < s.length → isf (Lz (gone s.length (isv st 2))).reverse i = isv st 2 i := fun i h => by
      unfold isf
      rw [decide_eq_decide.2 (hmem i), Bool.eq_iff_iff, decide_eq_true_iff]
      exact ⟨fun h => h.2, fun h' => ⟨h, h'⟩⟩
    have hgone : gone s.length (isf (Lz (gone s.length (isv st 2))).reverse) = gone s.length (isv st 2) := List.filter_congr (fun i h => hisf i (List.mem_range.1 h))
    have hbad : bad (lay b s) s.length (isf (Lz (gone s.length (isv st 2))).reverse) = gone s.length (isv st 1) := List.filter_congr (fun i h => by
      have hlt := List.mem_range.1 h
      rw [hisf i hlt]
      unfold nz isv
      rw [at_lay b s i hi.len]
      rcases hi.at_ i hlt with ⟨h1, h2⟩ | ⟨h1, h2⟩ | h1
      · rw [h1, h2, add_self]; decide
      · rw [h1, decide_eq_true (show at_ b i + at_ s i ≠ 0 from fun hc => h2 (add_eq_zero_iff.1 hc))]; decide
      · rw [h1]; simp)
    have hreach : Reach b s r.toNat (Lz (gone s.length (isv st 2))).reverse := by
      refine ⟨hi.len.symm, hcode, ?_⟩
      rw [hi.len, hbad, List.length_reverse, Lz_length]
      have := hi.cnt
      omega
    have hfit' : Fits b.length r := by rw [hi.len]; exact hfit
    have hg2 := gone_le s.length (isv st 2)
    have hg1 := gone_le s.length (isv st 1)
    rcases Mend_ev b r (Lz (gone s.length (isv st 2))).reverse (by rw [List.length_reverse, Lz_length]; omega) with ⟨h, _⟩ | ⟨_, ⟨c, hc, hm⟩ | ⟨h, _⟩⟩
    · exact absurd ⟨hfit', hgood⟩ h
    · obtain rfl := Reach.one (r := r.toNat) (by rw [Int.toNat_of_nonneg (by omega)]; exact hfit') hgood hreach hc
      rw [hi.len, hbad, hgone] at hm
      refine Ev.stepTo _ (fun k _ => by rw [foghornlaw20_MendReach.l1, if_neg (by rw [Ms_length]; omega), strOf]) ?_
      refine Ev.bind hm ?_
      refine Ev.congr (fun k => by rw [if_pos rfl, if_pos rfl]) ?_
      refine Ev.bind (numbers_ev _ (by rw [Lz_length]; omega)) ?_
      refine Ev.congr (fun k => by rw [if_pos rfl]) ?_
      exact Ev.bind (numbers_ev _ (by rw [Lz_length]; omega)) (Ev.now _)
    · exact absurd hreach (h s)
  | succ d ih =>
    intro i hd
    have h1 := ih (i + 1) (by omega)
    have g1 := gone_le i (isv st 1)
    have g2 := gone_le i (isv st 2)
    rw [gone_succ, gone_succ] at h1
    have hlz : ∀ l : List Nat, Lz (l ++ [i]) = Lz l ++ [(i : Int)] := fun l => by unfold Lz; rw [List.map_append]; rfl
    rcases hi.at_ i (by omega) with ⟨h0, _⟩ | ⟨h0, _⟩ | h0
    · have e1 : ¬ isv st 1 i = true := by unfold isv; rw [h0]; decide
      have e2 : ¬ isv st 2 i = true := by unfold isv; rw [h0]; decide
      rw [if_neg e1, if_neg e2] at h1
      refine Ev.stepTo _ (fun k _ => ?_) h1
      rw [foghornlaw20_MendReach.l1, if_pos (by rw [Ms_length]; omega), if_pos (by omega), rd_Ms _ _ i (by omega), h0, if_neg (by decide), if_neg (by decide), wrap_id _ (by omega) (by omega), show ((i : Int) + 1) = ((i + 1 : Nat) : Int) from by omega]
    · have e1 : isv st 1 i = true := by unfold isv; rw [h0]; decide
      have e2 : ¬ isv st 2 i = true := by unfold isv; rw [h0]; decide
      rw [if_pos e1, if_neg e2, hlz] at h1
      refine Ev.stepTo _ (fun k _ => ?_) h1
      rw [foghornlaw20_MendReach.l1, if_pos (by rw [Ms_length]; omega), if_pos (by omega), rd_Ms _ _ i (by omega), h0, if_pos rfl, if_pos (by rw [Lz_length]; omega), Option.bind_some, if_neg (by decide), wrap_id _ (by omega) (by omega), show ((i : Int) + 1) = ((i + 1 : Nat) : Int) from by omega]
    · have e1 : ¬ isv st 1 i = true := by unfold isv; rw [h0]; decide
      have e2 : isv st 2 i = true := by unfold isv; rw [h0]; decide
      rw [if_neg e1, if_pos e2, hlz, List.reverse_append] at h1
      refine Ev.stepTo _ (fun k _ => ?_) h1
      rw [foghornlaw20_MendReach.l1, if_pos (by rw [Ms_length]; omega), if_pos (by omega), rd_Ms _ _ i (by omega), h0, if_neg (by decide), if_pos rfl, if_pos (by rw [Lz_length]; omega), Option.bind_some, if_pos (by rw [List.length_reverse, Lz_length, List.length_singleton]; omega), wrap_id _ (by omega) (by omega), show ((i : Int) + 1) = ((i + 1 : Nat) : Int) from by omega]
      rfl
theorem reach_l0 (s : List F) (r : Int) (hfit : Fits s.length r) (hcode : Code r.toNat s) (l : List S62) (hl : l.length ≤ 140737488351232) (hw : ∀ x ∈ l, (Lit.int .u8 x.f2).wf = true) (d : Nat) : ∀ (j : Nat) (st : Nat → Int) (b : List F) (left : Nat), j + d = l.length → RI s r.toNat st b left →
    Ev (fun k => foghornlaw20_MendReach.l0 k r l (B s) (L b) (Ms s.length st) (left : Int) (j : Int)) true := by
  have hb := hfit.bounds
  induction d with
  | zero =>
    intro j st b left hj hi
    refine Ev.stepTo _ (fun k _ => by rw [foghornlaw20_MendReach.l0, if_neg (by omega)]) ?_
    have := reach_l1 s r hfit hcode st b left hi s.length 0 (Nat.zero_add _)
    exact this
  | succ d ih =>
    intro j st b left hj hi
    obtain ⟨x, hx, hxm⟩ : ∃ x, rd_T62 l (j : Int) = x ∧ x ∈ l := by
      refine ⟨_, rfl, ?_⟩
      unfold rd_T62
      rw [Int.toNat_natCast, List.getD_eq_getElem?_getD, List.getElem?_eq_getElem (by omega)]
      exact List.getElem_mem _
    obtain ⟨a, ha⟩ := u8_at (hw x hxm)
    obtain ⟨p, hp, hp2⟩ : ∃ p : Nat, x.f0 % (s.length : Int) = (p : Int) ∧ p < s.length := ⟨(x.f0 % (s.length : Int)).toNat, by have := Int.emod_nonneg x.f0 (show (s.length : Int) ≠ 0 by omega); omega, by have := Int.emod_lt_of_pos x.f0 (show (0 : Int) < s.length by omega); have := Int.emod_nonneg x.f0 (show (s.length : Int) ≠ 0 by omega); omega⟩
    have hmod : Int.tmod (wrap64 ((Int.tmod x.f0 (s.length : Int)) + (s.length : Int))) (s.length : Int) = (p : Int) := (modm _ (by omega) (by omega) _).trans hp
    have hcn := hi.cnt
    have same := ih (j + 1) st b left (by omega) hi
    have j2t : ∀ c : Int, Ev (fun k => foghornlaw20_MendReach.j2 k r l (B s) (L b) (Ms s.length st) (left : Int) (j : Int) (p : Int) c true) true := fun c =>
      Ev.stepTo _ (fun k _ => by rw [foghornlaw20_MendReach.j2, if_pos rfl, wrap_id _ (by omega) (by omega), show ((j : Int) + 1) = ((j + 1 : Nat) : Int) from by omega]) same
    have j1run : ∀ c : Nat, (c = 1 ∧ x.f1 = true) ∨ (c = 2 ∧ x.f1 = false) → Ev (fun k => foghornlaw20_MendReach.j1 k r l (B s) (L b) (Ms s.length st) (left : Int) (j : Int) (p : Int) (c : Int)) true := fun c hc => by
      by_cases hz : st p = 0
      · refine Ev.stepTo _ (fun k _ => by rw [foghornlaw20_MendReach.j1, if_pos (by omega), if_pos (by rw [Ms_length]; omega), rd_Ms _ _ p hp2, if_pos hz]) ?_
        by_cases hlt : (left : Int) < (c : Int)
        · rw [decide_eq_true hlt]
          exact j2t _
        · rw [decide_eq_false hlt]
          have hnew : ∀ v : Int, (v = 2 ∨ (v = 1 ∧ a ≠ 0)) → 3 - (c : Int) = v → Ev (fun k => foghornlaw20_MendReach.l0 k r l (B s) ((L b).set (p : Int).toNat (Go.bits .xor .u8 (rd (L b) (p : Int)) x.f2)) ((Ms s.length st).set (p : Int).toNat (wrap64 (3 - (c : Int)))) (wrap64 ((left : Int) - (c : Int))) (wrap64 ((j : Int) + 1))) true := fun v hv hcv => by
            have h := ih (j + 1) (upd st p v) (b.set p (at_ b p + a)) (left - c) (by omega) ⟨by rw [List.length_set]; exact hi.len, fun i hil => ?_, ?_⟩
            · refine Ev.congr (fun k => ?_) h
              rw [rd_L, Int.toNat_natCast, ha, bx, L_set, wrap_id (3 - (c : Int)) (by omega) (by omega), hcv, Ms_set, wrap_id ((left : Int) - (c : Int)) (by omega) (by omega), wrap_id _ (by omega) (by omega), show ((left : Int) - (c : Int)) = ((left - c : Nat) : Int) by omega, show ((j : Int) + 1) = ((j + 1 : Nat) : Int) from by omega]
            · rw [at_set _ _ _ _ (by rw [hi.len]; exact hp2)]
              unfold upd
              by_cases e : i = p
              · subst e
                rw [if_pos rfl, if_pos rfl]
                rcases hv with rfl | ⟨rfl, ha0⟩
                · exact Or.inr (Or.inr rfl)
                · refine Or.inr (Or.inl ⟨rfl, fun hc2 => ha0 ?_⟩)
                  rcases hi.at_ i hil with ⟨_, h2⟩ | ⟨h1, _⟩ | h1
                  · rw [h2] at hc2
                    have h3 := congrArg (fun z => at_ s i + z) hc2
                    rwa [add_cancel, add_self] at h3
                  · rw [hz] at h1; cases h1
                  · rw [hz] at h1; cases h1
              · rw [if_neg e, if_neg e]
                exact hi.at_ i hil
            · rcases hv with rfl | ⟨rfl, _⟩
              · rw [cnt_same s.length st p hp2 2 (by rw [hz]; decide), cnt_other s.length st p 2 1 (by rw [hz]; decide) (by decide)]
                omega
              · rw [cnt_same s.length st p hp2 1 (by rw [hz]; decide), cnt_other s.length st p 1 2 (by rw [hz]; decide) (by decide)]
                omega
          rcases hc with ⟨rfl, h1⟩ | ⟨rfl, h1⟩
          · refine Ev.stepTo _ (fun k _ => ?_) (hnew 2 (Or.inl rfl) rfl)
            rw [foghornlaw20_MendReach.j2, if_neg (by decide), if_pos (by omega), if_pos (by omega), hx, if_pos h1, if_pos (by omega), if_pos (by rw [Ms_length]; omega), if_pos (by rw [L_length, hi.len]; omega)]
          · by_cases h0 : a = 0
            · refine Ev.stepTo _ (fun k _ => ?_) same
              rw [foghornlaw20_MendReach.j2, if_neg (by decide), if_pos (by omega), if_pos (by omega), hx, if_neg (by rw [h1]; decide), if_pos (by rw [ha, h0]; rfl), wrap_id _ (by omega) (by omega), show ((j : Int) + 1) = ((j + 1 : Nat) : Int) from by omega]
            · refine Ev.stepTo _ (fun k _ => ?_) (hnew 1 (Or.inr ⟨rfl, h0⟩) rfl)
              rw [foghornlaw20_MendReach.j2, if_neg (by decide), if_pos (by omega), if_pos (by omega), hx, if_neg (by rw [h1]; decide), if_neg (by rw [ha]; exact fun h => h0 (I_eq_zero.1 h)), if_pos (by omega), if_pos (by rw [Ms_length]; omega), if_pos (by rw [L_length, hi.len]; omega)]
      · exact Ev.stepTo _ (fun k _ => by rw [foghornlaw20_MendReach.j1, if_pos (by omega), if_pos (by rw [Ms_length]; omega), rd_Ms _ _ p hp2, if_neg hz]) (j2t _)
    cases hf : x.f1 with
    | true =>
      refine Ev.stepTo _ (fun k _ => ?_) (j1run 1 (Or.inl ⟨rfl, hf⟩))
      rw [foghornlaw20_MendReach.l0, if_pos (by omega), if_pos (by omega), B_size, if_neg (by omega), hx, if_pos hf, hmod]
      rfl
    | false =>
      refine Ev.stepTo _ (fun k _ => ?_) (j1run 2 (Or.inr ⟨rfl, hf⟩))
      rw [foghornlaw20_MendReach.l0, if_pos (by omega), if_pos (by omega), B_size, if_neg (by omega), hx, if_neg (by rw [hf]; decide), hmod]
      rfl
end Go.Proofs.Ytncoakokdajibaa.Sem
namespace Go.Proofs.Ytncoakokdajibaa.Pure
open Go.RowKit Go.Proofs.Ytncoakokdajibaa.Q Go.Proofs.YtncoakokdajibaaW.PrintWords Go.Proofs.YtncoakokdajibaaW.PrintLast Go.Proofs.YtncoakokdajibaaW.PrintMore Go.Proofs.Ytncoakokdajibaa.Gf Go.Proofs.Ytncoakokdajibaa.Sem
theorem MendReach : foghornlaw20_MendReach.Pure := by
  intro a0 a1 l2 h0 h1 h2
  obtain ⟨d, rfl⟩ := B_of a0
  rw [B_size] at h0
  obtain ⟨s, r, hfit, hcode, hs⟩ := sent_ev d h0 a1
  have hb := hfit.bounds
  have hrun := reach_l0 s r hfit hcode l2 (by omega) (fun x hx => (h2.2 x hx).2.2) l2.length 0 (fun _ => 0) s r.toNat (Nat.zero_add _) ⟨rfl, fun i _ => Or.inl ⟨rfl, rfl⟩, by
    have e1 : gone s.length (isv (fun _ => 0) 1) = [] := List.filter_eq_nil_iff.2 (fun a _ h => by unfold isv at h; simp at h)
    have e2 : gone s.length (isv (fun _ => 0) 2) = [] := List.filter_eq_nil_iff.2 (fun a _ h => by unfold isv at h; simp at h)
    rw [e1, e2]
    simp⟩
  have : Ev (fun k => foghornlaw20_MendReach.f k (B d) a1 l2) true := by
    refine Ev.congr (fun k => by rw [foghornlaw20_MendReach.f]) ?_
    refine Ev.bind awake_ev ?_
    refine Ev.congr (fun k => by rw [if_pos rfl]) ?_
    refine Ev.bind hs ?_
    refine Ev.congr (fun k => ?_) hrun
    rw [B_size, if_pos (by omega), if_pos (by omega), if_pos (by omega), bytes_B, Int.toNat_natCast, Ms_zero, Int.toNat_of_nonneg (by omega)]
    rfl
  obtain ⟨K, hK⟩ := this
  exact ⟨K, hK K (Nat.le_refl _)⟩
end Go.Proofs.Ytncoakokdajibaa.Pure
