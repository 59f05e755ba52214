import Derived.Test.YtncoakokdajibaaReedApartFit19
import Derived.Test.YtncoakokdajibaaReedApartApartRun
import Derived.Test.YtncoakokdajibaaReedApartF0
/- ReedApart, over numbers: unlike codewords differ at r + 1 places at least; one that is changed at 1 to r places is none. -/
namespace Go.Proofs.Ytncoakokdajibaa.Pure
open Go.RowKit Go.Proofs.Ytncoakokdajibaa.Q Go.Proofs.YtncoakokdajibaaW.PrintWords Go.Proofs.YtncoakokdajibaaW.PrintLast Go.Proofs.YtncoakokdajibaaW.PrintMore Go.Proofs.Ytncoakokdajibaa.Gf Go.Proofs.Ytncoakokdajibaa.Sem

theorem ReedApart_end (t x w : List F) (r : Nat) (hc : isChecks (r : Int) = true) (hx : Sem.Code r x) (hl : x.length = w.length) (h1 : r < x.length) (h5 : x.length ≤ 255) (hp : dist x w ≤ r) (i : Nat) :
    Ev (fun k => foghornlaw19_ReedApart.j2 k (r : Int) (L t) (B x) (L w) ((dist x w : Nat) : Int) (i : Int) false) true := by
  refine Ev.stepTo _ (fun k _ => by rw [foghornlaw19_ReedApart.j2, if_neg (by decide), strOf]) ?_
  refine Ev.bind (whole_ev w r (fits_of hc (by omega) (by omega))) ?_
  refine Ev.bind (apart_ev x w hl (by omega)) ?_
  have hw : wholeB w (r : Int).toNat = (((dist x w : Nat) : Int) == 0) := by
    rw [Int.toNat_natCast]
    by_cases h : dist x w = 0
    · have e := eq_of_dist hl h
      subst e
      rw [(wholeB_iff _ _).2 hx, h]
      rfl
    · have h2 : wholeB w r = false := by
        rw [Bool.eq_false_iff]
        intro e
        have e2 := code_light hx ((wholeB_iff _ _).1 e) hl h5 hp
        subst e2
        exact h (dist_self _)
      rw [h2, eq_comm, beq_eq_false_iff_ne]
      omega
  refine Ev.congr (fun k => by rw [if_pos rfl, if_pos rfl, hw, beq_self_eq_true, if_pos rfl, beq_self_eq_true]) (Ev.now _)
theorem ReedApart_j2 (k : Nat) (r p : Int) (t x w : List F) (i q : Nat) (hin : i + 1 < t.length) (ht : t.length ≤ 140737488355328) (hl : x.length = w.length) (hw0 : 0 < w.length) (h5 : w.length ≤ 255) (hq : (at_ t i).val % w.length = q) :
    foghornlaw19_ReedApart.j2 (k + 1) r (L t) (B x) (L w) p (i : Int) true =
      if at_ w q = at_ x q then (if at_ t (i + 1) = 0 then foghornlaw19_ReedApart.l0 k r (L t) (B x) (L w) p ((i + 2 : Nat) : Int) else foghornlaw19_ReedApart.l0 k r (L t) (B x) (L (w.set q (at_ w q + at_ t (i + 1)))) (wrap64 (p + 1)) ((i + 2 : Nat) : Int)) else foghornlaw19_ReedApart.l0 k r (L t) (B x) (L w) p ((i + 2 : Nat) : Int) := by
  have hw1 : wrap64 ((i : Int) + 1) = ((i + 1 : Nat) : Int) := by rw [wrap_id _ (by omega) (by omega)]; omega
  have hw2 : wrap64 ((i : Int) + 2) = ((i + 2 : Nat) : Int) := by rw [wrap_id _ (by omega) (by omega)]; omega
  have hv : wrap64 (I (at_ t i)) = (((at_ t i).val : Nat) : Int) := by
    have := (at_ t i).lt
    exact wrap_id _ (by unfold I; omega) (by unfold I; omega)
  have hm : Int.tmod (((at_ t i).val : Nat) : Int) (w.length : Int) = (q : Int) := by
    rw [Int.tmod_eq_emod_of_nonneg (by omega), ← hq]
    omega
  have hlt : q < w.length := by rw [← hq]; exact Nat.mod_lt _ hw0
  have hi0 : (0 : Int) ≤ (i : Int) := by omega
  have hi1 : (i : Int) < ((L t).length : Int) := by rw [L_length]; omega
  have hn0 : ¬ (w.length : Int) = 0 := by omega
  have hq0 : (0 : Int) ≤ (q : Int) := by omega
  have hq1 : (q : Int) < (w.length : Int) := by omega
  have hq2 : (q : Int) < ((B x).size : Int) := by rw [B_size]; omega
  have hj0 : (0 : Int) ≤ ((i + 1 : Nat) : Int) := by omega
  have hj1 : ((i + 1 : Nat) : Int) < ((L t).length : Int) := by rw [L_length]; omega
  rw [foghornlaw19_ReedApart.j2, if_pos rfl, if_pos hi0, if_pos hi1]
  simp only [L_length w, if_neg hn0, hv, hm, if_pos hq0, if_pos hq1, if_pos hq2, rd_L, bt_B, Int.toNat_natCast, hw1, hw2, if_pos hj0, if_pos hj1, bx, L_set]
  by_cases hk : at_ w q = at_ x q
  · rw [if_pos hk, if_pos (by rw [hk])]
    by_cases hz : at_ t (i + 1) = 0
    · rw [if_pos hz, if_pos (I_eq_zero.2 hz)]
    · rw [if_neg hz, if_neg (fun e => hz (I_eq_zero.1 e))]
  · rw [if_neg hk, if_neg (fun e => hk (I_inj e))]
theorem ReedApart_l0 (t x : List F) (r : Nat) (hc : isChecks (r : Int) = true) (hx : Sem.Code r x) (h1 : r < x.length) (h5 : x.length ≤ 255) (ht : t.length ≤ 140737488355328) (e : Nat) : ∀ (i : Nat) (w : List F), t.length ≤ i + e → i ≤ t.length + 1 → x.length = w.length → dist x w ≤ r →
    Ev (fun k => foghornlaw19_ReedApart.l0 k (r : Int) (L t) (B x) (L w) ((dist x w : Nat) : Int) (i : Int)) true := by
  have hr := of_decide_eq_true hc
  induction e using Nat.strongRecOn with
  | _ e ih =>
  intro i w hi hit hl hp
  have hw1 : wrap64 ((i : Int) + 1) = ((i + 1 : Nat) : Int) := by rw [wrap_id _ (by omega) (by omega)]; omega
  by_cases hin : i + 1 < t.length
  · have hin' : ((i + 1 : Nat) : Int) < ((L t).length : Int) := by rw [L_length]; omega
    by_cases hd : dist x w < r
    · have hdd : ((dist x w : Nat) : Int) < (r : Int) := by omega
      refine Ev.stepTo _ (fun k _ => by rw [foghornlaw19_ReedApart.l0, hw1, if_pos hin', decide_eq_true hdd]) ?_
      have hlt : (at_ t i).val % w.length < w.length := Nat.mod_lt _ (by omega)
      have hgo : ∀ w' : List F, x.length = w'.length → dist x w' ≤ r → Ev (fun k => foghornlaw19_ReedApart.l0 k (r : Int) (L t) (B x) (L w') ((dist x w' : Nat) : Int) ((i + 2 : Nat) : Int)) true := fun w' h' hp' => ih (e - 2) (by omega) (i + 2) w' (by omega) (by omega) h' hp'
      refine Ev.stepTo _ (fun k _ => ReedApart_j2 k _ _ t x w i _ hin ht hl (by omega) (by omega) rfl) ?_
      generalize (at_ t i).val % w.length = q at hlt
      by_cases hk : at_ w q = at_ x q
      · refine Ev.congr (fun k => if_pos hk) ?_
        by_cases hz : at_ t (i + 1) = 0
        · exact Ev.congr (fun k => if_pos hz) (hgo w hl hp)
        · have hpl : wrap64 (((dist x w : Nat) : Int) + 1) = ((dist x w + 1 : Nat) : Int) := by rw [wrap_id _ (by omega) (by omega)]; omega
          have hds := dist_set hl q (at_ t (i + 1)) hlt hk hz
          refine Ev.congr (fun k => if_neg hz) ?_
          rw [hpl, ← hds]
          exact hgo _ (by rw [List.length_set]; exact hl) (by rw [hds]; exact hd)
      · exact Ev.congr (fun k => if_neg hk) (hgo w hl hp)
    · have hdd : ¬ ((dist x w : Nat) : Int) < (r : Int) := by omega
      refine Ev.stepTo _ (fun k _ => by rw [foghornlaw19_ReedApart.l0, hw1, if_pos hin', decide_eq_false hdd]) ?_
      exact ReedApart_end t x w r hc hx hl h1 h5 hp i
  · have hin' : ¬ ((i + 1 : Nat) : Int) < ((L t).length : Int) := by rw [L_length]; omega
    refine Ev.stepTo _ (fun k _ => by rw [foghornlaw19_ReedApart.l0, hw1, if_neg hin']) ?_
    exact ReedApart_end t x w r hc hx hl h1 h5 hp i
theorem ReedApart : foghornlaw19_ReedApart.Pure := by
  intro s t r l hs ht _ hml hl1 hwf
  obtain ⟨d1, rfl⟩ := B_of s
  obtain ⟨d2, rfl⟩ := B_of t
  obtain ⟨tt, rfl⟩ := of_bytes l hwf
  rw [B_size] at hs ht
  rw [L_length] at hl1
  have hc := fitR_checks r
  have hlo := fitR_lo r
  have hhi := fitR_hi r
  have hl1' := fitD_len d1 r
  have hn1 := fitD_ne d1 r
  have hn2 := fitD_ne d2 (wrap64 (wrap64 (Int.tdiv (fitR r) 2) - 1))
  have hf2 := fit_f d2 (wrap64 (wrap64 (Int.tdiv (fitR r) 2) - 1)) ht
  rw [fitR_half] at hf2
  generalize fitD d2 (wrap64 (wrap64 (Int.tdiv (fitR r) 2) - 1)) = b at hf2 hn2
  have hf1 := fit_f d1 r hs
  generalize fitD d1 r = a at hf1 hl1' hn1
  generalize fitR r = q at *
  have hp1 := List.length_pos_iff.2 hn1
  have hp2 := List.length_pos_iff.2 hn2
  refine Ev.rounds ?_
  refine Ev.congr (fun k => by rw [foghornlaw19_ReedApart.f]) ?_
  refine Ev.bind works_ev ?_
  generalize hn : min a.length b.length = n
  refine Ev.congr (fun k => by rw [if_pos rfl, hf1, Option.bind_some, hf2, Option.bind_some, toNat_len, toNat_len, mn_min, hn, if_pos (by omega), if_pos (by omega), if_pos (by omega), Int.toNat_natCast, B_take, B_take]) ?_
  have ha : (a.take n).length = n := by rw [List.length_take]; omega
  have hb : (b.take n).length = n := by rw [List.length_take]; omega
  generalize a.take n = a at ha
  generalize b.take n = b at hb
  have hna : a ≠ [] := List.length_pos_iff.1 (by omega)
  have hnb : b ≠ [] := List.length_pos_iff.1 (by omega)
  refine Ev.bind (encode_ev a q (fits_of hc (by omega) (by omega)) hna) ?_
  refine Ev.bind (encode_ev b q (fits_of hc (by omega) (by omega)) hnb) ?_
  have hxl : (a ++ chk q.toNat a).length = n + q.toNat := by rw [List.length_append, chk_length _ (by omega), ha]
  have hyl : (b ++ chk q.toNat b).length = n + q.toNat := by rw [List.length_append, chk_length _ (by omega), hb]
  refine Ev.bind (apart_ev (a ++ chk q.toNat a) (b ++ chk q.toNat b) (by omega) (by omega)) ?_
  have e1 : wrap64 ((n : Int) + q) = ((n + q.toNat : Nat) : Int) := by rw [wrap_id _ (by omega) (by omega)]; omega
  refine Ev.congr (fun k => by rw [if_pos rfl, if_pos rfl, if_pos rfl, toNat_len, hxl, e1, if_pos rfl]) ?_
  have hq : ((q.toNat : Nat) : Int) = q := by omega
  have hmain : Ev (fun k => foghornlaw19_ReedApart.j0 k q (L tt) (B (a ++ chk q.toNat a)) false) true := by
    refine Ev.stepTo _ (fun k _ => by rw [foghornlaw19_ReedApart.j0, if_neg (by decide), if_pos (by rw [B_size]; omega), bytesOf_B]) ?_
    have h := ReedApart_l0 tt (a ++ chk q.toNat a) q.toNat (by rw [hq]; exact hc) (chk_code _ (by omega) a) (by omega) (by omega) (by omega) tt.length 0 (a ++ chk q.toNat a) (by omega) (by omega) rfl (by rw [dist_self]; omega)
    rw [dist_self, hq] at h
    exact h
  by_cases he : a = b
  · subst he
    refine Ev.congr (fun k => by rw [if_pos rfl, dist_self]) ?_
    exact hmain
  · refine Ev.congr (fun k => by rw [if_neg (fun e => he (B_toList_inj e))]) ?_
    have hd : q.toNat < dist (a ++ chk q.toNat a) (b ++ chk q.toNat b) := by
      refine Nat.lt_of_not_le (fun h => he ?_)
      have h2 := code_light (chk_code _ (by omega) a) (chk_code _ (by omega) b) (by omega) (by omega) h
      exact (List.append_inj h2 (by omega)).1
    have e2 : wrap64 (q + 1) = q + 1 := wrap_id _ (by omega) (by omega)
    refine Ev.congr (fun k => by rw [e2, if_neg (by omega)]) ?_
    exact hmain
end Go.Proofs.Ytncoakokdajibaa.Pure
