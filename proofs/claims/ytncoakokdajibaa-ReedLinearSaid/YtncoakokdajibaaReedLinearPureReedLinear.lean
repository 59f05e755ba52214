import Derived.Test.YtncoakokdajibaaReedLinearFit19
import Derived.Test.YtncoakokdajibaaReedLinearF0
/- ReedLinear, over numbers: codewords laid over one another are one; with noughts ahead one is one still. -/
namespace Go.Proofs.Ytncoakokdajibaa.Pure
open Go.RowKit Go.Proofs.Ytncoakokdajibaa.Q Go.Proofs.YtncoakokdajibaaW.PrintWords Go.Proofs.YtncoakokdajibaaW.PrintLast Go.Proofs.YtncoakokdajibaaW.PrintMore Go.Proofs.Ytncoakokdajibaa.Gf Go.Proofs.Ytncoakokdajibaa.Sem

theorem ReedLinear_more (a : List F) (r m : Int) (hc : isChecks r = true) (ha : a ≠ []) (hm : 0 ≤ m ∧ m ≤ 255) (h5 : a.length + r.toNat ≤ 255) :
    Ev (fun k => foghornlaw19_ReedLinear.j0 k (B a) r m (B (a ++ chk r.toNat a)) false) true := by
  have hr := of_decide_eq_true hc
  have hl : (a ++ chk r.toNat a).length = a.length + r.toNat := by rw [List.length_append, chk_length _ (by omega)]
  have e1 : wrap64 (255 - ((a ++ chk r.toNat a).length : Int)) = ((255 - (a.length + r.toNat) : Nat) : Int) := by rw [wrap_id _ (by omega) (by omega)]; omega
  have e2 : mn (wrap64 m) ((255 - (a.length + r.toNat) : Nat) : Int) = ((min m.toNat (255 - (a.length + r.toNat)) : Nat) : Int) := by
    rw [← mn_min, wrap_id _ (by omega) (by omega), show ((m.toNat : Nat) : Int) = m from by omega]
  generalize hn : min m.toNat (255 - (a.length + r.toNat)) = n at e2
  refine Ev.stepTo _ (fun k _ => by rw [foghornlaw19_ReedLinear.j0, if_neg (by decide), toNat_len, e1, e2, if_pos (by omega), Int.toNat_natCast, if_pos (by omega), Option.bind_some, L_replicate, strOf, B_append, B_append, if_pos (by rw [B_size, B_size, List.length_replicate]; omega)]) ?_
  have h1 := encode_ev (List.replicate n 0 ++ a) r (fits_of hc (by rw [List.length_append]; have := List.length_pos_iff.2 ha; omega) (by rw [List.length_append, List.length_replicate]; omega)) (by simp [ha])
  have hz : List.replicate n (0 : F) ++ a ++ chk r.toNat (List.replicate n 0 ++ a) = List.replicate n 0 ++ (a ++ chk r.toNat a) := by
    rw [List.append_assoc]
    congr 2
    refine (chk_unique (by omega) (chk_length _ (by omega) _) (by rw [List.length_append, List.length_replicate]; omega) ?_).symm
    rw [List.append_assoc]
    exact (chk_code r.toNat (by omega) a).zeros n
  rw [hz] at h1
  refine Ev.bind h1 ?_
  refine Ev.congr (fun k => by rw [if_pos (by rw [B_size, B_size, List.length_replicate]; omega)]) ?_
  have hw := whole_ev (List.replicate n 0 ++ (a ++ chk r.toNat a)) r (fits_of hc (by rw [List.length_append, hl]; have := List.length_pos_iff.2 ha; omega) (by rw [List.length_append, List.length_replicate, hl]; omega))
  rw [(wholeB_iff _ _).2 ((chk_code r.toNat (by omega) a).zeros n)] at hw
  refine Ev.bind hw ?_
  refine Ev.congr (fun k => by rw [if_pos rfl, if_pos rfl, if_pos rfl, beq_self_eq_true]) (Ev.now _)
theorem ReedLinear : foghornlaw19_ReedLinear.Pure := by
  intro s t r m hs ht _ hm
  obtain ⟨d1, rfl⟩ := B_of s
  obtain ⟨d2, rfl⟩ := B_of t
  rw [B_size] at hs ht
  have hm2 : 0 ≤ m ∧ m ≤ 255 := by
    obtain ⟨x, rfl⟩ := u8_of hm
    exact ⟨I_lo x, I_hi x⟩
  have hc := fitR_checks r
  have hlo := fitR_lo r
  have hhi := fitR_hi r
  have hl1 := fitD_len d1 r
  have hn1 := fitD_ne d1 r
  have hl2 := fitD_len d2 (wrap64 (wrap64 (Int.tdiv (fitR r) 2) - 1))
  have hn2 := fitD_ne d2 (wrap64 (wrap64 (Int.tdiv (fitR r) 2) - 1))
  rw [fitR_half] at hl2
  have hf2 := fit_f d2 (wrap64 (wrap64 (Int.tdiv (fitR r) 2) - 1)) ht
  rw [fitR_half] at hf2
  generalize fitD d2 (wrap64 (wrap64 (Int.tdiv (fitR r) 2) - 1)) = b at hf2 hl2 hn2
  have hf1 := fit_f d1 r hs
  generalize fitD d1 r = a at hf1 hl1 hn1
  generalize fitR r = q at *
  have hp1 := List.length_pos_iff.2 hn1
  have hp2 := List.length_pos_iff.2 hn2
  refine Ev.rounds ?_
  refine Ev.congr (fun k => by rw [foghornlaw19_ReedLinear.f]) ?_
  refine Ev.bind works_ev ?_
  generalize hn : min a.length b.length = n
  refine Ev.congr (fun k => by rw [if_pos rfl, hf1, Option.bind_some, hf2, Option.bind_some, toNat_len, toNat_len, mn_min, hn, if_pos (by omega), if_pos (by omega), if_pos (by omega), Int.toNat_natCast, B_take, B_take]) ?_
  have ha : (a.take n).length = n := by rw [List.length_take]; omega
  have hb : (b.take n).length = n := by rw [List.length_take]; omega
  generalize a.take n = a at ha
  generalize b.take n = b at hb
  have hna : a ≠ [] := List.length_pos_iff.1 (by omega)
  have hnb : b ≠ [] := List.length_pos_iff.1 (by omega)
  have hlab : (lay a b).length = n := by rw [lay_length (by omega), ha]
  have hnl : lay a b ≠ [] := List.length_pos_iff.1 (by omega)
  refine Ev.bind (encode_ev a q (fits_of hc (by omega) (by omega)) hna) ?_
  refine Ev.bind (encode_ev b q (fits_of hc (by omega) (by omega)) hnb) ?_
  refine Ev.bind (over_ev' a b (by omega)) ?_
  refine Ev.bind (encode_ev (lay a b) q (fits_of hc (by omega) (by omega)) hnl) ?_
  refine Ev.congr (fun k => by rw [if_pos rfl, if_pos rfl, if_pos rfl]) ?_
  refine Ev.bind (over_ev' (a ++ chk q.toNat a) (b ++ chk q.toNat b) (by rw [List.length_append, chk_length _ (by omega)]; omega)) ?_
  have hz : lay (a ++ chk q.toNat a) (b ++ chk q.toNat b) = lay a b ++ chk q.toNat (lay a b) := by
    rw [lay_append _ _ _ _ (by omega)]
    congr 1
    refine chk_unique (by omega) (by rw [lay_length (by rw [chk_length _ (by omega), chk_length _ (by omega)]), chk_length _ (by omega)]) (by omega) ?_
    rw [← lay_append _ _ _ _ (by omega)]
    exact (chk_code _ (by omega) a).lay (chk_code _ (by omega) b) (by rw [List.length_append, List.length_append, chk_length _ (by omega), chk_length _ (by omega)]; omega)
  have hsz : ((lay a b ++ chk q.toNat (lay a b)).length : Int) = (n : Int) + q := by rw [List.length_append, chk_length _ (by omega), hlab]; omega
  have hne : (((lay a b ++ chk q.toNat (lay a b)).length : Int) != wrap64 ((n : Int) + q)) = false := by
    rw [wrap_id _ (by omega) (by omega), hsz, bne_self_eq_false]
  refine Ev.congr (fun k => by rw [hz, if_pos rfl, toNat_len, hne]) ?_
  exact ReedLinear_more a q m hc hna hm2 (by omega)
end Go.Proofs.Ytncoakokdajibaa.Pure
