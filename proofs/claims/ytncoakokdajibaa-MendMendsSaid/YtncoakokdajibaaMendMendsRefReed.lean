import Derived.Test.YtncoakokdajibaaMendMendsEncRun
import Derived.Test.YtncoakokdajibaaMendMendsApartRun
import Derived.Test.YtncoakokdajibaaMendMendsF1
/- The document's syndromes, codewords, data and distances: what they come to. -/
namespace Go.Proofs.Ytncoakokdajibaa.Sem
open Go.RowKit Go.Proofs.Ytncoakokdajibaa.Q Go.Proofs.YtncoakokdajibaaW.PrintWords Go.Proofs.YtncoakokdajibaaW.PrintLast Go.Proofs.YtncoakokdajibaaW.PrintMore Go.Proofs.Ytncoakokdajibaa.Gf
theorem drop_at (w : List F) (m : Nat) (h : m < w.length) : w.drop m = at_ w m :: w.drop (m + 1) := by rw [List.drop_eq_getElem_cons h, at_lt w m h]
theorem rAt_l0 (w : List F) (x : F) (hw : w.length ≤ 65536) (m : Nat) : m ≤ w.length → Ev (fun k => foghornref19_At.l0 k (B w) (I x) (I (wv (w.drop m) x)) (I (pow x (w.length - m))) ((m : Int) - 1)) (I (wv w x)) := by
  induction m with
  | zero =>
    intro _
    refine Ev.stepTo _ (fun k _ => by rw [foghornref19_At.l0, if_neg (by omega)]) ?_
    exact Ev.now _
  | succ m ih =>
    intro hm
    have e1 : ((m + 1 : Nat) : Int) - 1 = (m : Int) := by omega
    have e2 : pow x (w.length - m) = pow x (w.length - (m + 1)) * x := by rw [show w.length - m = w.length - (m + 1) + 1 from by omega]; rfl
    have e3 : wv (w.drop m) x = wv (w.drop (m + 1)) x + at_ w m * pow x (w.length - (m + 1)) := by rw [drop_at w m (by omega), wv_cons, List.length_drop, add_comm]
    refine Ev.stepTo _ (fun k hk => by rw [foghornref19_At.l0, e1, if_pos (by omega), if_pos (by omega), if_pos (by rw [B_size]; omega), bt_B, Int.toNat_natCast, rtimes k (by omega), Option.bind_some, rtimes k (by omega), Option.bind_some, bx, wrap_id _ (by omega) (by omega), ← e2, ← e3]) ?_
    exact ih (by omega)
theorem rAt_ev (w : List F) (x : F) (hw : w.length ≤ 65536) : Ev (fun k => foghornref19_At.f k (B w) (I x)) (I (wv w x)) := by
  have h := rAt_l0 w x hw w.length (Nat.le_refl _)
  rw [List.drop_length, Nat.sub_self] at h
  refine Ev.congr (fun k => by rw [foghornref19_At.f, toNat_len, wrap_id _ (by omega) (by omega)]) ?_
  exact h
theorem syn_succ (w : List F) (i : Nat) : syn w (i + 1) = syn w i ++ [wv w (pow two i)] := by
  unfold syn
  rw [List.range_succ, List.map_append]
  rfl
theorem rsyn_l0 (w : List F) (hw : w.length ≤ 65536) (r : Nat) (hr : r ≤ 64) (d : Nat) : ∀ i, i + d = r → Ev (fun k => foghornref19_Syndromes.l0 k (B w) (r : Int) (L (syn w i)) (i : Int)) (L (syn w r), 0) := by
  induction d with
  | zero =>
    intro i hi
    have : i = r := by omega
    subst this
    exact Ev.stepTo _ (fun k _ => by rw [foghornref19_Syndromes.l0, if_neg (by omega)]) (Ev.now _)
  | succ d ih =>
    intro i hi
    refine Ev.stepTo _ (fun k _ => by rw [foghornref19_Syndromes.l0, if_pos (by omega)]) ?_
    refine Ev.bind (rpower_ev i (by omega)) ?_
    refine Ev.bind (rAt_ev w (pow two i) hw) ?_
    refine Ev.congr (fun k => by rw [if_pos (by rw [L_length, syn_length]; omega), show [I (wv w (pow two i))] = L [wv w (pow two i)] from rfl, ← L_append, ← syn_succ, wrap_id _ (by omega) (by omega), show ((i : Int) + 1) = ((i + 1 : Nat) : Int) from by omega]) ?_
    exact ih (i + 1) (by omega)
theorem rcheck_fits {n r : Int} (h : Fits n r) : foghornref19_Check.f n r = some 0 := by unfold Fits at h; rw [rcheck, if_pos h]
theorem rcheck_no {n r : Int} (h : ¬ Fits n r) : foghornref19_Check.f n r = some 1 := by unfold Fits at h; rw [rcheck, if_neg h]
theorem rsyndromes_ev (w : List F) (r : Int) (h : Fits w.length r) : Ev (fun k => foghornref19_Syndromes.f k (B w) r) (L (syn w r.toNat), 0) := by
  have hb := h.bounds
  have hr : ((r.toNat : Nat) : Int) = r := by omega
  refine Ev.congr (fun k => by rw [foghornref19_Syndromes.f, toNat_len, rcheck_fits h, Option.bind_some, if_pos rfl]) ?_
  have := rsyn_l0 w (by omega) r.toNat (by omega) r.toNat 0 (Nat.zero_add _)
  rw [hr] at this
  exact this
theorem rwhole_l0 (s : List F) (hs : s.length ≤ 64) (d : Nat) : ∀ (i : Nat), i + d = s.length → Ev (fun k => foghornref19_Whole.l0 k (L s) (i : Int)) ((s.drop i).all (fun a => decide (a = 0)), 0) := by
  induction d with
  | zero =>
    intro i hi
    refine Ev.stepTo _ (fun k _ => by rw [foghornref19_Whole.l0, if_neg (by rw [L_length]; omega)]) ?_
    rw [List.drop_of_length_le (by omega)]
    exact Ev.now _
  | succ d ih =>
    intro i hi
    have hd := drop_at s i (by omega)
    by_cases e : at_ s i = 0
    · refine Ev.stepTo _ (fun k _ => by rw [foghornref19_Whole.l0, if_pos (by rw [L_length]; omega), if_pos (by omega), rd_L, Int.toNat_natCast, if_pos (I_eq_zero.2 e), wrap_id _ (by omega) (by omega), show ((i : Int) + 1) = ((i + 1 : Nat) : Int) from by omega]) ?_
      rw [hd, List.all_cons, e]
      simpa using ih (i + 1) (by omega)
    · refine Ev.stepTo _ (fun k _ => by rw [foghornref19_Whole.l0, if_pos (by rw [L_length]; omega), if_pos (by omega), rd_L, Int.toNat_natCast, if_neg (fun h => e (I_eq_zero.1 h))]) ?_
      rw [hd, List.all_cons, decide_eq_false e, Bool.false_and]
      exact Ev.now _
theorem rwhole_ev (w : List F) (r : Int) (h : Fits w.length r) : Ev (fun k => foghornref19_Whole.f k (B w) r) (wholeB w r.toNat, 0) := by
  refine Ev.congr (fun k => by rw [foghornref19_Whole.f]) ?_
  refine Ev.bind (rsyndromes_ev w r h) ?_
  refine Ev.congr (fun k => by rw [if_pos rfl]) ?_
  have := rwhole_l0 (syn w r.toNat) (by rw [syn_length]; have := h.bounds; omega) (syn w r.toNat).length 0 (by omega)
  rwa [List.drop_zero] at this
theorem evp_shift (s : Nat) (g : List F) (x : F) : evp (List.replicate s 0 ++ g) x = pow x s * evp g x := by
  induction s with
  | zero => exact (one_mul _).symm
  | succ s ih =>
    rw [List.replicate_succ, List.cons_append]
    show 0 + x * evp (List.replicate s 0 ++ g) x = pow x s * x * evp g x
    rw [ih, zero_add]
    ac_rfl
theorem at_shift (s : Nat) (g : List F) (n : Nat) : at_ (List.replicate s 0 ++ g) n = if s ≤ n then at_ g (n - s) else 0 := by
  rw [at_append, List.length_replicate]
  by_cases h : n < s
  · rw [if_pos h, if_neg (by omega), at_replicate]
  · rw [if_neg h, if_pos (by omega)]
theorem renc_l3 (d o : List F) (r : Nat) (h64 : r ≤ 64) (hr : r ≤ o.length) (ho : o.length ≤ 510) (hd : d.length ≤ 255) (m : Nat) : ∀ u : List F, m ≤ r → u.length ≤ 510 → u ++ (o.take m).reverse = d ++ (o.take r).reverse → Ev (fun k => foghornref19_Encode.l3 k (L o) (L u) ((m : Int) - 1)) (B (d ++ (o.take r).reverse), 0) := by
  induction m with
  | zero =>
    intro u _ _ hu
    rw [List.take_zero, List.reverse_nil, List.append_nil] at hu
    refine Ev.stepTo _ (fun k _ => by rw [foghornref19_Encode.l3, if_neg (by omega), strOf, hu]) (Ev.now _)
  | succ m ih =>
    intro u hm hul hu
    have e1 : ((m + 1 : Nat) : Int) - 1 = (m : Int) := by omega
    have h2 := congrArg List.length hu
    simp only [List.length_append, List.length_reverse, List.length_take] at h2
    refine Ev.stepTo _ (fun k _ => by rw [foghornref19_Encode.l3, e1, if_pos (by omega), if_pos (by omega), if_pos (by rw [L_length]; omega), if_pos (by rw [L_length]; omega), rd_L, Int.toNat_natCast, show [I (at_ o m)] = L [at_ o m] from rfl, ← L_append, wrap_id _ (by omega) (by omega)]) ?_
    refine ih (u ++ [at_ o m]) (by omega) (by rw [List.length_append, List.length_singleton]; omega) ?_
    rw [← hu, take_succ_at o m (by omega), List.reverse_append, List.append_assoc]
    rfl
theorem renc_l2 (d : List F) (r i : Nat) (hr : 2 ≤ r) (h64 : r ≤ 64) (hi : r ≤ i) (lead : F) (res : ByteArray × Int) (e : Nat) : ∀ (j : Nat) (o : List F), j + e = r + 1 → i < o.length → o.length ≤ 510 →
    (∀ o' : List F, o'.length = o.length → (∀ n, at_ o' n = at_ o n + if i - r + j ≤ n ∧ n ≤ i then lead * at_ (gen r) (n - (i - r)) else 0) → Ev (fun k => foghornref19_Encode.l1 k (B d) (r : Int) (L (gen r)) (L o') ((i : Int) - 1)) res) →
    Ev (fun k => foghornref19_Encode.l2 k (B d) (r : Int) (L (gen r)) (L o) (i : Int) (I lead) (j : Int)) res := by
  induction e with
  | zero =>
    intro j o hj hi2 ho h
    refine Ev.stepTo _ (fun k _ => by rw [foghornref19_Encode.l2, if_neg (by rw [L_length, gen_length]; omega), wrap_id _ (by omega) (by omega)]) ?_
    exact h o rfl (fun n => by rw [if_neg (by omega), add_zero])
  | succ e ih =>
    intro j o hj hi2 ho h
    have hw1 : wrap64 ((i : Int) - (r : Int)) = ((i - r : Nat) : Int) := by rw [wrap_id _ (by omega) (by omega)]; omega
    have hw : wrap64 (((i - r : Nat) : Int) + (j : Int)) = ((i - r + j : Nat) : Int) := by rw [wrap_id _ (by omega) (by omega)]; omega
    refine Ev.stepTo _ (fun k hk => by rw [foghornref19_Encode.l2, if_pos (by rw [L_length, gen_length]; omega), hw1, hw, if_pos (by omega), if_pos (by rw [L_length]; omega), if_pos (by omega), rd_L, rd_L, Int.toNat_natCast, Int.toNat_natCast, rtimes k (by omega), Option.bind_some, bx, L_set, wrap_id _ (by omega) (by omega), show ((j : Int) + 1) = ((j + 1 : Nat) : Int) from by omega]) ?_
    refine ih (j + 1) _ (by omega) (by rw [List.length_set]; exact hi2) (by rw [List.length_set]; exact ho) (fun o' h1 h2 => h o' (by rw [h1, List.length_set]) (fun n => ?_))
    rw [h2, at_set _ _ _ _ (by omega)]
    by_cases e1 : n = i - r + j
    · subst e1
      rw [if_pos rfl, if_neg (by omega), if_pos (by omega), add_zero, show i - r + j - (i - r) = j from by omega]
    · rw [if_neg e1]
      by_cases e2 : i - r + (j + 1) ≤ n ∧ n ≤ i
      · rw [if_pos e2, if_pos (by omega)]
      · rw [if_neg e2, if_neg (by omega)]
theorem renc_l1 (d : List F) (r : Nat) (hr : 2 ≤ r) (h64 : r ≤ 64) (hd : d.length + r ≤ 255) (m : Nat) : ∀ (o : List F), o.length = d.length + r → m ≤ d.length → (∀ n, r + m ≤ n → at_ o n = 0) → (∀ j, j < r → evp o (pow two j) = wv d (pow two j) * pow (pow two j) r) →
    Ev (fun k => foghornref19_Encode.l1 k (B d) (r : Int) (L (gen r)) (L o) (((r + m : Nat) : Int) - 1)) (B (d ++ chk r d), 0) := by
  induction m with
  | zero =>
    intro o ho _ hz he
    have e1 : wrap64 ((r : Int) - 1) = (r : Int) - 1 := wrap_id _ (by omega) (by omega)
    refine Ev.stepTo _ (fun k _ => by rw [foghornref19_Encode.l1, if_neg (by omega), if_pos (by rw [B_size]; omega), bytesOf_B, e1]) ?_
    have hres : (o.take r).reverse = chk r d := by
      refine chk_unique (by omega) (by rw [List.length_reverse, List.length_take]; omega) hd (fun j hj => ?_)
      rw [wv_append, List.length_reverse, List.length_take, Nat.min_eq_left (by omega)]
      have h1 : wv (o.take r).reverse (pow two j) = evp o (pow two j) := by
        unfold wv
        rw [List.reverse_reverse]
        refine evp_congr (fun n => ?_) _
        rw [at_take]
        by_cases hn : n < r
        · rw [if_pos hn]
        · rw [if_neg hn, hz n (by omega)]
      rw [h1, he j hj, add_self]
    rw [← hres]
    exact renc_l3 d o r h64 (by omega) (by omega) (by omega) r d (Nat.le_refl _) (by omega) rfl
  | succ m ih =>
    intro o ho hm hz he
    have e1 : ((r + (m + 1) : Nat) : Int) - 1 = ((r + m : Nat) : Int) := by omega
    refine Ev.stepTo _ (fun k _ => by rw [foghornref19_Encode.l1, e1, if_pos (by omega), if_pos (by omega), if_pos (by rw [L_length]; omega), rd_L, Int.toNat_natCast]) ?_
    refine renc_l2 d r (r + m) hr h64 (by omega) (at_ o (r + m)) _ (r + 1) 0 o (by omega) (by omega) (by omega) (fun o' h1 h2 => ?_)
    have hs : Sm o' (addL o (smul (at_ o (r + m)) (List.replicate m 0 ++ gen r))) := fun n => by
      rw [h2, at_addL, at_smul, at_shift]
      congr 1
      by_cases h : m ≤ n
      · rw [if_pos h]
        by_cases h' : n ≤ r + m
        · rw [if_pos (by omega), show n - (r + m - r) = n - m from by omega]
        · rw [if_neg (by omega), at_ge (gen r) _ (by rw [gen_length]; omega), mul_zero]
      · rw [if_neg h, if_neg (by omega), mul_zero]
    refine ih o' (by omega) (by omega) (fun n hn => ?_) (fun j hj => ?_)
    · rw [h2]
      by_cases e : n = r + m
      · subst e
        rw [if_pos (by omega), show r + m - (r + m - r) = r from by omega, gen_top, mul_one, add_self]
      · rw [if_neg (by omega), hz n (by omega), add_zero]
    · rw [evp_congr hs, evp_addL, evp_smul, evp_shift, gen_root r j hj, mul_zero, mul_zero, add_zero, he j hj]
theorem renc_l0 (d : List F) (r : Nat) (hr : 2 ≤ r) (h64 : r ≤ 64) (hd : d.length + r ≤ 255) (e : Nat) : ∀ (i : Nat) (o : List F), i + e = d.length → o.length = d.length + r → (∀ n, n < d.length + r → at_ o n = if d.length + r - 1 - n < i then at_ d (d.length + r - 1 - n) else 0) →
    Ev (fun k => foghornref19_Encode.l0 k (B d) (r : Int) (L (gen r)) (L o) (i : Int)) (B (d ++ chk r d), 0) := by
  induction e with
  | zero =>
    intro i o hi ho h
    have e1 : wrap64 (((L o).length : Int) - 1) = ((r + d.length : Nat) : Int) - 1 := by rw [L_length, wrap_id _ (by omega) (by omega)]; omega
    refine Ev.stepTo _ (fun k _ => by rw [foghornref19_Encode.l0, if_neg (by rw [B_size]; omega), e1]) ?_
    refine renc_l1 d r hr h64 hd d.length o ho (Nat.le_refl _) (fun n hn => at_ge o n (by omega)) (fun j _ => ?_)
    have h2 : o.reverse = d ++ List.replicate r 0 := by
      refine ext_at (by rw [List.length_reverse, List.length_append, List.length_replicate]; exact ho) (fun n hn => ?_)
      rw [List.length_reverse] at hn
      rw [at_lt _ n (by rw [List.length_reverse]; exact hn), List.getElem_reverse, ← at_lt o _ (by omega), h _ (by omega), show d.length + r - 1 - (o.length - 1 - n) = n from by omega, at_append, at_replicate]
      by_cases hnd : n < d.length
      · rw [if_pos (by omega), if_pos hnd]
      · rw [if_neg (by omega), if_neg hnd]
    have h3 : evp o (pow two j) = wv o.reverse (pow two j) := by unfold wv; rw [List.reverse_reverse]
    have h4 : wv (List.replicate r 0) (pow two j) = 0 := by
      have := wv_zeros r [] (pow two j)
      rwa [List.append_nil, wv_nil] at this
    rw [h3, h2, wv_append, List.length_replicate, h4, add_zero]
  | succ e ih =>
    intro i o hi ho h
    have e1 : wrap64 (((L o).length : Int) - 1) = ((d.length + r - 1 : Nat) : Int) := by rw [L_length, wrap_id _ (by omega) (by omega)]; omega
    have e2 : wrap64 (((d.length + r - 1 : Nat) : Int) - (i : Int)) = ((d.length + r - 1 - i : Nat) : Int) := by rw [wrap_id _ (by omega) (by omega)]; omega
    refine Ev.stepTo _ (fun k _ => by rw [foghornref19_Encode.l0, if_pos (by rw [B_size]; omega), if_pos (by omega), e1, e2, if_pos (by omega), if_pos (by rw [L_length]; omega), bt_B, Int.toNat_natCast, Int.toNat_natCast, L_set, wrap_id _ (by omega) (by omega), show ((i : Int) + 1) = ((i + 1 : Nat) : Int) from by omega]) ?_
    refine ih (i + 1) _ (by omega) (by rw [List.length_set]; exact ho) (fun n hn => ?_)
    rw [at_set _ _ _ _ (by omega)]
    by_cases en : n = d.length + r - 1 - i
    · rw [if_pos en, en, if_pos (by omega)]
      congr 1
      omega
    · rw [if_neg en, h n hn]
      by_cases hc : d.length + r - 1 - n < i
      · rw [if_pos hc, if_pos (by omega)]
      · rw [if_neg hc, if_neg (by omega)]
theorem rencode_ev (d : List F) (r : Int) (h : Fits (d.length + r) r) (hn : d ≠ []) : Ev (fun k => foghornref19_Encode.f k (B d) r) (B (d ++ chk r.toNat d), 0) := by
  have hb := h.bounds
  have hp := List.length_pos_iff.2 hn
  have hr : ((r.toNat : Nat) : Int) = r := by omega
  have hw : wrap64 ((d.length : Int) + r) = (d.length : Int) + r := wrap_id _ (by omega) (by omega)
  refine Ev.congr (fun k => by rw [foghornref19_Encode.f, toNat_len, if_neg (by omega), if_neg (by omega), hw, rcheck_fits h, Option.bind_some]) ?_
  refine Ev.stepTo _ (fun k _ => by rw [foghornref19_Encode.j0, if_neg (by decide)]) ?_
  refine Ev.bind (rgenerator_ev r h.1) ?_
  have ht : ((d.length : Int) + r).toNat = d.length + r.toNat := by omega
  refine Ev.congr (fun k => by rw [toNat_len, hw, if_pos (by omega), if_pos (by omega), ht, L_replicate, ← hr]) ?_
  exact renc_l0 d r.toNat (by omega) (by omega) (by omega) d.length 0 _ (by omega) List.length_replicate (fun n _ => by rw [at_replicate, if_neg (by omega)])
end Go.Proofs.Ytncoakokdajibaa.Sem
