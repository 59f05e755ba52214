import Derived.Test.YtncoakokdajibaaMendManyEncRun
import Derived.Test.YtncoakokdajibaaMendManyReedRun
import Derived.Test.YtncoakokdajibaaMendManyF1
/- The document's syndromes, codewords, data and distances: what they come to. -/
namespace Go.Proofs.Ytncoakokdajibaa.Sem
open Go.RowKit Go.Proofs.Ytncoakokdajibaa.Q Go.Proofs.YtncoakokdajibaaW.PrintWords Go.Proofs.YtncoakokdajibaaW.PrintLast Go.Proofs.YtncoakokdajibaaW.PrintMore Go.Proofs.Ytncoakokdajibaa.Gf
theorem drop_at (w : List F) (m : Nat) (h : m < w.length) : w.drop m = at_ w m :: w.drop (m + 1) := by rw [List.drop_eq_getElem_cons h, at_lt w m h]
theorem rAt_l0 (w : List F) (x : F) (hw : w.length ≤ 65536) (m : Nat) : m ≤ w.length → Ev (fun k => foghornref19_At.l0 k (B w) (I x) (I (wv (w.drop m) x)) (I (pow x (w.length - m))) ((m : Int) - 1)) (I (wv w x)) := by
  induction m with
  | zero =>
    intro _
    refine Ev.stepTo _ (fun k _ => by rw [foghornref19_At.l0, if_neg (by omega)]) ?_
    exact Ev.now _
  | succ m ih =>
    intro hm
    have e1 : ((m + 1 : Nat) : Int) - 1 = (m : Int) := by omega
    have e2 : pow x (w.length - m) = pow x (w.length - (m + 1)) * x := by rw [show w.length - m = w.length - (m + 1) + 1 from by omega]; rfl
    have e3 : wv (w.drop m) x = wv (w.drop (m + 1)) x + at_ w m * pow x (w.length - (m + 1)) := by rw [drop_at w m (by omega), wv_cons, List.length_drop, add_comm]
    refine Ev.stepTo _ (fun k hk => by rw [foghornref19_At.l0, e1, if_pos (by omega), if_pos (by omega), if_pos (by rw [B_size]; omega), bt_B, Int.toNat_natCast, rtimes k (by omega), Option.bind_some, rtimes k (by omega), Option.bind_some, bx, wrap_id _ (by omega) (by omega), ← e2, ← e3]) ?_
    exact ih (by omega)
theorem rAt_ev (w : List F) (x : F) (hw : w.length ≤ 65536) : Ev (fun k => foghornref19_At.f k (B w) (I x)) (I (wv w x)) := by
  have h := rAt_l0 w x hw w.length (Nat.le_refl _)
  rw [List.drop_length, Nat.sub_self] at h
  refine Ev.congr (fun k => by rw [foghornref19_At.f, toNat_len, wrap_id _ (by omega) (by omega)]) ?_
  exact h
theorem syn_succ (w : List F) (i : Nat) : syn w (i + 1) = syn w i ++ [wv w (pow two i)] := by
  unfold syn
  rw [List.range_succ, List.map_append]
  rfl
theorem rsyn_l0 (w : List F) (hw : w.length ≤ 65536) (r : Nat) (hr : r ≤ 64) (d : Nat) : ∀ i, i + d = r → Ev (fun k => foghornref19_Syndromes.l0 k (B w) (r : Int) (L (syn w i)) (i : Int)) (L (syn w r), 0) := by
  induction d with
  | zero =>
    intro i hi
    have : i = r := by omega
    subst this
    exact Ev.stepTo _ (fun k _ => by rw [foghornref19_Syndromes.l0, if_neg (by omega)]) (Ev.now _)
  | succ d ih =>
    intro i hi
    refine Ev.stepTo _ (fun k _ => by rw [foghornref19_Syndromes.l0, if_pos (by omega)]) ?_
    refine Ev.bind (rpower_ev i (by omega)) ?_
    refine Ev.bind (rAt_ev w (pow two i) hw) ?_
    refine Ev.congr (fun k => by rw [if_pos (by rw [L_length, syn_length]; omega), show [I (wv w (pow two i))] = L [wv w (pow two i)] from rfl, ← L_append, ← syn_succ, wrap_id _ (by omega) (by omega), show ((i : Int) + 1) = ((i + 1 : Nat) : Int) from by omega]) ?_
    exact ih (i + 1) (by omega)
theorem rcheck_fits {n r : Int} (h : Fits n r) : foghornref19_Check.f n r = some 0 := by unfold Fits at h; rw [rcheck, if_pos h]
theorem rcheck_no {n r : Int} (h : ¬ Fits n r) : foghornref19_Check.f n r = some 1 := by unfold Fits at h; rw [rcheck, if_neg h]
theorem rsyndromes_ev (w : List F) (r : Int) (h : Fits w.length r) : Ev (fun k => foghornref19_Syndromes.f k (B w) r) (L (syn w r.toNat), 0) := by
  have hb := h.bounds
  have hr : ((r.toNat : Nat) : Int) = r := by omega
  refine Ev.congr (fun k => by rw [foghornref19_Syndromes.f, toNat_len, rcheck_fits h, Option.bind_some, if_pos rfl]) ?_
  have := rsyn_l0 w (by omega) r.toNat (by omega) r.toNat 0 (Nat.zero_add _)
  rw [hr] at this
  exact this
theorem rwhole_l0 (s : List F) (hs : s.length ≤ 64) (d : Nat) : ∀ (i : Nat), i + d = s.length → Ev (fun k => foghornref19_Whole.l0 k (L s) (i : Int)) ((s.drop i).all (fun a => decide (a = 0)), 0) := by
  induction d with
  | zero =>
    intro i hi
    refine Ev.stepTo _ (fun k _ => by rw [foghornref19_Whole.l0, if_neg (by rw [L_length]; omega)]) ?_
    rw [List.drop_of_length_le (by omega)]
    exact Ev.now _
  | succ d ih =>
    intro i hi
    have hd := drop_at s i (by omega)
    by_cases e : at_ s i = 0
    · refine Ev.stepTo _ (fun k _ => by rw [foghornref19_Whole.l0, if_pos (by rw [L_length]; omega), if_pos (by omega), rd_L, Int.toNat_natCast, if_pos (I_eq_zero.2 e), wrap_id _ (by omega) (by omega), show ((i : Int) + 1) = ((i + 1 : Nat) : Int) from by omega]) ?_
      rw [hd, List.all_cons, e]
      simpa using ih (i + 1) (by omega)
    · refine Ev.stepTo _ (fun k _ => by rw [foghornref19_Whole.l0, if_pos (by rw [L_length]; omega), if_pos (by omega), rd_L, Int.toNat_natCast, if_neg (fun h => e (I_eq_zero.1 h))]) ?_
      rw [hd, List.all_cons, decide_eq_false e, Bool.false_and]
      exact Ev.now _
theorem rwhole_ev (w : List F) (r : Int) (h : Fits w.length r) : Ev (fun k => foghornref19_Whole.f k (B w) r) (wholeB w r.toNat, 0) := by
  refine Ev.congr (fun k => by rw [foghornref19_Whole.f]) ?_
  refine Ev.bind (rsyndromes_ev w r h) ?_
  refine Ev.congr (fun k => by rw [if_pos rfl]) ?_
  have := rwhole_l0 (syn w r.toNat) (by rw [syn_length]; have := h.bounds; omega) (syn w r.toNat).length 0 (by omega)
  rwa [List.drop_zero] at this
end Go.Proofs.Ytncoakokdajibaa.Sem
