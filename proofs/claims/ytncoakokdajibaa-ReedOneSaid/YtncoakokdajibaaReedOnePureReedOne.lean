import Derived.Test.YtncoakokdajibaaReedOneFit19
import Derived.Test.YtncoakokdajibaaReedOneF0
/- ReedOne, over numbers: of any word the one codeword with its data. -/
namespace Go.Proofs.Ytncoakokdajibaa.Pure
open Go.RowKit Go.Proofs.Ytncoakokdajibaa.Q Go.Proofs.YtncoakokdajibaaW.PrintWords Go.Proofs.YtncoakokdajibaaW.PrintLast Go.Proofs.YtncoakokdajibaaW.PrintMore Go.Proofs.Ytncoakokdajibaa.Gf Go.Proofs.Ytncoakokdajibaa.Sem

theorem ReedOne_l0 (b : Bool) (s : List F) (hs : s.length ≤ 64) (e : Nat) : ∀ (i : Nat) (z : Bool), i + e = s.length → b = (z && (s.drop i).all (fun a => decide (a = 0))) → Ev (fun k => foghornlaw19_ReedOne.l0 k b (L s) z (i : Int)) true := by
  induction e with
  | zero =>
    intro i z hi hb
    refine Ev.stepTo _ (fun k _ => by rw [foghornlaw19_ReedOne.l0, if_neg (by rw [L_length]; omega)]) ?_
    rw [List.drop_of_length_le (by omega), List.all_nil, Bool.and_true] at hb
    rw [hb, beq_self_eq_true]
    exact Ev.now _
  | succ e ih =>
    intro i z hi hb
    have hd : s.drop i = at_ s i :: s.drop (i + 1) := by rw [List.drop_eq_getElem_cons (by omega), at_lt s i (by omega)]
    rw [hd, List.all_cons] at hb
    cases z with
    | true =>
      refine Ev.stepTo _ (fun k _ => by rw [foghornlaw19_ReedOne.l0, if_pos (by rw [L_length]; omega), if_pos rfl, if_pos (by omega), rd_L, Int.toNat_natCast, wrap_id _ (by omega) (by omega), show ((i : Int) + 1) = ((i + 1 : Nat) : Int) from by omega]) ?_
      refine ih (i + 1) _ (by omega) ?_
      rw [hb, Bool.true_and]
      congr 1
      by_cases h0 : at_ s i = 0
      · rw [decide_eq_true h0, I_eq_zero.2 h0]; rfl
      · rw [decide_eq_false h0, eq_comm, beq_eq_false_iff_ne]
        exact fun h => h0 (I_eq_zero.1 h)
    | false =>
      refine Ev.stepTo _ (fun k _ => by rw [foghornlaw19_ReedOne.l0, if_pos (by rw [L_length]; omega), if_neg (by decide), wrap_id _ (by omega) (by omega), show ((i : Int) + 1) = ((i + 1 : Nat) : Int) from by omega]) ?_
      refine ih (i + 1) _ (by omega) ?_
      rw [hb, Bool.false_and, Bool.false_and]
theorem ReedOne : foghornlaw19_ReedOne.Pure := by
  intro s r hs _
  obtain ⟨d, rfl⟩ := B_of s
  rw [B_size] at hs
  have hc := fitR_checks r
  have hlo := fitR_lo r
  have hhi := fitR_hi r
  have hl := fitD_len d r
  have hn := fitD_ne d r
  have hf := fit_f d r hs
  generalize fitD d r = a at hf hl hn
  generalize fitR r = q at *
  have hp := List.length_pos_iff.2 hn
  refine Ev.rounds ?_
  refine Ev.congr (fun k => by rw [foghornlaw19_ReedOne.f]) ?_
  refine Ev.bind works_ev ?_
  have e1 : mx 0 (wrap64 (q - 1)) = ((q.toNat - 1 : Nat) : Int) := by
    rw [wrap_id _ (by omega) (by omega)]
    unfold mx
    rw [if_pos (by omega)]
    omega
  have hw : (a ++ [(⟨7, by decide⟩ : F)] ++ List.replicate (q.toNat - 1) 0).length = a.length + q.toNat := by simp only [List.length_append, List.length_replicate, List.length_cons, List.length_nil]; omega
  refine Ev.congr (fun k => by rw [if_pos rfl, hf, Option.bind_some, if_pos (by rw [B_size]; omega), e1, if_pos (by omega), Int.toNat_natCast, if_pos (by omega), Option.bind_some, L_replicate, strOf, show (⟨#[7]⟩ : ByteArray) = B [(⟨7, by decide⟩ : F)] from rfl, B_append, B_append, if_pos (by rw [B_size, B_size, List.length_replicate]; simp only [List.length_append, List.length_cons, List.length_nil]; omega), toNat_len, hw]) ?_
  generalize a ++ [(⟨7, by decide⟩ : F)] ++ List.replicate (q.toNat - 1) 0 = w at hw
  have e2 : mn ((a.length + q.toNat : Nat) : Int) 255 = ((a.length + q.toNat : Nat) : Int) := by
    unfold mn
    rw [if_neg (by omega)]
  have e3 : wrap64 (((a.length + q.toNat : Nat) : Int) - q) = (a.length : Int) := by rw [wrap_id _ (by omega) (by omega)]; omega
  have hdl : (w.take a.length).length = a.length := by rw [List.length_take]; omega
  refine Ev.congr (fun k => by rw [e2, if_pos (by omega), if_pos (by omega), Int.toNat_natCast, B_take, List.take_of_length_le (Nat.le_of_eq hw), toNat_len, hw, e3, if_pos (by omega), if_pos (by omega), Int.toNat_natCast, B_take]) ?_
  have hnd : w.take a.length ≠ [] := List.length_pos_iff.1 (by omega)
  refine Ev.bind (encode_ev (w.take a.length) q (fits_of hc (by omega) (by omega)) hnd) ?_
  have hfit : Fits w.length q := fits_of hc (by omega) (by omega)
  refine Ev.bind (whole_ev w q hfit) ?_
  refine Ev.bind (syndromes_ev w q hfit) ?_
  have hcl : (w.take a.length ++ chk q.toNat (w.take a.length)).length = a.length + q.toNat := by rw [List.length_append, chk_length _ (by omega), hdl]
  have hsame : wholeB w q.toNat = ((B (w.take a.length ++ chk q.toNat (w.take a.length))).toList == (B w).toList) := by
    have hsplit : w = w.take a.length ++ w.drop a.length := (List.take_append_drop _ _).symm
    by_cases h : Sem.Code q.toNat w
    · have h2 : w.drop a.length = chk q.toNat (w.take a.length) := chk_unique (by omega) (by rw [List.length_drop]; omega) (by omega) (by rw [← hsplit]; exact h)
      rw [(wholeB_iff _ _).2 h, eq_comm, beq_iff_eq, B_toList_iff, ← h2, ← hsplit]
    · have h1 : wholeB w q.toNat = false := by rw [Bool.eq_false_iff]; exact fun e => h ((wholeB_iff _ _).1 e)
      rw [h1, eq_comm, beq_eq_false_iff_ne]
      intro e
      apply h
      rw [← B_toList_inj e]
      exact chk_code _ (by omega) _
  refine Ev.congr (fun k => by rw [if_pos rfl, if_pos rfl, if_pos rfl, toNat_len, hcl, if_pos rfl, toNat_len, hdl, if_pos (by omega), if_pos (by omega), Int.toNat_natCast, B_take, List.take_left' hdl, if_pos rfl, ← hsame, bne_self_eq_false]) ?_
  refine Ev.stepTo _ (fun k _ => by rw [foghornlaw19_ReedOne.j0, if_neg (by decide)]) ?_
  exact ReedOne_l0 _ _ (by rw [syn_length]; omega) _ 0 true (Nat.zero_add _) (by rw [Bool.true_and, List.drop_zero]; rfl)
end Go.Proofs.Ytncoakokdajibaa.Pure
