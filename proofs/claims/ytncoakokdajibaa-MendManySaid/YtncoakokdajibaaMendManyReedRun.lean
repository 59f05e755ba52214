import Derived.Test.YtncoakokdajibaaMendManyCodes
import Derived.Test.YtncoakokdajibaaMendManyBytes
import Derived.Test.YtncoakokdajibaaMendManyReed1
import Derived.Test.YtncoakokdajibaaMendManyF1
/- The program's syndromes, whether a word is whole, its data, how far two are apart: what they come to. -/
namespace Go.Proofs.Ytncoakokdajibaa.Sem
open Go.RowKit Go.Proofs.Ytncoakokdajibaa.Q Go.Proofs.YtncoakokdajibaaW.PrintWords Go.Proofs.YtncoakokdajibaaW.PrintLast Go.Proofs.YtncoakokdajibaaW.PrintMore Go.Proofs.Ytncoakokdajibaa.Gf
theorem take_succ_at (w : List F) (j : Nat) (h : j < w.length) : w.take (j + 1) = w.take j ++ [at_ w j] := by
  rw [at_lt w j h, List.take_add_one, List.getElem?_eq_getElem h]
  rfl
theorem syn_l1 (w : List F) (i r : Nat) (x : F) (res : List Int × Int) (hi : i < r) (hr : r ≤ 64) (hw : w.length ≤ 255) (d : Nat) : ∀ (j : Nat) (o : List F), j + d = w.length → o.length = r → at_ o i = wv (w.take j) x →
    (∀ o' : List F, o'.length = r → at_ o' i = wv w x → (∀ m, m ≠ i → at_ o' m = at_ o m) → Ev (fun k => reed_Syndromes.l0 k (B w) (L o') (r : Int) ((i : Int) + 1)) res) →
    Ev (fun k => reed_Syndromes.l1 k (B w) (L o) (i : Int) (I x) (r : Int) (i : Int) (w.length : Int) (j : Int)) res := by
  induction d with
  | zero =>
    intro j o hj ho ha h
    refine Ev.stepTo _ (fun k _ => by rw [reed_Syndromes.l1, if_neg (by omega), wrap_id _ (by omega) (by omega)]) (h o ho (by rw [ha, List.take_of_length_le (by omega)]) (fun _ _ => rfl))
  | succ d ih =>
    intro j o hj ho ha h
    refine Ev.stepTo _ (fun k hk => by rw [reed_Syndromes.l1, if_pos (by omega), if_pos (by omega), if_pos (by rw [L_length]; omega), rd_L, Int.toNat_natCast, times k (by omega), Option.bind_some, if_pos (by omega), if_pos (by rw [B_size]; omega), bt_B, Int.toNat_natCast, bx, L_set, wrap_id _ (by omega) (by omega), show ((j : Int) + 1) = ((j + 1 : Nat) : Int) from by omega]) ?_
    refine ih (j + 1) _ (by omega) (by rw [List.length_set]; exact ho) ?_ (fun o' h1 h2 h3 => h o' h1 h2 (fun m hm => ?_))
    · rw [at_set _ _ _ _ (by omega), if_pos rfl, take_succ_at w j (by omega), wv_snoc, ha, mul_comm, add_comm]
    · rw [h3 m hm, at_set _ _ _ _ (by omega), if_neg hm]
def syn (w : List F) (r : Nat) : List F := (List.range r).map (fun i => wv w (pow two i))
theorem syn_length (w : List F) (r : Nat) : (syn w r).length = r := by unfold syn; rw [List.length_map, List.length_range]
theorem at_syn (w : List F) (r n : Nat) (h : n < r) : at_ (syn w r) n = wv w (pow two n) := by
  rw [at_lt _ n (by rw [syn_length]; exact h)]
  unfold syn
  rw [List.getElem_map, List.getElem_range]
theorem syn_l0 (w : List F) (r : Nat) (hr : r ≤ 64) (hw : w.length ≤ 255) (d : Nat) : ∀ (i : Nat) (o : List F), i + d = r → o.length = r → (∀ m, m < i → at_ o m = wv w (pow two m)) → (∀ m, i ≤ m → at_ o m = 0) →
    Ev (fun k => reed_Syndromes.l0 k (B w) (L o) (r : Int) (i : Int)) (L (syn w r), 0) := by
  induction d with
  | zero =>
    intro i o hi ho h _
    refine Ev.stepTo _ (fun k _ => by rw [reed_Syndromes.l0, if_neg (by omega)]) ?_
    have : o = syn w r := ext_at (by rw [ho, syn_length]) (fun n hn => by rw [h n (by omega), at_syn w r n (by omega)])
    rw [this]
    exact Ev.now _
  | succ d ih =>
    intro i o hi ho h h0
    refine Ev.stepTo _ (fun k hk => by rw [reed_Syndromes.l0, if_pos (by omega), exp_nat k hk, Option.bind_some, toNat_len]) ?_
    refine syn_l1 w i r (pow two i) _ (by omega) hr hw w.length 0 o (by omega) ho (by rw [h0 i (Nat.le_refl _)]; rfl) (fun o' h1 h2 h3 => ?_)
    rw [show ((i : Int) + 1) = ((i + 1 : Nat) : Int) from by omega]
    refine ih (i + 1) o' (by omega) h1 (fun m hm => ?_) (fun m hm => by rw [h3 m (by omega), h0 m (by omega)])
    by_cases e : m = i
    · rw [e, h2]
    · rw [h3 m e, h m (by omega)]
def Fits (n r : Int) : Prop := isChecks r = true ∧ r < n ∧ n ≤ 255
instance (n r : Int) : Decidable (Fits n r) := by unfold Fits; exact inferInstance
theorem Fits.bounds {n r : Int} (h : Fits n r) : 2 ≤ r ∧ r ≤ 64 ∧ r < n ∧ n ≤ 255 := by
  have h2 := of_decide_eq_true h.1
  exact ⟨h2.1, h2.2.1, h.2.1, h.2.2⟩
theorem check_fits {n r : Int} (h : Fits n r) : reed_Check.f n r = some 0 := by unfold Fits at h; rw [check, if_pos h]
theorem check_no {n r : Int} (h : ¬ Fits n r) : reed_Check.f n r = some 1 := by unfold Fits at h; rw [check, if_neg h]
theorem syndromes_ev (w : List F) (r : Int) (h : Fits w.length r) : Ev (fun k => reed_Syndromes.f k (B w) r) (L (syn w r.toNat), 0) := by
  have hb := h.bounds
  refine Ev.congr (fun k => by rw [reed_Syndromes.f, toNat_len, check_fits h, Option.bind_some, if_pos rfl, if_pos (by omega), if_pos (by omega), Option.bind_some, L_replicate, L_length, List.length_replicate]) ?_
  exact syn_l0 w r.toNat (by omega) (by omega) r.toNat 0 _ (by omega) List.length_replicate (fun m hm => by omega) (fun m _ => at_replicate _ _)
def wholeB (w : List F) (r : Nat) : Bool := (syn w r).all (fun a => decide (a = 0))
theorem wholeB_iff (w : List F) (r : Nat) : wholeB w r = true ↔ Code r w := by
  unfold wholeB syn Code
  rw [List.all_map, List.all_eq_true]
  constructor
  · intro h i hi
    exact of_decide_eq_true (h i (List.mem_range.2 hi))
  · intro h i hi
    exact decide_eq_true (h i (List.mem_range.1 hi))
theorem whole_l0 (s : List F) (hs : s.length ≤ 64) (d : Nat) : ∀ (i : Nat), i + d = s.length → Ev (fun k => reed_Whole.l0 k (L s) (s.length : Int) (i : Int)) ((s.drop i).all (fun a => decide (a = 0)), 0) := by
  induction d with
  | zero =>
    intro i hi
    refine Ev.stepTo _ (fun k _ => by rw [reed_Whole.l0, if_neg (by omega)]) ?_
    rw [List.drop_of_length_le (by omega)]
    exact Ev.now _
  | succ d ih =>
    intro i hi
    have hd : s.drop i = at_ s i :: s.drop (i + 1) := by rw [List.drop_eq_getElem_cons (by omega), at_lt s i (by omega)]
    by_cases e : at_ s i = 0
    · refine Ev.stepTo _ (fun k _ => by rw [reed_Whole.l0, if_pos (by omega), if_pos (by omega), if_pos (by rw [L_length]; omega), rd_L, Int.toNat_natCast, if_pos (I_eq_zero.2 e), wrap_id _ (by omega) (by omega), show ((i : Int) + 1) = ((i + 1 : Nat) : Int) from by omega]) ?_
      rw [hd, List.all_cons, e]
      simpa using ih (i + 1) (by omega)
    · refine Ev.stepTo _ (fun k _ => by rw [reed_Whole.l0, if_pos (by omega), if_pos (by omega), if_pos (by rw [L_length]; omega), rd_L, Int.toNat_natCast, if_neg (fun h => e (I_eq_zero.1 h))]) ?_
      rw [hd, List.all_cons, decide_eq_false e, Bool.false_and]
      exact Ev.now _
theorem whole_ev (w : List F) (r : Int) (h : Fits w.length r) : Ev (fun k => reed_Whole.f k (B w) r) (wholeB w r.toNat, 0) := by
  refine Ev.congr (fun k => by rw [reed_Whole.f]) ?_
  refine Ev.bind (syndromes_ev w r h) ?_
  refine Ev.congr (fun k => by rw [if_pos rfl, L_length]) ?_
  have := whole_l0 (syn w r.toNat) (by rw [syn_length]; have := h.bounds; omega) (syn w r.toNat).length 0 (by omega)
  rwa [List.drop_zero] at this
end Go.Proofs.Ytncoakokdajibaa.Sem
