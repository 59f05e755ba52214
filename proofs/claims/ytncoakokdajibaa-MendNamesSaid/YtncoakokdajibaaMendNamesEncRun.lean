import Derived.Test.YtncoakokdajibaaMendNamesReedRun
import Derived.Test.YtncoakokdajibaaMendNamesF0
/- The program's codeword: the data and the one row of checks that makes them a codeword. -/
namespace Go.Proofs.Ytncoakokdajibaa.Sem
open Go.RowKit Go.Proofs.Ytncoakokdajibaa.Q Go.Proofs.YtncoakokdajibaaW.PrintWords Go.Proofs.YtncoakokdajibaaW.PrintLast Go.Proofs.YtncoakokdajibaaW.PrintMore Go.Proofs.Ytncoakokdajibaa.Gf

theorem wv_smul (a : F) : ∀ (w : List F) (x : F), wv (smul a w) x = a * wv w x := by
  intro w x
  unfold wv
  rw [← evp_smul]
  unfold smul
  rw [List.map_reverse]
theorem gen_root (r i : Nat) (h : i < r) : evp (gen r) (pow two i) = 0 := by
  unfold gen
  rw [roots_of]
  unfold pows
  exact List.mem_map.2 ⟨i, List.mem_range.2 h, rfl⟩
theorem gen_low (r i : Nat) (h : i < r) : wv ((gen r).take r).reverse (pow two i) = pow (pow two i) r := by
  have hs : gen r = (gen r).take r ++ [1] := by
    have := take_succ_at (gen r) r (by rw [gen_length]; omega)
    rw [List.take_of_length_le (by rw [gen_length]; omega), gen_top] at this
    exact this
  have h0 := gen_root r i h
  have h1 : evp (gen r) (pow two i) = wv (1 :: ((gen r).take r).reverse) (pow two i) := by
    unfold wv
    rw [List.reverse_cons, List.reverse_reverse, ← hs]
  rw [h1, wv_cons, one_mul, List.length_reverse, List.length_take, gen_length, Nat.min_eq_left (by omega)] at h0
  exact (eq_of_add_zero h0).symm
/-- The rest behind one byte more. -/
def nextRest (r : Nat) (R : List F) (a : F) : List F := lay (R.drop 1 ++ [0]) (smul (a + at_ R 0) ((gen r).take r).reverse)
theorem nextRest_length {r : Nat} {R : List F} (a : F) (h : R.length = r) (hr : 0 < r) : (nextRest r R a).length = r := by
  unfold nextRest
  rw [lay_length (by rw [smul_length, List.length_reverse, List.length_take, gen_length, List.length_append, List.length_drop]; simp; omega), List.length_append, List.length_drop]
  simp
  omega
theorem at_nextRest {r : Nat} {R : List F} (a : F) (h : R.length = r) (n : Nat) (hn : n < r) : at_ (nextRest r R a) n = (if n + 1 < r then at_ R (n + 1) else 0) + (a + at_ R 0) * at_ (gen r) (r - 1 - n) := by
  unfold nextRest
  rw [at_lay _ _ _ (by rw [smul_length, List.length_reverse, List.length_take, gen_length, List.length_append, List.length_drop]; simp; omega), at_smul, at_append, List.length_drop]
  congr 1
  · by_cases e : n + 1 < r
    · rw [if_pos (by omega), if_pos e, at_drop, Nat.add_comm]
    · rw [if_neg (by omega), if_neg e, show n - (R.length - 1) = 0 from by omega]; rfl
  · congr 1
    rw [at_lt _ n (by rw [List.length_reverse, List.length_take, gen_length]; omega), List.getElem_reverse, List.getElem_take, at_lt _ _ (by rw [gen_length]; omega)]
    congr 1
    rw [List.length_take, gen_length]
    omega
theorem Code.next {r : Nat} {D R : List F} (a : F) (hr : 0 < r) (h : R.length = r) (hc : Code r (D ++ R)) : Code r ((D ++ [a]) ++ nextRest r R a) := fun i hi => by
  have h0 := hc i hi
  have hR : R = at_ R 0 :: R.drop 1 := by
    cases R with
    | nil => simp at h; omega
    | cons b R => rfl
  have hx : pow (pow two i) r = pow (pow two i) (r - 1) * pow two i := by
    have : pow (pow two i) (r - 1 + 1) = pow (pow two i) (r - 1) * pow two i := rfl
    rwa [show r - 1 + 1 = r from by omega] at this
  rw [wv_append, h] at h0
  rw [wv_append, nextRest_length a h hr, wv_snoc]
  unfold nextRest
  rw [wv_lay _ _ _ (by rw [smul_length, List.length_reverse, List.length_take, gen_length, List.length_append, List.length_drop]; simp; omega), wv_snoc, wv_smul, gen_low r i hi, zero_add]
  have h1 : wv (R.drop 1) (pow two i) = wv D (pow two i) * pow (pow two i) r + at_ R 0 * pow (pow two i) (r - 1) := by
    have h2 := congrArg (fun l => wv l (pow two i)) hR
    simp only [wv_cons, List.length_drop, h] at h2
    rw [h2] at h0
    rw [← add_assoc] at h0
    exact (eq_of_add_zero h0).symm
  rw [h1]
  generalize pow two i = x at hx ⊢
  generalize wv D x = dx
  generalize at_ R 0 = b
  rw [hx]
  generalize pow x (r - 1) = y
  have e1 : (a + x * dx) * (y * x) = a * (y * x) + dx * (y * x) * x := by rw [add_mul]; ac_rfl
  have e2 : x * (dx * (y * x) + b * y) = dx * (y * x) * x + b * (y * x) := by rw [mul_add]; ac_rfl
  have e3 : (a + b) * (y * x) = a * (y * x) + b * (y * x) := add_mul _ _ _
  rw [e1, e2, e3]
  generalize a * (y * x) = A
  generalize dx * (y * x) * x = C
  generalize b * (y * x) = E
  have : A + C + (C + E + (A + E)) = (A + A) + ((C + C) + (E + E)) := by ac_rfl
  rw [this, add_self, add_self, add_self, add_zero, add_zero]
/-- The row of checks. -/
def chk (r : Nat) (d : List F) : List F := d.foldl (nextRest r) (List.replicate r 0)
theorem chk_snoc (r : Nat) (d : List F) (a : F) : chk r (d ++ [a]) = nextRest r (chk r d) a := by unfold chk; rw [List.foldl_append]; rfl
theorem chk_all (r : Nat) (hr : 0 < r) (d : List F) : (chk r d).length = r ∧ Code r (d ++ chk r d) := by
  have hs : ∀ l : List F, (chk r l.reverse).length = r ∧ Code r (l.reverse ++ chk r l.reverse) := fun l => by
    induction l with
    | nil => exact ⟨List.length_replicate, fun i _ => by
        show wv (List.replicate r 0) _ = 0
        have := wv_zeros r [] (pow two i)
        rwa [List.append_nil, wv_nil] at this⟩
    | cons a l ih =>
      rw [List.reverse_cons, chk_snoc]
      exact ⟨nextRest_length a ih.1 hr, Code.next a hr ih.1 ih.2⟩
  have := hs d.reverse
  rwa [List.reverse_reverse] at this
theorem chk_length (r : Nat) (hr : 0 < r) (d : List F) : (chk r d).length = r := (chk_all r hr d).1
theorem chk_code (r : Nat) (hr : 0 < r) (d : List F) : Code r (d ++ chk r d) := (chk_all r hr d).2
theorem chk_unique {r : Nat} (hr : 0 < r) {d u : List F} (hl : u.length = r) (h5 : d.length + r ≤ 255) (h : Code r (d ++ u)) : u = chk r d :=
  checks_unique h (chk_code r hr d) hl (chk_length r hr d) h5
/-! the run -/
theorem enc_l1 (d : List F) (r : Nat) (hr : 2 ≤ r) (h64 : r ≤ 64) (lead : F) (i : Int) (res : ByteArray × Int) (e : Nat) : ∀ (j : Nat) (o : List F), j + e = r → o.length = 64 →
    (∀ o' : List F, o'.length = 64 → (∀ n, at_ o' n = at_ o n + if j ≤ n ∧ n < r then lead * at_ (gen r) (r - 1 - n) else 0) → Ev (fun k => reed_Encode.l0 k (B d) (r : Int) (L (gen r)) (L o') (d.length : Int) (wrap64 (i + 1))) res) →
    Ev (fun k => reed_Encode.l1 k (B d) (r : Int) (L (gen r)) (L o) (I lead) (d.length : Int) i (r : Int) (j : Int)) res := by
  induction e with
  | zero =>
    intro j o hj ho h
    refine Ev.stepTo _ (fun k _ => by rw [reed_Encode.l1, if_neg (by omega)]) (h o ho (fun n => by rw [if_neg (by omega), add_zero]))
  | succ e ih =>
    intro j o hj ho h
    have hw1 : wrap64 ((r : Int) - 1) = ((r - 1 : Nat) : Int) := by rw [wrap_id _ (by omega) (by omega)]; omega
    have hw : wrap64 (wrap64 ((r : Int) - 1) - (j : Int)) = ((r - 1 - j : Nat) : Int) := by rw [hw1, wrap_id _ (by omega) (by omega)]; omega
    refine Ev.stepTo _ (fun k hk => by rw [reed_Encode.l1, if_pos (by omega), if_pos (by omega), if_pos (by omega), if_pos (by rw [L_length]; omega), hw, if_pos (by omega), if_pos (by rw [L_length, gen_length]; omega), rd_L, rd_L, Int.toNat_natCast, Int.toNat_natCast, times k (by omega), Option.bind_some, bx, L_set, wrap_id _ (by omega) (by omega), show ((j : Int) + 1) = ((j + 1 : Nat) : Int) from by omega]) ?_
    refine ih (j + 1) _ (by omega) (by rw [List.length_set]; exact ho) (fun o' h1 h2 => h o' h1 (fun n => ?_))
    rw [h2, at_set _ _ _ _ (by omega)]
    by_cases e1 : n = j
    · subst e1
      rw [if_pos rfl, if_neg (by omega), if_pos (by omega), add_zero]
    · rw [if_neg e1]
      by_cases e2 : j + 1 ≤ n ∧ n < r
      · rw [if_pos e2, if_pos (by omega)]
      · rw [if_neg e2, if_neg (by omega)]
theorem take64 {o : List F} {r : Nat} (ho : o.length = 64) (hr : r ≤ 64) : (o.take r).length = r := by rw [List.length_take]; omega
theorem enc_l0 (d : List F) (r : Nat) (hr : 2 ≤ r) (h64 : r ≤ 64) (hd : d.length ≤ 255) (e : Nat) : ∀ (i : Nat) (o : List F), i + e = d.length → o.length = 64 → o.take r = chk r (d.take i) →
    Ev (fun k => reed_Encode.l0 k (B d) (r : Int) (L (gen r)) (L o) (d.length : Int) (i : Int)) (B (d ++ chk r d), 0) := by
  have hw1 : wrap64 ((r : Int) - 1) = ((r - 1 : Nat) : Int) := by rw [wrap_id _ (by omega) (by omega)]; omega
  induction e with
  | zero =>
    intro i o hi ho h
    refine Ev.stepTo _ (fun k _ => by rw [reed_Encode.l0, if_neg (by omega), if_pos (by omega), if_pos (by omega), if_pos (by rw [L_length]; omega), if_pos (by omega), Int.toNat_natCast, L_take, strOf, if_pos (by rw [B_size, B_size, take64 ho h64]; omega), B_append, h, List.take_of_length_le (Nat.le_of_eq (by omega))]) (Ev.now _)
  | succ e ih =>
    intro i o hi ho h
    refine Ev.stepTo _ (fun k hk => by rw [reed_Encode.l0, if_pos (by omega), if_pos (by omega), if_pos (by rw [B_size]; omega), if_pos (by omega), if_pos (by rw [L_length]; omega), hw1, if_pos (by omega), if_pos (by omega), if_pos (by rw [L_length]; omega), if_pos (by omega), if_pos (by omega), if_pos (by omega), if_pos (by rw [L_length]; omega), if_pos (by omega), if_pos (by rw [L_length]; omega), bt_B, rd_L, Int.toNat_natCast, Int.toNat_natCast, show (0 : Int).toNat = 0 from rfl, bx, L_drop, L_take, L_setFrom, show (0 : Int) = I 0 from rfl, L_set]) ?_
    have hlen : ∀ vs : List F, (ArrW.setFrom o 0 vs).length = 64 := fun vs => by rw [ArrW.setFrom_length]; exact ho
    refine enc_l1 d r hr h64 _ (i : Int) _ r 0 _ (by omega) (by rw [List.length_set]; exact hlen _) (fun o' h1 h2 => ?_)
    rw [wrap_id _ (by omega) (by omega), show ((i : Int) + 1) = ((i + 1 : Nat) : Int) from by omega]
    refine ih (i + 1) o' (by omega) h1 ?_
    rw [take_succ_at d i (by omega), chk_snoc, ← h]
    have ht : (o.take r).length = r := take64 ho h64
    refine ext_at (by rw [take64 h1 h64, nextRest_length _ ht (by omega)]) (fun n hn => ?_)
    rw [take64 h1 h64] at hn
    have h00 : at_ (o.take r) 0 = at_ o 0 := by rw [at_take, if_pos (by omega)]
    rw [at_take, if_pos hn, at_nextRest _ ht n hn, h2, if_pos (by omega), h00]
    congr 1
    rw [at_set _ _ _ _ (by rw [hlen]; omega)]
    by_cases e1 : n = r - 1
    · rw [if_pos e1, if_neg (by omega)]
    · rw [if_neg e1, if_pos (by omega), at_setFrom _ _ _ _ (by rw [List.length_take, List.length_drop]; omega), if_pos (by rw [List.length_take, List.length_drop]; omega), at_take, if_pos (by omega), at_drop, at_take, if_pos (by omega)]
      congr 1
      omega
theorem encode_ev (d : List F) (r : Int) (h : Fits (d.length + r) r) (hn : d ≠ []) : Ev (fun k => reed_Encode.f k (B d) r) (B (d ++ chk r.toNat d), 0) := by
  have hb := h.bounds
  have hne : ((B d).toList == ([] : List UInt8)) = false := by
    rw [beq_eq_false_iff_ne]
    exact fun e => hn (B_empty.1 e)
  refine Ev.congr (fun k => by rw [reed_Encode.f, toNat_len, wrap_id _ (by omega) (by omega), check_fits h, Option.bind_some, if_pos rfl, hne]) ?_
  refine Ev.stepTo _ (fun k hk => by rw [reed_Encode.j0, if_neg (by decide)]) ?_
  refine Ev.bind (generator_ev r h.1) ?_
  have hr : ((r.toNat : Nat) : Int) = r := by omega
  refine Ev.congr (fun k => by rw [toNat_len, L_replicate, ← hr]) ?_
  have := enc_l0 d r.toNat (by omega) (by omega) (by omega) d.length 0 (List.replicate 64 0) (by omega) List.length_replicate (by rw [List.take_replicate, Nat.min_eq_left (by omega)]; rfl)
  exact this
theorem encode_no (d : List F) (r : Int) (h : ¬ Fits (wrap64 (d.length + r)) r ∨ d = []) : Ev (fun k => reed_Encode.f k (B d) r) (B [], 1) := by
  have hj : ∀ b : Bool, b = true → Ev (fun k => reed_Encode.j0 k (B d) r b) (B [], 1) := fun b hb => by
    subst hb
    exact Ev.stepTo _ (fun k _ => by rw [reed_Encode.j0, if_pos rfl]; rfl) (Ev.now _)
  refine Ev.congr (fun k => by rw [reed_Encode.f, toNat_len]) ?_
  by_cases hf : Fits (wrap64 (d.length + r)) r
  · have hd' : d = [] := h.elim (fun e => absurd hf e) id
    refine Ev.congr (fun k => by rw [check_fits hf, Option.bind_some, if_pos rfl]) (hj _ ?_)
    rw [beq_iff_eq]
    exact B_empty.2 hd'
  · refine Ev.congr (fun k => by rw [check_no hf, Option.bind_some, if_neg (by decide)]) (hj _ rfl)
theorem fits_wrap {n r : Int} (hn : 0 ≤ n) (hl : n ≤ 140737488351232) : Fits (wrap64 (n + r)) r ↔ Fits (n + r) r := by
  unfold Fits isChecks
  constructor
  · rintro ⟨h1, h2, h3⟩
    have := of_decide_eq_true h1
    rw [wrap_id _ (by omega) (by omega)] at h2 h3
    exact ⟨h1, h2, h3⟩
  · rintro ⟨h1, h2, h3⟩
    have := of_decide_eq_true h1
    rw [wrap_id _ (by omega) (by omega)]
    exact ⟨h1, h2, h3⟩
end Go.Proofs.Ytncoakokdajibaa.Sem
