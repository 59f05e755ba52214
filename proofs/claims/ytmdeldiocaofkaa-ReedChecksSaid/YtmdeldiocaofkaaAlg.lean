/- Polynomials over the field of 256 numbers, as lists, the term without x first: sums, products, what they are at a number. Plain Lean. -/
import Derived.Test.YtmdeldiocaofkaaPoly
namespace Go.Proofs.Ytmdeldiocaofkaa.Sem
open Go.RowKit Go.Proofs.Ytmdeldiocaofkaa.Gf

theorem at_cons_zero (a : F) (p : List F) : at_ (a :: p) 0 = a := rfl
theorem at_cons_succ (a : F) (p : List F) (n : Nat) : at_ (a :: p) (n + 1) = at_ p n := rfl
def addL : List F → List F → List F
  | [], q => q
  | a :: p, [] => a :: p
  | a :: p, b :: q => (a + b) :: addL p q
theorem at_addL (p q : List F) (n : Nat) : at_ (addL p q) n = at_ p n + at_ q n := by
  induction p generalizing q n with
  | nil => rw [addL, at_nil, zero_add]
  | cons a p ih =>
    cases q with
    | nil => rw [addL, at_nil, add_zero]
    | cons b q =>
      cases n with
      | zero => rfl
      | succ n => rw [addL, at_cons_succ, at_cons_succ, at_cons_succ, ih]
theorem addL_length (p q : List F) : (addL p q).length = max p.length q.length := by
  induction p generalizing q with
  | nil => simp [addL]
  | cons a p ih =>
    cases q with
    | nil => simp [addL]
    | cons b q => simp [addL, ih]
def smul (a : F) (p : List F) : List F := p.map (a * ·)
theorem at_smul (a : F) (p : List F) (n : Nat) : at_ (smul a p) n = a * at_ p n := by
  unfold smul at_
  rw [List.getD_eq_getElem?_getD, List.getD_eq_getElem?_getD, List.getElem?_map]
  cases p[n]? with
  | none => exact (mul_zero a).symm
  | some b => rfl
theorem smul_length (a : F) (p : List F) : (smul a p).length = p.length := List.length_map _
def mulL : List F → List F → List F
  | [], _ => []
  | a :: p, q => addL (smul a q) (0 :: mulL p q)
theorem at_mulL_zero (a : F) (p q : List F) : at_ (mulL (a :: p) q) 0 = a * at_ q 0 := by rw [mulL, at_addL, at_smul, at_cons_zero, add_zero]
theorem at_mulL_succ (a : F) (p q : List F) (n : Nat) : at_ (mulL (a :: p) q) (n + 1) = a * at_ q (n + 1) + at_ (mulL p q) n := by rw [mulL, at_addL, at_smul, at_cons_succ]
theorem mulL_length (p q : List F) : (mulL p q).length ≤ p.length + q.length := by
  induction p with
  | nil => simp [mulL]
  | cons a p ih => rw [mulL, addL_length, smul_length]; simp only [List.length_cons]; omega

/-- The same but for noughts at the end. -/
def Sm (p q : List F) : Prop := ∀ n, at_ p n = at_ q n
theorem Sm.refl (p : List F) : Sm p p := fun _ => rfl
theorem Sm.symm {p q : List F} (h : Sm p q) : Sm q p := fun n => (h n).symm
theorem Sm.trans {p q r : List F} (h : Sm p q) (k : Sm q r) : Sm p r := fun n => (h n).trans (k n)
theorem Sm.trim (p : List F) : Sm (trim p) p := trim_at p
theorem Sm.eq_trim {p q : List F} (h : Sm p q) : Sem.trim p = Sem.trim q := trim_ext h
theorem Sm.addL {p p' q q' : List F} (h : Sm p p') (k : Sm q q') : Sm (addL p q) (addL p' q') := fun n => by rw [at_addL, at_addL, h, k]
theorem Sm.smul {p q : List F} (a : F) (h : Sm p q) : Sm (smul a p) (smul a q) := fun n => by rw [at_smul, at_smul, h]
theorem Sm.cons {p q : List F} (a : F) (h : Sm p q) : Sm (a :: p) (a :: q) := fun n => by
  cases n with
  | zero => rfl
  | succ n => exact h n
theorem mulL_right {p q q' : List F} (h : Sm q q') : Sm (mulL p q) (mulL p q') := by
  induction p with
  | nil => exact Sm.refl _
  | cons a p ih => exact (h.smul a).addL (ih.cons 0)
theorem mulL_zero (p q : List F) (h : ∀ n, at_ p n = 0) : ∀ n, at_ (mulL p q) n = 0 := by
  induction p with
  | nil => intro n; exact at_nil n
  | cons a p ih =>
    have ha : a = 0 := h 0
    have hp : ∀ n, at_ p n = 0 := fun n => h (n + 1)
    intro n
    cases n with
    | zero => rw [at_mulL_zero, ha, zero_mul]
    | succ n => rw [at_mulL_succ, ha, zero_mul, zero_add, ih hp]
theorem mulL_left {p p' : List F} (q : List F) (h : Sm p p') : Sm (mulL p q) (mulL p' q) := by
  induction p generalizing p' with
  | nil => exact fun n => by rw [mulL, at_nil, mulL_zero p' q (fun m => (h m).symm.trans (at_nil m))]
  | cons a p ih =>
    cases p' with
    | nil => exact fun n => by rw [mulL_zero (a :: p) q (fun m => (h m).trans (at_nil m)), mulL, at_nil]
    | cons b p' =>
      have ha : a = b := h 0
      subst ha
      exact (Sm.refl _).addL ((ih (fun n => h (n + 1))).cons 0)
theorem mulL_nil (p : List F) : ∀ n, at_ (mulL p []) n = 0 := by
  induction p with
  | nil => intro n; exact at_nil n
  | cons a p ih =>
    intro n
    cases n with
    | zero => rw [at_mulL_zero, at_nil, mul_zero]
    | succ n => rw [at_mulL_succ, at_nil, mul_zero, zero_add, ih]
theorem mulL_cons_right (p : List F) (b : F) (q : List F) : Sm (mulL p (b :: q)) (addL (smul b p) (0 :: mulL p q)) := by
  induction p with
  | nil => intro n; rw [mulL, at_addL, at_smul, at_nil, mul_zero, zero_add]; cases n <;> rfl
  | cons a p ih =>
    intro n
    cases n with
    | zero => rw [at_mulL_zero, at_addL, at_smul, at_cons_zero, at_cons_zero, at_cons_zero, mul_comm, add_zero]
    | succ n =>
      rw [at_mulL_succ, at_cons_succ, ih, at_addL, at_smul, at_addL, at_smul, at_cons_succ, at_cons_succ]
      cases n with
      | zero => rw [at_cons_zero, at_mulL_zero, add_zero]; ac_rfl
      | succ n => rw [at_cons_succ, at_mulL_succ]; ac_rfl
theorem mulL_comm (p q : List F) : Sm (mulL p q) (mulL q p) := by
  induction p with
  | nil => intro n; rw [mulL, at_nil, mulL_nil]
  | cons a p ih => exact fun n => by rw [(mulL_cons_right q a p), mulL, at_addL, at_addL]; exact congrArg _ (ih.cons 0 n)
theorem mulL_addL_left (p q r : List F) : Sm (mulL (addL p q) r) (addL (mulL p r) (mulL q r)) := by
  induction p generalizing q with
  | nil => intro n; rw [addL, mulL, at_addL, at_nil, zero_add]
  | cons a p ih =>
    cases q with
    | nil => intro n; rw [addL, at_addL, show mulL [] r = [] from rfl, at_nil, add_zero]
    | cons b q =>
      intro n
      rw [addL, at_addL]
      cases n with
      | zero => rw [at_mulL_zero, at_mulL_zero, at_mulL_zero, add_mul]
      | succ n => rw [at_mulL_succ, at_mulL_succ, at_mulL_succ, ih, at_addL, add_mul]; ac_rfl
theorem mulL_addL_right (p q r : List F) : Sm (mulL p (addL q r)) (addL (mulL p q) (mulL p r)) := fun n => by
  rw [mulL_comm, mulL_addL_left, at_addL, at_addL, mulL_comm q, mulL_comm r]
theorem mulL_smul_left (a : F) (p q : List F) : Sm (mulL (smul a p) q) (smul a (mulL p q)) := by
  induction p with
  | nil => exact Sm.refl _
  | cons b p ih =>
    intro n
    rw [at_smul]
    cases n with
    | zero => rw [show smul a (b :: p) = (a * b) :: smul a p from rfl, at_mulL_zero, at_mulL_zero, mul_assoc]
    | succ n => rw [show smul a (b :: p) = (a * b) :: smul a p from rfl, at_mulL_succ, at_mulL_succ, ih, at_smul, mul_add, mul_assoc]
theorem mulL_shift (p q : List F) : Sm (mulL (0 :: p) q) (0 :: mulL p q) := fun n => by
  rw [mulL, at_addL, at_smul, zero_mul, zero_add]
theorem mulL_assoc (p q r : List F) : Sm (mulL (mulL p q) r) (mulL p (mulL q r)) := by
  induction p with
  | nil => exact Sm.refl _
  | cons a p ih =>
    intro n
    rw [mulL, mulL_addL_left, at_addL, mulL_smul_left, mulL_shift, mulL, at_addL]
    exact congrArg _ (ih.cons 0 n)
theorem mulL_snoc (p : List F) (a : F) (q : List F) : ∀ n, at_ (mulL (p ++ [a]) q) n = at_ (mulL p q) n + if p.length ≤ n then a * at_ q (n - p.length) else 0 := by
  induction p with
  | nil =>
    intro n
    rw [List.nil_append, show mulL [] q = [] from rfl, at_nil, zero_add, List.length_nil, if_pos (Nat.zero_le _)]
    cases n with
    | zero => exact at_mulL_zero _ _ _
    | succ n => rw [at_mulL_succ, show mulL [] q = [] from rfl, at_nil, add_zero]; rfl
  | cons b p ih =>
    intro n
    rw [List.cons_append, List.length_cons]
    cases n with
    | zero => rw [at_mulL_zero, at_mulL_zero, if_neg (by omega), add_zero]
    | succ n =>
      rw [at_mulL_succ, at_mulL_succ, ih, add_assoc]
      congr 2
      by_cases h : p.length ≤ n
      · rw [if_pos h, if_pos (by omega)]; congr 2; omega
      · rw [if_neg h, if_neg (by omega)]
theorem mulL_one_left (p : List F) : Sm (mulL [1] p) p := fun n => by
  rw [mulL, at_addL, at_smul, one_mul, show mulL [] p = [] from rfl]
  have : at_ ([0] : List F) n = 0 := by cases n <;> rfl
  rw [this, add_zero]

/-- What it is at a number. -/
def evp : List F → F → F
  | [], _ => 0
  | a :: p, x => a + x * evp p x
theorem evp_zero (p : List F) (x : F) (h : ∀ n, at_ p n = 0) : evp p x = 0 := by
  induction p with
  | nil => rfl
  | cons a p ih => rw [evp, ih (fun n => h (n + 1)), mul_zero, add_zero]; exact h 0
theorem evp_congr {p q : List F} (h : Sm p q) (x : F) : evp p x = evp q x := by
  induction p generalizing q with
  | nil => rw [evp_zero q x (fun n => (h n).symm.trans (at_nil n))]; rfl
  | cons a p ih =>
    cases q with
    | nil => rw [evp_zero (a :: p) x (fun n => (h n).trans (at_nil n))]; rfl
    | cons b q =>
      have : a = b := h 0
      rw [evp, evp, this, ih (fun n => h (n + 1))]
theorem evp_addL (p q : List F) (x : F) : evp (addL p q) x = evp p x + evp q x := by
  induction p generalizing q with
  | nil => rw [addL, evp, zero_add]
  | cons a p ih =>
    cases q with
    | nil => rw [addL, show evp [] x = 0 from rfl, add_zero]
    | cons b q => rw [addL, evp, evp, evp, ih, mul_add]; ac_rfl
theorem evp_smul (a : F) (p : List F) (x : F) : evp (smul a p) x = a * evp p x := by
  induction p with
  | nil => exact (mul_zero a).symm
  | cons b p ih => rw [show smul a (b :: p) = (a * b) :: smul a p from rfl, evp, evp, ih, mul_add]; ac_rfl
theorem evp_mulL (p q : List F) (x : F) : evp (mulL p q) x = evp p x * evp q x := by
  induction p with
  | nil => exact (zero_mul _).symm
  | cons a p ih => rw [mulL, evp_addL, evp_smul, evp, evp, ih, zero_add, add_mul, mul_assoc]
theorem evp_trim (p : List F) (x : F) : evp (trim p) x = evp p x := evp_congr (Sm.trim p) x

/-- Products as the program has them: without noughts at the end. -/
def mulP (p q : List F) : List F := trim (mulL p q)
def addP (p q : List F) : List F := trim (addL p q)
theorem mulP_sm (p q : List F) : Sm (mulP p q) (mulL p q) := Sm.trim _
theorem evp_mulP (p q : List F) (x : F) : evp (mulP p q) x = evp p x * evp q x := by rw [mulP, evp_trim, evp_mulL]

/-- The highest term of a product. -/
theorem at_mulL_top (p q : List F) (hp : p ≠ []) (hq : q ≠ []) : at_ (mulL p q) (p.length - 1 + (q.length - 1)) = at_ p (p.length - 1) * at_ q (q.length - 1) := by
  induction p with
  | nil => exact absurd rfl hp
  | cons a p ih =>
    cases p with
    | nil =>
      rw [List.length_singleton, Nat.sub_self, Nat.zero_add, mulL, at_addL, at_smul, show mulL [] q = [] from rfl]
      have : at_ ([0] : List F) (q.length - 1) = 0 := by cases q.length - 1 <;> rfl
      rw [this, add_zero]; rfl
    | cons b p =>
      have hq1 : 0 < q.length := List.length_pos_iff.2 hq
      have e1 : (a :: b :: p).length - 1 + (q.length - 1) = ((b :: p).length - 1 + (q.length - 1)) + 1 := by simp only [List.length_cons]; omega
      rw [e1, at_mulL_succ, ih (by simp), at_ge q _ (by simp only [List.length_cons]; omega), mul_zero, zero_add]
      rfl
theorem isPoly_ne {p : List F} (h : IsPoly p) (hn : p ≠ []) : at_ p (p.length - 1) ≠ 0 := h.elim (fun e => absurd e hn) id
theorem length_of_top {p : List F} (h : IsPoly p) (n : Nat) (h1 : at_ p n ≠ 0) (h2 : ∀ m, n < m → at_ p m = 0) : p.length = n + 1 := by
  have h3 : n < p.length := Nat.lt_of_not_le (fun e => h1 (at_ge p n e))
  rcases h with rfl | h
  · simp at h3
  · by_cases e : p.length = n + 1
    · exact e
    · exact absurd (h2 (p.length - 1) (by omega)) h
theorem mulP_length {p q : List F} (hp : IsPoly p) (hq : IsPoly q) (h1 : p ≠ []) (h2 : q ≠ []) : (mulP p q).length = p.length + q.length - 1 := by
  have l1 : 0 < p.length := List.length_pos_iff.2 h1
  have l2 : 0 < q.length := List.length_pos_iff.2 h2
  have := length_of_top (trim_isPoly (mulL p q)) (p.length - 1 + (q.length - 1)) (by rw [trim_at, at_mulL_top p q h1 h2]; exact mul_ne_zero (isPoly_ne hp h1) (isPoly_ne hq h2)) ?_
  · unfold mulP; omega
  · intro m hm
    rw [trim_at]
    by_cases e : (mulL p q).length ≤ m
    · exact at_ge _ _ e
    · have hl := mulL_length p q
      have : m = p.length + q.length - 1 := by omega
      subst this
      clear hl e hm hp hq
      induction p with
      | nil => exact absurd rfl h1
      | cons a p ih =>
        cases p with
        | nil =>
          rw [mulL, at_addL, at_smul, show mulL [] q = [] from rfl, at_ge q _ (by simp), mul_zero, zero_add]
          cases h : ([a] : List F).length + q.length - 1 with
          | zero => rw [List.length_singleton] at h; omega
          | succ n => rw [at_cons_succ, at_nil]
        | cons b p =>
          have e1 : (a :: b :: p).length + q.length - 1 = ((b :: p).length + q.length - 1) + 1 := by simp only [List.length_cons]; omega
          rw [e1, at_mulL_succ, ih (by simp) (by simp), at_ge q _ (by simp only [List.length_cons]; omega), mul_zero, zero_add]
theorem mulP_ne_nil {p q : List F} (hp : IsPoly p) (hq : IsPoly q) (h1 : p ≠ []) (h2 : q ≠ []) : mulP p q ≠ [] := by
  have := mulP_length hp hq h1 h2
  have l1 : 0 < p.length := List.length_pos_iff.2 h1
  have l2 : 0 < q.length := List.length_pos_iff.2 h2
  intro e
  rw [e] at this
  simp at this
  omega
theorem mulP_congr {p p' q q' : List F} (h : Sm p p') (k : Sm q q') : mulP p q = mulP p' q' := ((mulL_left q h).trans (mulL_right k)).eq_trim
theorem mulP_comm (p q : List F) : mulP p q = mulP q p := (mulL_comm p q).eq_trim
theorem mulP_assoc (p q r : List F) : mulP (mulP p q) r = mulP p (mulP q r) :=
  (((mulL_left r (mulP_sm p q)).trans (mulL_assoc p q r)).trans (mulL_right (mulP_sm q r)).symm).eq_trim

/-- The polynomial with these roots. -/
def ofRoots (l : List F) : List F := l.foldl (fun p r => mulP p [r, 1]) [1]
theorem ofRoots_snoc (l : List F) (r : F) : ofRoots (l ++ [r]) = mulP (ofRoots l) [r, 1] := by unfold ofRoots; rw [List.foldl_append]; rfl
theorem lin_isPoly (r : F) : IsPoly [r, 1] := .inr one_ne_zero
theorem ofRoots_isPoly (l : List F) : IsPoly (ofRoots l) := by
  rcases List.eq_nil_or_concat l with rfl | ⟨l, r, rfl⟩
  · exact .inr one_ne_zero
  · rw [List.concat_eq_append, ofRoots_snoc]; exact trim_isPoly _
theorem ofRoots_length (l : List F) : (ofRoots l).length = l.length + 1 := by
  induction hn : l.length generalizing l with
  | zero => rw [List.eq_nil_of_length_eq_zero hn]; rfl
  | succ n ih =>
    rcases List.eq_nil_or_concat l with rfl | ⟨l, r, rfl⟩
    · simp at hn
    · rw [List.concat_eq_append] at hn ⊢
      have hl : l.length = n := by simpa using hn
      have := ih l hl
      rw [ofRoots_snoc, mulP_length (ofRoots_isPoly l) (lin_isPoly r) (by intro e; rw [e] at this; simp at this) (by simp), this]
      rfl
theorem evp_ofRoots (l : List F) (x : F) : evp (ofRoots l) x = (l.map (· + x)).foldl (· * ·) 1 := by
  induction hn : l.length generalizing l with
  | zero => rw [List.eq_nil_of_length_eq_zero hn]; show 1 + x * 0 = 1; rw [mul_zero, add_zero]
  | succ n ih =>
    rcases List.eq_nil_or_concat l with rfl | ⟨l, r, rfl⟩
    · simp at hn
    · rw [List.concat_eq_append] at hn ⊢
      have hl : l.length = n := by simpa using hn
      rw [ofRoots_snoc, evp_mulP, ih l hl, List.map_append, List.foldl_append]
      show _ * (r + x * (1 + x * 0)) = _ * (r + x)
      rw [mul_zero, add_zero, mul_one]
theorem ofRoots_top (l : List F) : at_ (ofRoots l) l.length = 1 := by
  induction hn : l.length generalizing l with
  | zero => rw [List.eq_nil_of_length_eq_zero hn]; rfl
  | succ n ih =>
    rcases List.eq_nil_or_concat l with rfl | ⟨l, r, rfl⟩
    · simp at hn
    · rw [List.concat_eq_append] at hn ⊢
      have hl : l.length = n := by simpa using hn
      have hln := ofRoots_length l
      have h2 := at_mulL_top (ofRoots l) [r, 1] (by intro e; rw [e] at hln; simp at hln) (by simp)
      rw [hln, hl] at h2
      rw [ofRoots_snoc, mulP, trim_at]
      have e : n + 1 = n + 1 - 1 + (([r, 1] : List F).length - 1) := by simp
      rw [e, h2, Nat.add_sub_cancel, ih l hl]
      exact mul_one _
end Go.Proofs.Ytmdeldiocaofkaa.Sem
