import Derived.Test.YtncoakokdajibaaMendMendsBase
/- Words over the field, the highest term first: what a word is at a number, how few places can be unlike 0 in one that is 0 at r powers of 2. Plain Lean. -/
namespace Go.Proofs.Ytncoakokdajibaa.Sem
open Go.RowKit Go.Proofs.Ytncoakokdajibaa.Gf
def ss (h : F → F) : Nat → List F → F
  | _, [] => 0
  | o, a :: p => a * h (pow two o) + ss h (o + 1) p
theorem ss_zero (h : F → F) : ∀ (p : List F) (o : Nat), (∀ m, m < p.length → at_ p m * h (pow two (o + m)) = 0) → ss h o p = 0
  | [], _, _ => rfl
  | a :: p, o, hz => by
    have h0 := hz 0 (by simp)
    rw [at_cons_zero, Nat.add_zero] at h0
    rw [ss, h0, zero_add]
    refine ss_zero h p (o + 1) (fun m hm => ?_)
    have := hz (m + 1) (by simpa using hm)
    rwa [at_cons_succ, show o + (m + 1) = o + 1 + m from by omega] at this
theorem ss_single (h : F → F) : ∀ (p : List F) (o j : Nat), j < p.length → (∀ m, m < p.length → m ≠ j → at_ p m * h (pow two (o + m)) = 0) → ss h o p = at_ p j * h (pow two (o + j))
  | [], _, j, hj, _ => absurd hj (Nat.not_lt_zero j)
  | a :: p, o, 0, _, hz => by
    rw [ss, ss_zero h p (o + 1) (fun m hm => by
      have := hz (m + 1) (by simpa using hm) (by omega)
      rwa [at_cons_succ, show o + (m + 1) = o + 1 + m from by omega] at this), add_zero]
    rfl
  | a :: p, o, j + 1, hj, hz => by
    have h0 := hz 0 (by simp) (by omega)
    rw [at_cons_zero, Nat.add_zero] at h0
    rw [ss, h0, zero_add, ss_single h p (o + 1) j (by simpa using hj) (fun m hm hne => by
      have := hz (m + 1) (by simpa using hm) (by omega)
      rwa [at_cons_succ, show o + (m + 1) = o + 1 + m from by omega] at this), at_cons_succ, show o + (j + 1) = o + 1 + j from by omega]
theorem ss_add (h k : F → F) : ∀ (p : List F) (o : Nat), ss (fun x => h x + k x) o p = ss h o p + ss k o p
  | [], _ => (add_zero _).symm
  | a :: p, o => by
    rw [ss, ss, ss, ss_add h k p (o + 1), mul_add]
    ac_rfl
theorem ss_smul (c : F) (h : F → F) : ∀ (p : List F) (o : Nat), ss (fun x => c * h x) o p = c * ss h o p
  | [], _ => (mul_zero _).symm
  | a :: p, o => by
    rw [ss, ss, ss_smul c h p (o + 1), mul_add]
    congr 1
    ac_rfl
theorem ss_congr {h k : F → F} (e : ∀ x, h x = k x) (p : List F) (o : Nat) : ss h o p = ss k o p := by
  have : h = k := funext e
  rw [this]
theorem evp_ss (i : Nat) : ∀ (p : List F) (o : Nat), pow (pow two i) o * evp p (pow two i) = ss (fun x => pow x i) o p
  | [], _ => mul_zero _
  | a :: p, o => by
    rw [ss, ← evp_ss i p (o + 1)]
    show pow (pow two i) o * (a + pow two i * evp p (pow two i)) = a * pow (pow two o) i + pow (pow two i) o * pow two i * evp p (pow two i)
    rw [mul_add, ← pow_mul two o i, ← pow_mul two i o, Nat.mul_comm o i]
    ac_rfl
theorem ss_poly (e : List F) : ∀ (hl : List F) (s : Nat), (∀ i, i < s + hl.length → ss (fun x => pow x i) 0 e = 0) → ss (fun x => pow x s * evp hl x) 0 e = 0
  | [], s, _ => ss_zero _ e 0 (fun m _ => by show _ * (_ * (0 : F)) = 0; rw [mul_zero, mul_zero])
  | a :: p, s, h => by
    have h1 : ss (fun x => a * pow x s + pow x (s + 1) * evp p x) 0 e = 0 := by
      rw [ss_add (fun x => a * pow x s), ss_smul a (fun x => pow x s), h s (by simp), mul_zero, zero_add]
      exact ss_poly e p (s + 1) (fun i hi => h i (by simp only [List.length_cons]; omega))
    rw [← h1]
    refine ss_congr (fun x => ?_) e 0
    show pow x s * (a + x * evp p x) = a * pow x s + pow x s * x * evp p x
    rw [mul_add]
    ac_rfl
def nz (a : F) : Bool := decide (a ≠ 0)
def wt (p : List F) : Nat := p.countP nz
def locs : Nat → List F → List F
  | _, [] => []
  | o, a :: p => if nz a then pow two o :: locs (o + 1) p else locs (o + 1) p
theorem locs_length : ∀ (p : List F) (o : Nat), (locs o p).length = wt p
  | [], _ => rfl
  | a :: p, o => by
    have ih := locs_length p (o + 1)
    unfold wt at ih ⊢
    by_cases h : nz a = true
    · rw [locs, if_pos h, List.length_cons, ih, List.countP_cons_of_pos h]
    · rw [locs, if_neg h, ih, List.countP_cons_of_neg h]
theorem mem_locs : ∀ (p : List F) (o m : Nat), m < p.length → at_ p m ≠ 0 → pow two (o + m) ∈ locs o p
  | [], _, m, hm, _ => absurd hm (Nat.not_lt_zero m)
  | a :: p, o, 0, _, h => by
    have : nz a = true := decide_eq_true h
    rw [locs, if_pos this]
    exact List.mem_cons_self
  | a :: p, o, m + 1, hm, h => by
    have := mem_locs p (o + 1) m (by simpa using hm) h
    rw [show o + 1 + m = o + (m + 1) from by omega] at this
    rw [locs]
    split
    · exact List.mem_cons_of_mem _ this
    · exact this
theorem roots_of (l : List F) : ∀ (x : F), evp (ofRoots l) x = 0 ↔ x ∈ l := by
  have hs : ∀ l : List F, ∀ x, evp (ofRoots l.reverse) x = 0 ↔ x ∈ l.reverse := fun l => by
    induction l with
    | nil => exact fun x => ⟨fun h => by
        have h1 : evp (ofRoots ([] : List F).reverse) x = 1 := by show 1 + x * 0 = _; rw [mul_zero, add_zero]
        exact absurd (h1.symm.trans h) one_ne_zero, fun h => by simp at h⟩
    | cons a l ih =>
      intro x
      have h2 : evp [a, 1] x = a + x := by show a + x * (1 + x * 0) = _; rw [mul_zero, add_zero, mul_one]
      rw [List.reverse_cons, ofRoots_snoc, evp_mulP, h2, List.mem_append, List.mem_singleton]
      constructor
      · intro h
        rcases mul_eq_zero h with h | h
        · exact .inl ((ih x).1 h)
        · exact .inr (eq_of_add_zero h).symm
      · rintro (h | rfl)
        · rw [(ih x).2 h, zero_mul]
        · rw [add_self, mul_zero]
  have := hs l.reverse
  rwa [List.reverse_reverse] at this
theorem light (e : List F) (r : Nat) (hl : e.length ≤ 255) (hz : ∀ i, i < r → evp e (pow two i) = 0) (hw : wt e ≤ r) : ∀ n, at_ e n = 0 := by
  intro n
  by_cases hn : n < e.length
  · refine Decidable.byContradiction (fun hne => ?_)
    have hm := mem_locs e 0 n hn hne
    rw [Nat.zero_add] at hm
    let l := (locs 0 e).filter (fun x => decide (x ≠ pow two n))
    have hlen : l.length < r := by
      refine Nat.lt_of_lt_of_le ?_ (Nat.le_trans (Nat.le_of_eq (locs_length e 0)) hw)
      refine List.length_filter_lt_length_iff_exists.2 ⟨pow two n, hm, ?_⟩
      simp
    have h1 := ss_poly e (ofRoots l) 0 (fun i hi => by
      rw [ofRoots_length] at hi
      rw [← evp_ss i e 0, hz i (by omega), mul_zero])
    have h2 := ss_single (fun x => pow x 0 * evp (ofRoots l) x) e 0 n hn (fun m hm' hmn => by
      by_cases hem : at_ e m = 0
      · rw [hem, zero_mul]
      · have hml : pow two (0 + m) ∈ l := by
          refine List.mem_filter.2 ⟨mem_locs e 0 m hm' hem, ?_⟩
          rw [Nat.zero_add]
          refine decide_eq_true (fun e' => hmn (pow_two_inj (by omega) (by omega) e'))
        rw [(roots_of l _).2 hml, mul_zero, mul_zero])
    rw [h1, Nat.zero_add] at h2
    have h3 := mul_eq_zero h2.symm
    rcases h3 with h3 | h3
    · exact hne h3
    · have h4 : evp (ofRoots l) (pow two n) = 0 := by
        have : pow (pow two n) 0 * evp (ofRoots l) (pow two n) = evp (ofRoots l) (pow two n) := one_mul _
        rwa [this] at h3
      have := (roots_of l _).1 h4
      have := (List.mem_filter.1 this).2
      simp at this
  · exact at_ge e n (by omega)
def wv (w : List F) (x : F) : F := evp w.reverse x
theorem wv_nil (x : F) : wv [] x = 0 := rfl
theorem wv_snoc (w : List F) (a x : F) : wv (w ++ [a]) x = a + x * wv w x := by
  unfold wv
  rw [List.reverse_append]
  rfl
theorem wv_append (u v : List F) (x : F) : wv (u ++ v) x = wv u x * pow x v.length + wv v x := by
  have hs : ∀ v : List F, wv (u ++ v.reverse) x = wv u x * pow x v.reverse.length + wv v.reverse x := fun v => by
    induction v with
    | nil => rw [List.reverse_nil, List.append_nil, wv_nil, add_zero]; exact (mul_one _).symm
    | cons a v ih =>
      rw [List.reverse_cons, ← List.append_assoc, wv_snoc, wv_snoc, ih, List.length_append]
      show a + x * (wv u x * pow x v.reverse.length + wv v.reverse x) = wv u x * (pow x v.reverse.length * x) + (a + x * wv v.reverse x)
      rw [mul_add]
      ac_rfl
  have := hs v.reverse
  rwa [List.reverse_reverse] at this
theorem wv_cons (a : F) (w : List F) (x : F) : wv (a :: w) x = a * pow x w.length + wv w x := by
  have := wv_append [a] w x
  rwa [show wv [a] x = a from by show a + x * 0 = a; rw [mul_zero, add_zero]] at this
theorem wv_zeros (n : Nat) (w : List F) (x : F) : wv (List.replicate n 0 ++ w) x = wv w x := by
  induction n with
  | zero => rfl
  | succ n ih => rw [List.replicate_succ, List.cons_append, wv_cons, zero_mul, zero_add, ih]
def lay (u v : List F) : List F := List.zipWith (· + ·) u v
theorem lay_length {u v : List F} (h : u.length = v.length) : (lay u v).length = u.length := by
  unfold lay; rw [List.length_zipWith, h, Nat.min_self]
theorem wv_lay : ∀ (u v : List F) (x : F), u.length = v.length → wv (lay u v) x = wv u x + wv v x
  | [], [], x, _ => (add_zero _).symm
  | a :: u, b :: v, x, h => by
    have hl : u.length = v.length := by simpa using h
    rw [show lay (a :: u) (b :: v) = (a + b) :: lay u v from rfl, wv_cons, wv_cons, wv_cons, wv_lay u v x hl, lay_length hl, hl, add_mul]
    ac_rfl
theorem at_lay : ∀ (u v : List F) (n : Nat), u.length = v.length → at_ (lay u v) n = at_ u n + at_ v n
  | [], [], n, _ => by rw [at_nil, add_zero]; rfl
  | a :: u, b :: v, 0, _ => rfl
  | a :: u, b :: v, n + 1, h => at_lay u v n (by simpa using h)
theorem lay_append (u v u' v' : List F) (h : u.length = v.length) : lay (u ++ u') (v ++ v') = lay u v ++ lay u' v' := by
  unfold lay; exact List.zipWith_append h
theorem lay_self (u : List F) : lay u u = List.replicate u.length 0 := by
  induction u with
  | nil => rfl
  | cons a u ih => rw [List.length_cons, List.replicate_succ, ← ih]; show (a + a) :: lay u u = _; rw [add_self]
theorem eq_of_lay_zero {u v : List F} (h : u.length = v.length) (k : ∀ n, at_ (lay u v) n = 0) : u = v :=
  ext_at h (fun n _ => eq_of_add_zero (by rw [← at_lay u v n h]; exact k n))
def Code (r : Nat) (w : List F) : Prop := ∀ i, i < r → wv w (pow two i) = 0
theorem Code.lay {r : Nat} {u v : List F} (h : Code r u) (k : Code r v) (hl : u.length = v.length) : Code r (lay u v) := fun i hi => by
  rw [wv_lay u v _ hl, h i hi, k i hi, add_zero]
theorem wt_reverse (p : List F) : wt p.reverse = wt p := List.countP_reverse
theorem wt_append (p q : List F) : wt (p ++ q) = wt p + wt q := List.countP_append
theorem wt_zeros (n : Nat) : wt (List.replicate n 0) = 0 := by
  unfold wt; rw [List.countP_replicate]; rfl
theorem wt_le (p : List F) : wt p ≤ p.length := List.countP_le_length
def dist (u v : List F) : Nat := wt (Sem.lay u v)
theorem code_light {r : Nat} {u v : List F} (hu : Code r u) (hv : Code r v) (hl : u.length = v.length) (h5 : u.length ≤ 255) (hd : dist u v ≤ r) : u = v := by
  refine eq_of_lay_zero hl (fun n => ?_)
  have hc := hu.lay hv hl
  have h1 := light (Sem.lay u v).reverse r (by rw [List.length_reverse, lay_length hl]; exact h5) hc (by rw [wt_reverse]; exact hd)
  by_cases hn : n < (Sem.lay u v).length
  · have h2 := h1 ((Sem.lay u v).length - 1 - n)
    rw [at_lt _ _ (by rw [List.length_reverse]; omega), List.getElem_reverse] at h2
    rw [at_lt _ n hn, ← h2]
    congr 1
    omega
  · exact at_ge _ n (by omega)
theorem checks_unique {r : Nat} {d u v : List F} (hu : Code r (d ++ u)) (hv : Code r (d ++ v)) (hl : u.length = r) (hl' : v.length = r) (h5 : d.length + r ≤ 255) : u = v := by
  have h : d ++ u = d ++ v := code_light hu hv (by simp [hl, hl']) (by simp only [List.length_append]; omega) (by
    unfold dist
    rw [lay_append d d u v rfl, wt_append, lay_self, wt_zeros, Nat.zero_add]
    refine Nat.le_trans (wt_le _) ?_
    rw [lay_length (by omega), hl]
    exact Nat.le_refl _)
  exact List.append_cancel_left h
end Go.Proofs.Ytncoakokdajibaa.Sem
