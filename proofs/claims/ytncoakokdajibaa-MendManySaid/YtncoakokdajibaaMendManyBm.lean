import Derived.Test.YtncoakokdajibaaMendManyBase
/- Which places are wrong, out of the syndromes: Massey's way, and what stood there: Forney's. Plain Lean over the field. -/
namespace Go.Proofs.Ytncoakokdajibaa.Sem
open Go.RowKit Go.Proofs.Ytncoakokdajibaa.Gf
def sm (f : Nat → F) : Nat → F
  | 0 => 0
  | m + 1 => sm f m + f m
theorem sm_congr {f g : Nat → F} : ∀ m, (∀ k, k < m → f k = g k) → sm f m = sm g m
  | 0, _ => rfl
  | m + 1, h => by rw [sm, sm, sm_congr m (fun k hk => h k (by omega)), h m (by omega)]
theorem sm_zero {f : Nat → F} : ∀ m, (∀ k, k < m → f k = 0) → sm f m = 0
  | 0, _ => rfl
  | m + 1, h => by rw [sm, sm_zero m (fun k hk => h k (by omega)), h m (by omega), add_zero]
theorem sm_tail {f : Nat → F} (m : Nat) : ∀ e, (∀ k, m ≤ k → k < m + e → f k = 0) → sm f (m + e) = sm f m
  | 0, _ => rfl
  | e + 1, h => by rw [← Nat.add_assoc, sm, sm_tail m e (fun k h1 h2 => h k h1 (by omega)), h (m + e) (by omega) (by omega), add_zero]
theorem sm_add (f g : Nat → F) : ∀ m, sm (fun k => f k + g k) m = sm f m + sm g m
  | 0 => (add_zero 0).symm
  | m + 1 => by rw [sm, sm, sm, sm_add f g m]; ac_rfl
theorem sm_mul (c : F) (f : Nat → F) : ∀ m, sm (fun k => c * f k) m = c * sm f m
  | 0 => (mul_zero c).symm
  | m + 1 => by rw [sm, sm, sm_mul c f m, mul_add]
theorem sm_head (f : Nat → F) : ∀ m, sm f (m + 1) = f 0 + sm (fun k => f (k + 1)) m
  | 0 => by rw [sm, sm, sm, zero_add, add_zero]
  | m + 1 => by rw [sm, sm_head f m, sm, add_assoc]
theorem sm_one (f : Nat → F) (j m : Nat) (hj : j < m) (h : ∀ k, k < m → k ≠ j → f k = 0) : sm f m = f j := by
  rw [show m = (j + 1) + (m - (j + 1)) by omega, sm_tail _ _ (fun k h1 h2 => h k (by omega) (by omega)), sm, sm_zero j (fun k hk => h k (by omega) (by omega)), zero_add]
theorem evp_sm (y : F) : ∀ (p : List F) (m : Nat), (∀ k, m ≤ k → at_ p k = 0) → evp p y = sm (fun k => at_ p k * pow y k) m
  | [], m, _ => (sm_zero m (fun k _ => by rw [at_nil, zero_mul])).symm
  | a :: p, 0, h => evp_zero (a :: p) y (fun n => h n (Nat.zero_le n))
  | a :: p, m + 1, h => by
    rw [sm_head, evp, evp_sm y p m (fun k hk => h (k + 1) (by omega)), ← sm_mul, at_cons_zero, show pow y 0 = 1 from rfl, mul_one]
    congr 1
    refine sm_congr m (fun k _ => ?_)
    rw [at_cons_succ, show pow y (k + 1) = pow y k * y from rfl]
    ac_rfl
def es (g : F → F) : List (F × F) → F
  | [] => 0
  | (e, x) :: E => e * g x + es g E
theorem es_congr {g h : F → F} : ∀ E : List (F × F), (∀ q ∈ E, g q.2 = h q.2) → es g E = es h E
  | [], _ => rfl
  | (e, x) :: E, H => by
    have h1 := H (e, x) (List.mem_cons_self ..)
    rw [es, es, es_congr E (fun q hq => H q (List.mem_cons_of_mem _ hq))]
    rw [show g x = h x from h1]
theorem es_zero {g : F → F} : ∀ E : List (F × F), (∀ q ∈ E, q.1 * g q.2 = 0) → es g E = 0
  | [], _ => rfl
  | (e, x) :: E, H => by
    have h1 := H (e, x) (List.mem_cons_self ..)
    rw [es, es_zero E (fun q hq => H q (List.mem_cons_of_mem _ hq)), add_zero]
    exact h1
theorem es_add (g h : F → F) : ∀ E, es (fun x => g x + h x) E = es g E + es h E
  | [] => (add_zero 0).symm
  | (e, x) :: E => by rw [es, es, es, es_add g h E, mul_add]; ac_rfl
theorem es_mul (c : F) (g : F → F) : ∀ E, es (fun x => c * g x) E = c * es g E
  | [] => (mul_zero c).symm
  | (e, x) :: E => by rw [es, es, es_mul c g E, mul_add]; congr 1; ac_rfl
theorem es_sm (g : Nat → F → F) (E : List (F × F)) : ∀ m, sm (fun k => es (g k) E) m = es (fun x => sm (fun k => g k x) m) E
  | 0 => by rw [sm, es_zero E (fun q _ => by rw [sm, mul_zero])]
  | m + 1 => by
    rw [sm, es_sm g E m, ← es_add]
    exact es_congr E (fun q _ => by rw [sm])
theorem es_append (g : F → F) (D E : List (F × F)) : es g (D ++ E) = es g D + es g E := by
  induction D with
  | nil => exact (zero_add _).symm
  | cons q D ih => rw [List.cons_append, es, es, ih, add_assoc]
theorem es_one {g : F → F} : ∀ (E : List (F × F)), (E.map Prod.snd).Nodup → ∀ q ∈ E, (∀ u ∈ E, u.2 ≠ q.2 → u.1 * g u.2 = 0) → es g E = q.1 * g q.2
  | [], _, q, hq, _ => by cases hq
  | (e, x) :: E, hn, q, hq, H => by
    rw [List.map_cons, List.nodup_cons] at hn
    rcases List.mem_cons.1 hq with rfl | hq
    · rw [es, es_zero E (fun u hu => H u (List.mem_cons_of_mem _ hu) (fun h => hn.1 (h ▸ List.mem_map_of_mem hu))), add_zero]
    · have h1 := H (e, x) (List.mem_cons_self ..) (fun h => hn.1 (by dsimp only at h; rw [h]; exact List.mem_map.2 ⟨q, hq, rfl⟩))
      rw [es, es_one E hn.2 q hq (fun u hu => H u (List.mem_cons_of_mem _ hu)), h1, zero_add]
theorem pow_inv (x : F) (hx : x ≠ 0) : ∀ n k, k ≤ n → pow x n * pow (inv x) k = pow x (n - k)
  | n, 0, _ => by rw [show pow (inv x) 0 = 1 from rfl, mul_one]; rfl
  | n, k + 1, h => by
    rw [show pow (inv x) (k + 1) = pow (inv x) k * inv x from rfl, ← mul_assoc, pow_inv x hx n k (by omega), show n - k = (n - (k + 1)) + 1 by omega, show pow x (n - (k + 1) + 1) = pow x (n - (k + 1)) * x from rfl, mul_assoc, mul_inv x hx, mul_one]
theorem disc (E : List (F × F)) (h : F → F) (hx : ∀ q ∈ E, q.2 ≠ 0) (p : List F) (n m : Nat) (hm : m ≤ n + 1) (hp : ∀ k, m ≤ k → at_ p k = 0) : sm (fun k => at_ p k * es (fun x => pow x (n - k) * h x) E) m = es (fun x => pow x n * h x * evp p (inv x)) E := by
  rw [sm_congr m (g := fun k => es (fun x => at_ p k * (pow x (n - k) * h x)) E) (fun k _ => (es_mul _ _ E).symm), es_sm]
  refine es_congr E (fun q hq => ?_)
  rw [evp_sm (inv q.2) p m hp, ← sm_mul]
  refine sm_congr m (fun k hk => ?_)
  rw [← pow_inv q.2 (hx q hq) n k (by omega)]
  ac_rfl
def hq (y : F) : List F → List F
  | [] => []
  | [_] => []
  | _ :: b :: p => evp (b :: p) y :: hq y (b :: p)
theorem hq_length (y : F) : ∀ p : List F, (hq y p).length = p.length - 1
  | [] => rfl
  | [_] => rfl
  | _ :: b :: p => by rw [hq, List.length_cons, hq_length y (b :: p)]; simp only [List.length_cons]; omega
theorem lin_zero (p : List F) (r : F) : at_ (mulL p [r, 1]) 0 = r * at_ p 0 := by
  rw [mulL_comm, at_mulL_zero]
theorem lin_succ (p : List F) (r : F) (n : Nat) : at_ (mulL p [r, 1]) (n + 1) = r * at_ p (n + 1) + at_ p n := by
  rw [mulL_comm, at_mulL_succ, mulL_one_left]
theorem hq_at (y : F) : ∀ (p : List F), at_ p 0 = y * at_ (hq y p) 0 + evp p y ∧ ∀ n, at_ p (n + 1) = y * at_ (hq y p) (n + 1) + at_ (hq y p) n
  | [] => ⟨by rw [hq, at_nil, mul_zero, evp, add_zero], fun n => by rw [hq]; simp only [at_nil, mul_zero, add_zero]⟩
  | [a] => ⟨by rw [hq, at_nil, mul_zero, evp, evp, mul_zero, add_zero, zero_add]; rfl, fun n => by rw [hq, at_cons_succ]; simp only [at_nil, mul_zero, add_zero]⟩
  | a :: b :: p => by
    obtain ⟨h0, h1⟩ := hq_at y (b :: p)
    refine ⟨?_, fun n => ?_⟩
    · rw [hq, at_cons_zero, at_cons_zero, show evp (a :: b :: p) y = a + y * evp (b :: p) y from rfl, add_comm a, add_cancel]
    · rw [hq, at_cons_succ, at_cons_succ]
      cases n with
      | zero => rw [at_cons_zero]; exact h0
      | succ n => rw [at_cons_succ]; exact h1 n
theorem hq_mul {y : F} {p : List F} (h : evp p y = 0) : Sm p (mulL (hq y p) [y, 1]) := fun n => by
  obtain ⟨h0, h1⟩ := hq_at y p
  cases n with
  | zero => rw [lin_zero, h0, h, add_zero]
  | succ n => rw [lin_succ, h1]
theorem evp_l (r x : F) : evp [r, 1] x = r + x := by show r + x * (1 + x * 0) = _; rw [mul_zero, add_zero, mul_one]
theorem roots_few (rs : List F) : ∀ p : List F, rs.Nodup → p.length ≤ rs.length → (∀ r, r ∈ rs → evp p r = 0) → ∀ n, at_ p n = 0 := by
  induction rs with
  | nil =>
    intro p _ hl _ n
    exact at_ge p n (by simp at hl; simp [hl])
  | cons r rs ih =>
    intro p hn hl h n
    have hpq := hq_mul (h r (List.mem_cons_self ..))
    have hnr := List.nodup_cons.1 hn
    have hq0 : ∀ n, at_ (hq r p) n = 0 := ih (hq r p) hnr.2 (by rw [hq_length]; rw [List.length_cons] at hl; omega) (fun s hs => by
      have hs0 := h s (List.mem_cons_of_mem _ hs)
      rw [evp_congr hpq, evp_mulL, evp_l] at hs0
      rcases mul_eq_zero hs0 with h | h
      · exact h
      · exact absurd (eq_of_add_zero h ▸ hs) hnr.1)
    rw [hpq n]
    exact mulL_zero _ _ hq0 n
def loc : List F → List F
  | [] => [1]
  | x :: l => mulL (loc l) [1, x]
theorem at_mul2 (p : List F) (a x : F) : at_ (mulL p [a, x]) 0 = a * at_ p 0 ∧ ∀ n, at_ (mulL p [a, x]) (n + 1) = a * at_ p (n + 1) + x * at_ p n := by
  refine ⟨by rw [mulL_comm, at_mulL_zero], fun n => ?_⟩
  rw [mulL_comm, at_mulL_succ]
  congr 1
  rw [mulL, at_addL, at_smul, show mulL [] p = [] from rfl]
  have : at_ ([0] : List F) n = 0 := by cases n <;> rfl
  rw [this, add_zero]
theorem loc_zero : ∀ l : List F, at_ (loc l) 0 = 1
  | [] => rfl
  | x :: l => by rw [loc, (at_mul2 _ _ _).1, loc_zero l, one_mul]
theorem loc_top : ∀ (l : List F) (k : Nat), l.length < k → at_ (loc l) k = 0
  | [], k, h => by
    cases k with
    | zero => cases h
    | succ k => rw [loc, at_cons_succ, at_nil]
  | x :: l, k, h => by
    cases k with
    | zero => cases h
    | succ k =>
      rw [List.length_cons] at h
      rw [loc, (at_mul2 _ _ _).2, loc_top l (k + 1) (by omega), loc_top l k (by omega), mul_zero, mul_zero, add_zero]
theorem evp_two (a x y : F) : evp [a, x] y = a + x * y := by show a + y * (x + y * 0) = _; rw [mul_zero, add_zero, mul_comm y x]
theorem loc_root : ∀ (l : List F), (∀ x ∈ l, x ≠ 0) → ∀ z, z ≠ 0 → (evp (loc l) (inv z) = 0 ↔ z ∈ l)
  | [], _, z, _ => ⟨fun h => absurd (by rw [loc, evp, evp, mul_zero, add_zero] at h; exact h) one_ne_zero, fun h => by cases h⟩
  | x :: l, hl, z, hz => by
    have ih := loc_root l (fun y hy => hl y (List.mem_cons_of_mem _ hy)) z hz
    rw [loc, evp_mulL, evp_two, List.mem_cons]
    constructor
    · intro h
      rcases mul_eq_zero h with h | h
      · exact Or.inr (ih.1 h)
      · refine Or.inl ?_
        have h2 : 1 = x * inv z := eq_of_add_zero h
        exact mul_right_cancel (inv_ne_zero hz) ((mul_inv z hz).trans h2)
    · rintro (rfl | h)
      · rw [mul_inv z hz, add_self, mul_zero]
      · rw [ih.2 h, zero_mul]
theorem powers_free (E : List (F × F)) (h : F → F) (hx : ∀ q ∈ E, q.2 ≠ 0) (hn : (E.map Prod.snd).Nodup) (s : Nat) (hz : ∀ m, s ≤ m → m < s + E.length → es (fun x => pow x m * h x) E = 0) : ∀ q ∈ E, q.1 * h q.2 = 0 := fun q hq => by
  have hlen : 0 < E.length := List.length_pos_of_mem hq
  let l := (E.map Prod.snd).erase q.2
  have hmem : q.2 ∈ E.map Prod.snd := List.mem_map_of_mem hq
  have hll : l.length = E.length - 1 := by
    show ((E.map Prod.snd).erase q.2).length = _
    rw [List.length_erase_of_mem hmem, List.length_map]
  have hl0 : ∀ x ∈ l, x ≠ 0 := fun x hx' => by
    obtain ⟨u, hu, rfl⟩ := List.mem_map.1 (List.mem_of_mem_erase hx')
    exact hx u hu
  have hd := disc E h hx (loc l) (s + E.length - 1) E.length (by omega) (fun k hk => loc_top l k (by omega))
  rw [sm_zero E.length (fun k hk => by rw [hz (s + E.length - 1 - k) (by omega) (by omega), mul_zero])] at hd
  rw [es_one (g := fun x => pow x (s + E.length - 1) * h x * evp (loc l) (inv x)) E hn q hq (fun u hu hne => by
    rw [(loc_root l hl0 u.2 (hx u hu)).2 ((hn.mem_erase_iff).2 ⟨hne, List.mem_map_of_mem hu⟩), mul_zero, mul_zero])] at hd
  have hne : evp (loc l) (inv q.2) ≠ 0 := fun e => (hn.mem_erase_iff.1 ((loc_root l hl0 q.2 (hx q hq)).1 e)).1 rfl
  have h3 : (q.1 * h q.2) * (pow q.2 (s + E.length - 1) * evp (loc l) (inv q.2)) = 0 := by rw [hd]; ac_rfl
  exact (mul_eq_zero h3).resolve_right (mul_ne_zero (pow_ne_zero (hx q hq) _) hne)
theorem evp_zpow (y : F) (p : List F) : ∀ g : Nat, evp (List.replicate g 0 ++ p) y = pow y g * evp p y
  | 0 => (one_mul _).symm
  | g + 1 => by
    rw [List.replicate_succ, List.cons_append, evp, evp_zpow y p g, zero_add, show pow y (g + 1) = pow y g * y from rfl]
    ac_rfl
theorem at_zpow (p : List F) (g k : Nat) : at_ (List.replicate g 0 ++ p) k = if k < g then 0 else at_ p (k - g) := by
  rw [at_append, List.length_replicate]
  split
  · exact at_replicate g k
  · rfl
structure Bm where
  now : List F
  old : List F
  l : Nat
  gap : Nat
  last : F
structure Inv (A W : List (F × F)) (n : Nat) (s : Bm) : Prop where
  one : at_ s.now 0 = 1
  deg : ∀ k, s.l < k → at_ s.now k = 0
  lost : ∀ q ∈ A, evp s.now (inv q.2) = 0
  lost' : ∀ q ∈ A, evp s.old (inv q.2) = 0
  fl : A.length ≤ s.l
  ln : s.l ≤ n
  lv : s.l ≤ A.length + W.length
  gen : ∀ m, s.l ≤ m → m < n → es (fun x => pow x m * evp s.now (inv x)) (A ++ W) = 0
  gap1 : 1 ≤ s.gap
  last0 : s.last ≠ 0
  prev : ∃ l0 N0, A.length ≤ l0 ∧ N0 + s.gap = n + 1 ∧ s.l + l0 = N0 + A.length ∧ (∀ k, l0 < k → at_ s.old k = 0) ∧ (∀ m, l0 ≤ m → m + 1 < N0 → es (fun x => pow x m * evp s.old (inv x)) (A ++ W) = 0) ∧ (∀ m, l0 ≤ m → m + 1 = N0 → es (fun x => pow x m * evp s.old (inv x)) (A ++ W) = s.last)
theorem lost_none {A W : List (F × F)} {p : List F} (h : ∀ q ∈ A, evp p (inv q.2) = 0) (m : Nat) : es (fun x => pow x m * evp p (inv x)) (A ++ W) = es (fun x => pow x m * evp p (inv x)) W := by
  rw [es_append, es_zero A (fun q hq => by rw [h q hq, mul_zero, mul_zero]), zero_add]
theorem massey {A W : List (F × F)} (hx : ∀ q ∈ W, q.2 ≠ 0) {p : List F} {l n : Nat} (hl : ∀ q ∈ A, evp p (inv q.2) = 0) (gen : ∀ m, l ≤ m → m < n → es (fun x => pow x m * evp p (inv x)) (A ++ W) = 0) (hd : es (fun x => pow x n * evp p (inv x)) (A ++ W) ≠ 0) : n + 1 ≤ l + W.length := by
  refine Decidable.byContradiction (fun hc => hd ?_)
  have h0 : ∀ x ∈ W.map Prod.snd, x ≠ 0 := fun x h => by
    obtain ⟨u, hu, rfl⟩ := List.mem_map.1 h
    exact hx u hu
  have h1 := disc W (fun x => evp p (inv x)) hx (loc (W.map Prod.snd)) n (W.length + 1) (by omega) (fun k hk => loc_top _ k (by rw [List.length_map]; omega))
  rw [es_zero W (fun q hq => by rw [(loc_root _ h0 q.2 (hx q hq)).2 (List.mem_map_of_mem hq), mul_zero, mul_zero]), sm_one _ 0 _ (by omega) (fun k hk hne => by
    have h2 := gen (n - k) (by omega) (by omega)
    rw [lost_none hl] at h2
    rw [h2, mul_zero]), loc_zero, one_mul] at h1
  rw [lost_none hl]
  exact h1
theorem next_es {E : List (F × F)} (hx : ∀ q ∈ E, q.2 ≠ 0) {now old next : List F} {c : F} {g : Nat} (hn : ∀ k, at_ next k = at_ now k + c * at_ (List.replicate g 0 ++ old) k) (m : Nat) (hm : g ≤ m) :
    es (fun x => pow x m * evp next (inv x)) E = es (fun x => pow x m * evp now (inv x)) E + c * es (fun x => pow x (m - g) * evp old (inv x)) E := by
  rw [← es_mul, ← es_add]
  refine es_congr E (fun q hq => ?_)
  have h1 : evp next (inv q.2) = evp now (inv q.2) + c * (pow (inv q.2) g * evp old (inv q.2)) := by
    rw [← evp_zpow, ← evp_smul, ← evp_addL]
    exact evp_congr (fun k => by rw [hn, at_addL, at_smul]) _
  show pow q.2 m * evp next (inv q.2) = pow q.2 m * evp now (inv q.2) + c * (pow q.2 (m - g) * evp old (inv q.2))
  rw [h1, mul_add, ← pow_inv q.2 (hx q hq) m g hm]
  congr 1
  ac_rfl
theorem next_lost {now old next : List F} {c : F} {g : Nat} (hn : ∀ k, at_ next k = at_ now k + c * at_ (List.replicate g 0 ++ old) k) {y : F} (h1 : evp now y = 0) (h2 : evp old y = 0) : evp next y = 0 := by
  have : evp next y = evp now y + c * (pow y g * evp old y) := by
    rw [← evp_zpow, ← evp_smul, ← evp_addL]
    exact evp_congr (fun k => by rw [hn, at_addL, at_smul]) _
  rw [this, h1, h2, mul_zero, mul_zero, add_zero]
theorem Inv.disc {A W : List (F × F)} {n : Nat} {s : Bm} (h : Inv A W n s) (hx : ∀ q ∈ A ++ W, q.2 ≠ 0) : sm (fun k => at_ s.now k * es (fun x => pow x (n - k)) (A ++ W)) (s.l + 1) = es (fun x => pow x n * evp s.now (inv x)) (A ++ W) := by
  have h1 := Sem.disc (A ++ W) (fun _ => 1) hx s.now n (s.l + 1) (by have := h.ln; omega) (fun k hk => h.deg k (by omega))
  have e1 : (fun k => at_ s.now k * es (fun x => pow x (n - k)) (A ++ W)) = fun k => at_ s.now k * es (fun x => pow x (n - k) * 1) (A ++ W) := funext fun k => by
    congr 2
    exact funext fun x => (mul_one _).symm
  rw [e1, h1]
  refine es_congr _ (fun q _ => ?_)
  show pow q.2 n * 1 * evp s.now (inv q.2) = _
  rw [mul_one]
theorem Inv.start {A W : List (F × F)} {p : List F} (h0 : at_ p 0 = 1) (h1 : ∀ k, A.length < k → at_ p k = 0) (h2 : ∀ q ∈ A, evp p (inv q.2) = 0) : Inv A W A.length ⟨p, p, A.length, 1, 1⟩ where
  one := h0
  deg := h1
  lost := h2
  lost' := h2
  fl := Nat.le_refl _
  ln := Nat.le_refl _
  lv := Nat.le_add_right _ _
  gen := fun m h3 h4 => absurd h4 (Nat.not_lt.2 h3)
  gap1 := Nat.le_refl _
  last0 := one_ne_zero
  prev := ⟨A.length, A.length, Nat.le_refl _, rfl, rfl, h1, fun m h3 h4 => by omega, fun m h3 h4 => by omega⟩
theorem Inv.same {A W : List (F × F)} {n : Nat} {s : Bm} (h : Inv A W n s) (hd : es (fun x => pow x n * evp s.now (inv x)) (A ++ W) = 0) : Inv A W (n + 1) { s with gap := s.gap + 1 } where
  one := h.one
  deg := h.deg
  lost := h.lost
  lost' := h.lost'
  fl := h.fl
  ln := Nat.le_succ_of_le h.ln
  lv := h.lv
  gen := fun m h1 h2 => by
    by_cases e : m = n
    · subst e; exact hd
    · exact h.gen m h1 (by omega)
  gap1 := Nat.le_succ_of_le h.gap1
  last0 := h.last0
  prev := by
    obtain ⟨l0, N0, h1, h2, h3, h4⟩ := h.prev
    exact ⟨l0, N0, h1, by show N0 + (s.gap + 1) = n + 1 + 1; omega, h3, h4⟩
theorem Inv.step {A W : List (F × F)} {n : Nat} {s : Bm} (h : Inv A W n s) (hx : ∀ q ∈ A ++ W, q.2 ≠ 0) {d : F} (hd : es (fun x => pow x n * evp s.now (inv x)) (A ++ W) = d) {next : List F} (hn : ∀ k, at_ next k = at_ s.now k + d * inv s.last * at_ (List.replicate s.gap 0 ++ s.old) k) (l' : Nat) (h1 : s.l ≤ l') (h2 : n + 1 + A.length ≤ l' + s.l) :
    at_ next 0 = 1 ∧ (∀ k, l' < k → at_ next k = 0) ∧ (∀ q ∈ A, evp next (inv q.2) = 0) ∧ (∀ m, l' ≤ m → m < n + 1 → es (fun x => pow x m * evp next (inv x)) (A ++ W) = 0) := by
  obtain ⟨l0, N0, p1, p2, p3, p4, p5, p6⟩ := h.prev
  have hg := h.gap1
  refine ⟨?_, fun k hk => ?_, fun q hq => next_lost hn (h.lost q hq) (h.lost' q hq), fun m m1 m2 => ?_⟩
  · rw [hn, at_zpow, if_pos (by omega), mul_zero, add_zero, h.one]
  · rw [hn, at_zpow, h.deg k (by omega), if_neg (by omega), p4 _ (by omega), mul_zero, add_zero]
  · rw [next_es hx hn m (by omega)]
    by_cases e : m = n
    · subst e
      rw [hd, p6 (m - s.gap) (by omega) (by omega), mul_assoc, inv_mul _ h.last0, mul_one, add_self]
    · rw [h.gen m (by omega) (by omega), p5 (m - s.gap) (by omega) (by omega), mul_zero, add_zero]
theorem Inv.long {A W : List (F × F)} {n : Nat} {s : Bm} (h : Inv A W n s) (hx : ∀ q ∈ A ++ W, q.2 ≠ 0) {d : F} (hd : es (fun x => pow x n * evp s.now (inv x)) (A ++ W) = d) (hd0 : d ≠ 0) {next : List F} (hn : ∀ k, at_ next k = at_ s.now k + d * inv s.last * at_ (List.replicate s.gap 0 ++ s.old) k) (h2 : 2 * s.l ≤ n + A.length) :
    Inv A W (n + 1) ⟨next, s.now, n + 1 + A.length - s.l, 1, d⟩ := by
  have hfl := h.fl
  have hln := h.ln
  obtain ⟨a1, a2, a3, a4⟩ := h.step hx hd hn (n + 1 + A.length - s.l) (by omega) (by omega)
  have hm := massey (fun q hq => hx q (List.mem_append_right _ hq)) h.lost h.gen (hd ▸ hd0)
  exact ⟨a1, a2, a3, h.lost, by dsimp only; omega, by dsimp only; omega, by dsimp only; omega, a4, Nat.le_refl _, hd0, s.l, n + 1, hfl, rfl, by dsimp only; omega, h.deg, fun m m1 m2 => h.gen m m1 (by omega), fun m _ m2 => by rw [show m = n by omega]; exact hd⟩
theorem Inv.short {A W : List (F × F)} {n : Nat} {s : Bm} (h : Inv A W n s) (hx : ∀ q ∈ A ++ W, q.2 ≠ 0) {d : F} (hd : es (fun x => pow x n * evp s.now (inv x)) (A ++ W) = d) {next : List F} (hn : ∀ k, at_ next k = at_ s.now k + d * inv s.last * at_ (List.replicate s.gap 0 ++ s.old) k) (h2 : n + A.length < 2 * s.l) :
    Inv A W (n + 1) { s with now := next, gap := s.gap + 1 } := by
  obtain ⟨a1, a2, a3, a4⟩ := h.step hx hd hn s.l (Nat.le_refl _) (by omega)
  obtain ⟨l0, N0, p1, p2, p3, p4⟩ := h.prev
  exact ⟨a1, a2, a3, h.lost', h.fl, Nat.le_succ_of_le h.ln, h.lv, a4, Nat.le_succ_of_le h.gap1, h.last0, l0, N0, p1, by dsimp only; omega, p3, p4⟩
theorem too_many {p : List F} (h0 : at_ p 0 = 1) {l : Nat} (hd : ∀ k, l < k → at_ p k = 0) (rs : List F) (hn : rs.Nodup) (hr : ∀ y ∈ rs, evp p y = 0) : rs.length ≤ l := by
  refine Decidable.byContradiction (fun hc => ?_)
  have hs : Sm (p.take (l + 1)) p := fun k => by
    rw [at_take]
    split
    · rfl
    · exact (hd k (by omega)).symm
  have h1 := roots_few rs (p.take (l + 1)) hn (by rw [List.length_take]; omega) (fun y hy => by rw [evp_congr hs]; exact hr y hy) 0
  rw [hs 0, h0] at h1
  exact one_ne_zero h1
theorem inv_inj {a b : F} (ha : a ≠ 0) (hb : b ≠ 0) (h : inv a = inv b) : a = b :=
  mul_right_cancel (inv_ne_zero ha) ((mul_inv a ha).trans (by rw [h, mul_inv b hb]))
theorem nodup_inv : ∀ l : List F, (∀ x ∈ l, x ≠ 0) → l.Nodup → (l.map inv).Nodup
  | [], _, _ => List.nodup_nil
  | a :: l, h, hn => by
    rw [List.nodup_cons] at hn
    rw [List.map_cons, List.nodup_cons]
    refine ⟨fun hm => ?_, nodup_inv l (fun x hx => h x (List.mem_cons_of_mem _ hx)) hn.2⟩
    obtain ⟨b, hb, e⟩ := List.mem_map.1 hm
    exact hn.1 (inv_inj (h b (List.mem_cons_of_mem _ hb)) (h a (List.mem_cons_self ..)) e ▸ hb)
theorem Inv.done {A W : List (F × F)} {r : Nat} {s : Bm} (h : Inv A W r s) (hx : ∀ q ∈ A ++ W, q.2 ≠ 0) (hn : ((A ++ W).map Prod.snd).Nodup) (hw : ∀ q ∈ W, q.1 ≠ 0) (hr : A.length + 2 * W.length ≤ r) :
    s.l = A.length + W.length ∧ (∀ z, z ≠ 0 → (evp s.now (inv z) = 0 ↔ z ∈ (A ++ W).map Prod.snd)) := by
  have hlv := h.lv
  have hnw : (W.map Prod.snd).Nodup := by
    rw [List.map_append] at hn
    exact (List.nodup_append.1 hn).2.1
  have hW : ∀ q ∈ W, evp s.now (inv q.2) = 0 := fun q hq => by
    have h1 := powers_free W (fun x => evp s.now (inv x)) (fun q hq => hx q (List.mem_append_right _ hq)) hnw s.l (fun m m1 m2 => by
      rw [← lost_none h.lost]
      exact h.gen m m1 (by omega)) q hq
    exact (mul_eq_zero h1).resolve_left (hw q hq)
  have hE : ∀ q ∈ A ++ W, evp s.now (inv q.2) = 0 := fun q hq => (List.mem_append.1 hq).elim (h.lost q) (hW q)
  have hx' : ∀ x ∈ (A ++ W).map Prod.snd, x ≠ 0 := fun x hm => by
    obtain ⟨q, hq, rfl⟩ := List.mem_map.1 hm
    exact hx q hq
  have hroot : ∀ x ∈ (A ++ W).map Prod.snd, evp s.now (inv x) = 0 := fun x hm => by
    obtain ⟨q, hq, rfl⟩ := List.mem_map.1 hm
    exact hE q hq
  have hlen : A.length + W.length ≤ s.l := by
    have h1 := too_many h.one h.deg (((A ++ W).map Prod.snd).map inv) (nodup_inv _ hx' hn) (fun y hy => by
      obtain ⟨x, hm, rfl⟩ := List.mem_map.1 hy
      exact hroot x hm)
    rw [List.length_map, List.length_map, List.length_append] at h1
    exact h1
  refine ⟨by omega, fun z hz => ⟨fun h0 => Decidable.byContradiction (fun hc => ?_), hroot z⟩⟩
  have h1 := too_many h.one h.deg ((z :: (A ++ W).map Prod.snd).map inv) (nodup_inv _ (fun x hm => by
    rcases List.mem_cons.1 hm with rfl | hm
    · exact hz
    · exact hx' x hm) (List.nodup_cons.2 ⟨hc, hn⟩)) (fun y hy => by
    obtain ⟨x, hm, rfl⟩ := List.mem_map.1 hy
    rcases List.mem_cons.1 hm with rfl | hm
    · exact h0
    · exact hroot x hm)
  rw [List.length_map, List.length_cons, List.length_map, List.length_append] at h1
  omega
theorem hq_top {y : F} {p : List F} {l : Nat} (h : ∀ k, l < k → at_ p k = 0) (k : Nat) (hk : l ≤ k) : at_ (hq y p) k = 0 := by
  obtain ⟨_, h1⟩ := hq_at y p
  have key : ∀ e k, l ≤ k → p.length ≤ k + e → at_ (hq y p) k = 0 := by
    intro e
    induction e with
    | zero => intro k _ h3; exact at_ge _ _ (by rw [hq_length]; omega)
    | succ e ih =>
      intro k h2 h3
      have h4 := h1 k
      rw [h (k + 1) (by omega), ih (k + 1) (by omega) (by omega), mul_zero, zero_add] at h4
      exact h4.symm
  exact key p.length k hk (by omega)
theorem geo {p : List F} {x : F} (hx : x ≠ 0) (h : evp p (inv x) = 0) : ∀ j, sm (fun k => at_ p k * pow x (j - k)) (j + 1) = inv x * at_ (hq (inv x) p) j := by
  obtain ⟨h0, h1⟩ := hq_at (inv x) p
  intro j
  induction j with
  | zero => rw [sm, sm, zero_add, h0, h, add_zero]; exact mul_one _
  | succ j ih =>
    rw [sm, sm_congr (j + 1) (g := fun k => x * (at_ p k * pow x (j - k))) (fun k hk => by
      rw [show j + 1 - k = (j - k) + 1 by omega, show pow x (j - k + 1) = pow x (j - k) * x from rfl]
      ac_rfl), sm_mul, ih, Nat.sub_self, show pow x 0 = 1 from rfl, mul_one, h1, ← mul_assoc, mul_inv x hx, one_mul, add_comm (inv x * _), ← add_assoc, add_self, zero_add]
theorem hq_else {p : List F} {y z : F} (hy : evp p y = 0) (hz : evp p z = 0) (hne : z ≠ y) : evp (hq y p) z = 0 := by
  have h := evp_congr (hq_mul hy) z
  rw [hz, evp_mulL, evp_l] at h
  exact (mul_eq_zero h.symm).resolve_right (fun e => hne (eq_of_add_zero e).symm)
theorem slope_even {p slope : List F} {y : F} (hs : ∀ k, at_ slope k = if k % 2 = 0 then at_ p (k + 1) else 0) : ∀ m, sm (fun k => at_ slope k * pow y k) (2 * m) = sm (fun k => at_ (hq y p) k * pow y k) (2 * m)
  | 0 => rfl
  | m + 1 => by
    obtain ⟨_, h1⟩ := hq_at y p
    rw [show 2 * (m + 1) = 2 * m + 1 + 1 by omega, sm, sm, slope_even hs m, hs, if_pos (by omega), hs, if_neg (by omega), zero_mul, add_zero, sm, sm, add_assoc, h1, add_mul, show pow y (2 * m + 1) = pow y (2 * m) * y from rfl, add_comm (at_ (hq y p) (2 * m) * pow y (2 * m))]
    congr 2
    ac_rfl
theorem slope_at {p slope : List F} {y : F} (hs : ∀ k, at_ slope k = if k % 2 = 0 then at_ p (k + 1) else 0) : evp slope y = evp (hq y p) y := by
  obtain ⟨m, hm⟩ : ∃ m, slope.length + p.length ≤ 2 * m := ⟨slope.length + p.length, by omega⟩
  rw [evp_sm y slope (2 * m) (fun k hk => at_ge _ _ (by omega)), evp_sm y (hq y p) (2 * m) (fun k hk => at_ge _ _ (by rw [hq_length]; omega))]
  exact slope_even hs m
theorem forney {E : List (F × F)} (hx : ∀ q ∈ E, q.2 ≠ 0) (hn : (E.map Prod.snd).Nodup) {p over slope : List F} {r l : Nat} (h1 : at_ p 0 = 1) (hd : ∀ k, l < k → at_ p k = 0) (hl : l = E.length) (hr : l ≤ r) (hroot : ∀ q ∈ E, evp p (inv q.2) = 0)
    (ho : ∀ j, at_ over j = if j < r then sm (fun k => at_ p k * es (fun x => pow x (j - k)) E) (j + 1) else 0) (hs : ∀ k, at_ slope k = if k % 2 = 0 then at_ p (k + 1) else 0) (q : F × F) (hq' : q ∈ E) :
    evp slope (inv q.2) ≠ 0 ∧ q.2 * evp over (inv q.2) = q.1 * evp slope (inv q.2) := by
  have hqx := hx q hq'
  have hqr := hroot q hq'
  rw [slope_at hs]
  constructor
  · intro h0
    have hE : ∀ y ∈ (E.map Prod.snd).map inv, evp (hq (inv q.2) p) y = 0 := fun y hy => by
      obtain ⟨x, hm, rfl⟩ := List.mem_map.1 hy
      obtain ⟨u, hu, rfl⟩ := List.mem_map.1 hm
      by_cases e : inv u.2 = inv q.2
      · rw [e, h0]
      · exact hq_else hqr (hroot u hu) e
    have hx' : ∀ x ∈ E.map Prod.snd, x ≠ 0 := fun x hm => by
      obtain ⟨u, hu, rfl⟩ := List.mem_map.1 hm
      exact hx u hu
    have hsm : Sm ((hq (inv q.2) p).take l) (hq (inv q.2) p) := fun k => by
      rw [at_take]
      split
      · rfl
      · exact (hq_top hd k (by omega)).symm
    have h2 := roots_few ((E.map Prod.snd).map inv) ((hq (inv q.2) p).take l) (nodup_inv _ hx' hn) (by rw [List.length_take, List.length_map, List.length_map]; omega) (fun y hy => by rw [evp_congr hsm]; exact hE y hy) 0
    rw [hsm 0] at h2
    have h3 := (hq_at (inv q.2) p).1
    rw [h2, hqr, mul_zero, add_zero, h1] at h3
    exact one_ne_zero h3
  · have e1 : ∀ j, j < r → at_ over j = es (fun x => inv x * at_ (hq (inv x) p) j) E := fun j hj => by
      rw [ho, if_pos hj, sm_congr (j + 1) (g := fun k => es (fun x => at_ p k * pow x (j - k)) E) (fun k _ => (es_mul _ _ E).symm), es_sm]
      exact es_congr E (fun u hu => geo (hx u hu) (hroot u hu) j)
    rw [evp_sm (inv q.2) over r (fun k hk => by rw [ho, if_neg (by omega)]), sm_congr r (g := fun j => es (fun x => pow (inv q.2) j * (inv x * at_ (hq (inv x) p) j)) E) (fun j hj => by rw [e1 j hj, mul_comm, ← es_mul]), es_sm, es_one E hn q hq' (fun u hu hne => by
      rw [sm_congr r (g := fun k => inv u.2 * (at_ (hq (inv u.2) p) k * pow (inv q.2) k)) (fun k _ => by ac_rfl), sm_mul, ← evp_sm _ _ _ (fun k hk => hq_top hd k (by omega)), hq_else (hroot u hu) hqr (fun e => hne (inv_inj hqx (hx u hu) e).symm), mul_zero, mul_zero])]
    rw [sm_congr r (g := fun k => inv q.2 * (at_ (hq (inv q.2) p) k * pow (inv q.2) k)) (fun k _ => by ac_rfl), sm_mul, ← evp_sm _ _ _ (fun k hk => hq_top hd k (by omega))]
    have : q.2 * (q.1 * (inv q.2 * evp (hq (inv q.2) p) (inv q.2))) = q.2 * inv q.2 * (q.1 * evp (hq (inv q.2) p) (inv q.2)) := by ac_rfl
    rw [this, mul_inv _ hqx, one_mul]
end Go.Proofs.Ytncoakokdajibaa.Sem
