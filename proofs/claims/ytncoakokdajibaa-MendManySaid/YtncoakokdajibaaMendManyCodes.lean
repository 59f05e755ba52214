import Derived.Test.YtncoakokdajibaaMendManyBase
/- Words over the field, the highest term first: what a word is at a number, how few places can be unlike 0 in one that is 0 at r powers of 2. Plain Lean. -/
namespace Go.Proofs.Ytncoakokdajibaa.Sem
open Go.RowKit Go.Proofs.Ytncoakokdajibaa.Gf
def ss (h : F → F) : Nat → List F → F
  | _, [] => 0
  | o, a :: p => a * h (pow two o) + ss h (o + 1) p
def nz (a : F) : Bool := decide (a ≠ 0)
theorem roots_of (l : List F) : ∀ (x : F), evp (ofRoots l) x = 0 ↔ x ∈ l := by
  have hs : ∀ l : List F, ∀ x, evp (ofRoots l.reverse) x = 0 ↔ x ∈ l.reverse := fun l => by
    induction l with
    | nil => exact fun x => ⟨fun h => by
        have h1 : evp (ofRoots ([] : List F).reverse) x = 1 := by show 1 + x * 0 = _; rw [mul_zero, add_zero]
        exact absurd (h1.symm.trans h) one_ne_zero, fun h => by simp at h⟩
    | cons a l ih =>
      intro x
      have h2 : evp [a, 1] x = a + x := by show a + x * (1 + x * 0) = _; rw [mul_zero, add_zero, mul_one]
      rw [List.reverse_cons, ofRoots_snoc, evp_mulP, h2, List.mem_append, List.mem_singleton]
      constructor
      · intro h
        rcases mul_eq_zero h with h | h
        · exact .inl ((ih x).1 h)
        · exact .inr (eq_of_add_zero h).symm
      · rintro (h | rfl)
        · rw [(ih x).2 h, zero_mul]
        · rw [add_self, mul_zero]
  have := hs l.reverse
  rwa [List.reverse_reverse] at this
def wv (w : List F) (x : F) : F := evp w.reverse x
theorem wv_nil (x : F) : wv [] x = 0 := rfl
theorem wv_snoc (w : List F) (a x : F) : wv (w ++ [a]) x = a + x * wv w x := by
  unfold wv
  rw [List.reverse_append]
  rfl
theorem wv_append (u v : List F) (x : F) : wv (u ++ v) x = wv u x * pow x v.length + wv v x := by
  have hs : ∀ v : List F, wv (u ++ v.reverse) x = wv u x * pow x v.reverse.length + wv v.reverse x := fun v => by
    induction v with
    | nil => rw [List.reverse_nil, List.append_nil, wv_nil, add_zero]; exact (mul_one _).symm
    | cons a v ih =>
      rw [List.reverse_cons, ← List.append_assoc, wv_snoc, wv_snoc, ih, List.length_append]
      show a + x * (wv u x * pow x v.reverse.length + wv v.reverse x) = wv u x * (pow x v.reverse.length * x) + (a + x * wv v.reverse x)
      rw [mul_add]
      ac_rfl
  have := hs v.reverse
  rwa [List.reverse_reverse] at this
theorem wv_cons (a : F) (w : List F) (x : F) : wv (a :: w) x = a * pow x w.length + wv w x := by
  have := wv_append [a] w x
  rwa [show wv [a] x = a from by show a + x * 0 = a; rw [mul_zero, add_zero]] at this
theorem wv_zeros (n : Nat) (w : List F) (x : F) : wv (List.replicate n 0 ++ w) x = wv w x := by
  induction n with
  | zero => rfl
  | succ n ih => rw [List.replicate_succ, List.cons_append, wv_cons, zero_mul, zero_add, ih]
def lay (u v : List F) : List F := List.zipWith (· + ·) u v
theorem lay_length {u v : List F} (h : u.length = v.length) : (lay u v).length = u.length := by
  unfold lay; rw [List.length_zipWith, h, Nat.min_self]
theorem wv_lay : ∀ (u v : List F) (x : F), u.length = v.length → wv (lay u v) x = wv u x + wv v x
  | [], [], x, _ => (add_zero _).symm
  | a :: u, b :: v, x, h => by
    have hl : u.length = v.length := by simpa using h
    rw [show lay (a :: u) (b :: v) = (a + b) :: lay u v from rfl, wv_cons, wv_cons, wv_cons, wv_lay u v x hl, lay_length hl, hl, add_mul]
    ac_rfl
theorem at_lay : ∀ (u v : List F) (n : Nat), u.length = v.length → at_ (lay u v) n = at_ u n + at_ v n
  | [], [], n, _ => by rw [at_nil, add_zero]; rfl
  | a :: u, b :: v, 0, _ => rfl
  | a :: u, b :: v, n + 1, h => at_lay u v n (by simpa using h)
def Code (r : Nat) (w : List F) : Prop := ∀ i, i < r → wv w (pow two i) = 0
theorem Code.lay {r : Nat} {u v : List F} (h : Code r u) (k : Code r v) (hl : u.length = v.length) : Code r (lay u v) := fun i hi => by
  rw [wv_lay u v _ hl, h i hi, k i hi, add_zero]
end Go.Proofs.Ytncoakokdajibaa.Sem
