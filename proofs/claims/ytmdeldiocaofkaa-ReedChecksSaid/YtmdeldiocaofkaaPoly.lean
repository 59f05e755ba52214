/- Lists of numbers of the field, as the printed functions have them: without noughts at their end, sums, products. -/
import Derived.Test.YtmdeldiocaofkaaTimes
namespace Go.Proofs.Ytmdeldiocaofkaa.Sem
open Go.RowKit Go.Proofs.Ytmdeldiocaofkaa.Q Go.Proofs.YtmdeldiocaofkaaW.PrintWords Go.Proofs.YtmdeldiocaofkaaW.PrintLast Go.Proofs.Ytmdeldiocaofkaa.Gf

def L (p : List F) : List Int := p.map I
theorem L_length (p : List F) : (L p).length = p.length := List.length_map _
theorem L_inj {p q : List F} (h : L p = L q) : p = q := by
  induction p generalizing q with
  | nil => cases q with
    | nil => rfl
    | cons b q => simp [L] at h
  | cons a p ih => cases q with
    | nil => simp [L] at h
    | cons b q =>
      simp only [L, List.map_cons, List.cons.injEq] at h
      rw [I_inj h.1, ih h.2]
theorem L_nil : L [] = [] := rfl
theorem L_cons (a : F) (p : List F) : L (a :: p) = I a :: L p := rfl
theorem L_append (p q : List F) : L (p ++ q) = L p ++ L q := List.map_append
theorem L_take (p : List F) (n : Nat) : (L p).take n = L (p.take n) := (List.map_take).symm
theorem L_drop (p : List F) (n : Nat) : (L p).drop n = L (p.drop n) := (List.map_drop).symm
theorem L_set (p : List F) (n : Nat) (a : F) : (L p).set n (I a) = L (p.set n a) := (List.map_set).symm
theorem L_replicate (n : Nat) : List.replicate n (0 : Int) = L (List.replicate n 0) := by rw [L, List.map_replicate]; rfl
/-- The number at a place, 0 beyond the end. -/
def at_ (p : List F) (n : Nat) : F := p.getD n 0
theorem rd_L (p : List F) (i : Int) : rd (L p) i = I (at_ p i.toNat) := by
  unfold rd L at_
  rw [List.getD_eq_getElem?_getD, List.getD_eq_getElem?_getD, List.getElem?_map]
  cases p[i.toNat]? with
  | none => rfl
  | some a => rfl
theorem at_ge (p : List F) (n : Nat) (h : p.length ≤ n) : at_ p n = 0 := by
  unfold at_
  rw [List.getD_eq_getElem?_getD, List.getElem?_eq_none h]; rfl
theorem at_lt (p : List F) (n : Nat) (h : n < p.length) : at_ p n = p[n] := by
  unfold at_
  rw [List.getD_eq_getElem?_getD, List.getElem?_eq_getElem h]; rfl
theorem at_set (p : List F) (n m : Nat) (a : F) (h : n < p.length) : at_ (p.set n a) m = if m = n then a else at_ p m := by
  unfold at_
  rw [List.getD_eq_getElem?_getD, List.getD_eq_getElem?_getD, List.getElem?_set]
  by_cases e : n = m
  · subst e; simp [h]
  · rw [if_neg e, if_neg (fun x => e x.symm)]
theorem at_append (p q : List F) (n : Nat) : at_ (p ++ q) n = if n < p.length then at_ p n else at_ q (n - p.length) := by
  unfold at_
  rw [List.getD_eq_getElem?_getD, List.getD_eq_getElem?_getD, List.getD_eq_getElem?_getD, List.getElem?_append]
  split <;> rfl
theorem at_take (p : List F) (m n : Nat) : at_ (p.take m) n = if n < m then at_ p n else 0 := by
  unfold at_
  rw [List.getD_eq_getElem?_getD, List.getD_eq_getElem?_getD, List.getElem?_take]
  split <;> rfl
theorem at_drop (p : List F) (m n : Nat) : at_ (p.drop m) n = at_ p (m + n) := by
  unfold at_
  rw [List.getD_eq_getElem?_getD, List.getD_eq_getElem?_getD, List.getElem?_drop]
theorem at_replicate (m n : Nat) : at_ (List.replicate m 0) n = 0 := by
  unfold at_
  rw [List.getD_eq_getElem?_getD, List.getElem?_replicate]
  split <;> rfl
theorem at_nil (n : Nat) : at_ [] n = 0 := at_ge _ _ (Nat.zero_le _)
theorem ext_at {p q : List F} (hl : p.length = q.length) (h : ∀ n, n < p.length → at_ p n = at_ q n) : p = q := by
  apply List.ext_getElem hl
  intro n h1 h2
  have := h n h1
  rwa [at_lt p n h1, at_lt q n h2] at this
/-- Out of a row of bytes. -/
theorem of_bytes (l : List Int) (h : ∀ x ∈ l, (Lit.int .u8 x).wf = true) : ∃ p : List F, l = L p := by
  induction l with
  | nil => exact ⟨[], rfl⟩
  | cons x l ih =>
    obtain ⟨p, hp⟩ := ih (fun y hy => h y (List.mem_cons_of_mem _ hy))
    have hx := h x List.mem_cons_self
    simp only [Lit.wf, IntKind.min, IntKind.max, IntKind.signed, IntKind.bits, Bool.and_eq_true] at hx
    obtain ⟨a, ha⟩ := of_u8 x (by simpa using hx.1) (by have := hx.2; simp at this; omega)
    exact ⟨a :: p, by rw [L_cons, ← ha, hp]⟩

/-- Without noughts at its end. -/
def trimTo : Nat → List F → List F
  | 0, _ => []
  | n + 1, p => if at_ p n = 0 then trimTo n p else p.take (n + 1)
def trim (p : List F) : List F := trimTo p.length p
theorem wrap_id (x : Int) (h0 : -9223372036854775808 ≤ x) (h1 : x ≤ 9223372036854775807) : wrap64 x = x := by unfold wrap64; omega
theorem clone (p : List F) (h : p.length < 140737488355328) : slices_Clone_uint8_uint8.f (L p) = some (L p) := by
  unfold slices_Clone_uint8_uint8.f
  rw [if_pos (by rw [L_length]; exact h)]
theorem poly_l0 (n : Nat) : ∀ (k : Nat) (p : List F), n ≤ p.length → p.length < 140737488355328 → n < k → field_poly.l0 k (L p) (n : Int) = some (L (trimTo n p)) := by
  induction n with
  | zero =>
    intro k p hn hl hk
    obtain ⟨k, rfl⟩ : ∃ m, k = m + 1 := ⟨k - 1, by omega⟩
    rw [field_poly.l0, if_neg (by decide), if_pos (by decide), if_pos (by omega), L_take, clone _ (by rw [List.length_take]; omega), Option.bind_some]
    rfl
  | succ n ih =>
    intro k p hn hl hk
    obtain ⟨k, rfl⟩ : ∃ m, k = m + 1 := ⟨k - 1, by omega⟩
    rw [field_poly.l0, if_pos (by omega), wrap_id _ (by omega) (by omega), if_pos (by omega), if_pos (by rw [L_length]; omega), show ((n + 1 : Nat) : Int) - 1 = (n : Int) from by omega, rd_L, Int.toNat_natCast]
    by_cases hz : at_ p n = 0
    · rw [if_pos (I_eq_zero.2 hz), ih k p (by omega) hl (by omega), trimTo, if_pos hz]
    · rw [if_neg (fun e => hz (I_eq_zero.1 e)), if_pos (by omega), if_pos (by rw [L_length]; omega), L_take, clone _ (by rw [List.length_take]; omega), Option.bind_some, trimTo, if_neg hz]
      rfl
theorem poly (k : Nat) (p : List F) (hl : p.length < 140737488355328) (hk : p.length < k) : field_poly.f k (L p) = some (L (trim p)) := by
  unfold field_poly.f
  rw [L_length]
  exact poly_l0 p.length k p (Nat.le_refl _) hl hk
theorem poly_ev (p : List F) (hl : p.length < 140737488355328) : Ev (fun k => field_poly.f k (L p)) (L (trim p)) := ⟨p.length + 1, fun k hk => poly k p hl (by omega)⟩

/-! What trim leaves -/
theorem trimTo_at (n : Nat) (p : List F) : n ≤ p.length → ∀ m, at_ (trimTo n p) m = if m < n then at_ p m else 0 := by
  induction n with
  | zero => intro _ m; rw [trimTo, at_nil, if_neg (by omega)]
  | succ n ih =>
    intro h m
    rw [trimTo]
    by_cases hz : at_ p n = 0
    · rw [if_pos hz, ih (by omega)]
      by_cases e : m = n
      · subst e; rw [if_neg (by omega), if_pos (by omega), hz]
      · by_cases e2 : m < n
        · rw [if_pos e2, if_pos (by omega)]
        · rw [if_neg e2, if_neg (by omega)]
    · rw [if_neg hz, at_take]
theorem trim_at (p : List F) (m : Nat) : at_ (trim p) m = at_ p m := by
  unfold trim
  rw [trimTo_at _ _ (Nat.le_refl _)]
  split
  · rfl
  · rw [at_ge p m (by omega)]
theorem trimTo_last (n : Nat) (p : List F) : n ≤ p.length → trimTo n p = [] ∨ at_ (trimTo n p) ((trimTo n p).length - 1) ≠ 0 := by
  induction n with
  | zero => intro _; exact .inl rfl
  | succ n ih =>
    intro h
    rw [trimTo]
    by_cases hz : at_ p n = 0
    · rw [if_pos hz]; exact ih (by omega)
    · rw [if_neg hz]
      right
      rw [List.length_take, at_take, if_pos (by omega), show min (n + 1) p.length - 1 = n from by omega]
      exact hz
/-- A polynomial: no nought at its end. -/
def IsPoly (p : List F) : Prop := p = [] ∨ at_ p (p.length - 1) ≠ 0
theorem trim_isPoly (p : List F) : IsPoly (trim p) := trimTo_last _ p (Nat.le_refl _)
theorem trimTo_length (n : Nat) (p : List F) : (trimTo n p).length ≤ n := by
  induction n with
  | zero => simp [trimTo]
  | succ n ih => rw [trimTo]; split; · omega
                 · rw [List.length_take]; omega
theorem trim_length (p : List F) : (trim p).length ≤ p.length := trimTo_length _ p
theorem poly_ext {p q : List F} (hp : IsPoly p) (hq : IsPoly q) (h : ∀ n, at_ p n = at_ q n) : p = q := by
  have key : ∀ {p q : List F}, IsPoly q → (∀ n, at_ p n = at_ q n) → q.length ≤ p.length := by
    intro p q hq h
    rcases hq with rfl | hq
    · exact Nat.zero_le _
    · by_cases hl : q.length ≤ p.length
      · exact hl
      · exact absurd ((h (q.length - 1)).symm.trans (at_ge p _ (by omega))) hq
  exact ext_at (Nat.le_antisymm (key hp (fun n => (h n).symm)) (key hq h)) (fun n _ => h n)
theorem trim_of_isPoly {p : List F} (h : IsPoly p) : trim p = p := poly_ext (trim_isPoly p) h (trim_at p)
theorem trim_ext {p q : List F} (h : ∀ n, at_ p n = at_ q n) : trim p = trim q := poly_ext (trim_isPoly p) (trim_isPoly q) (fun n => by rw [trim_at, trim_at, h])
theorem trim_trim (p : List F) : trim (trim p) = trim p := trim_of_isPoly (trim_isPoly p)
theorem trim_nil_iff {p : List F} : trim p = [] ↔ ∀ n, at_ p n = 0 := by
  constructor
  · intro h n; rw [← trim_at, h, at_nil]
  · intro h; exact poly_ext (trim_isPoly p) (.inl rfl) (fun n => by rw [trim_at, h, at_nil])
end Go.Proofs.Ytmdeldiocaofkaa.Sem
