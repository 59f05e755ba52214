/- The field of 256 numbers, in plain Lean: products bit by bit, reduced by 0x11D; its laws. No condition. -/
namespace Go.Proofs.Ytmdeldiocaofkaa.Gf

def sel (c : Bool) (x : Nat) : Nat := bif c then x else 0
theorem sel_true (x : Nat) : sel true x = x := rfl
theorem sel_false (x : Nat) : sel false x = 0 := rfl
theorem sel_xor (c d : Bool) (x : Nat) : sel (c ^^ d) x = sel c x ^^^ sel d x := by
  cases c <;> cases d <;> simp [sel]
theorem sel_xor_right (c : Bool) (x y : Nat) : sel c (x ^^^ y) = sel c x ^^^ sel c y := by
  cases c <;> simp [sel]

/-- Twice a number. -/
def xt (a : Nat) : Nat := (a <<< 1) ^^^ sel (a.testBit 7) 285
theorem xt_xor (a b : Nat) : xt (a ^^^ b) = xt a ^^^ xt b := by
  unfold xt
  rw [Nat.shiftLeft_xor_distrib, Nat.testBit_xor, sel_xor]
  ac_rfl
def xts : Nat → Nat → Nat
  | 0, a => a
  | n + 1, a => xts n (xt a)
theorem xts_xor (n : Nat) : ∀ a b, xts n (a ^^^ b) = xts n a ^^^ xts n b := by
  induction n with
  | zero => intro a b; rfl
  | succ n ih => intro a b; rw [xts, xt_xor, ih]; rfl

/-- The sum of what stands at the bits below n of b. -/
def mulTo : Nat → Nat → Nat → Nat
  | 0, _, _ => 0
  | n + 1, a, b => mulTo n a b ^^^ sel (b.testBit n) (xts n a)
def mulN (a b : Nat) : Nat := mulTo 8 a b
theorem mulTo_right (n a b c : Nat) : mulTo n a (b ^^^ c) = mulTo n a b ^^^ mulTo n a c := by
  induction n with
  | zero => simp [mulTo]
  | succ n ih => rw [mulTo, mulTo, mulTo, ih, Nat.testBit_xor, sel_xor]; ac_rfl
theorem mulTo_left (n a b c : Nat) : mulTo n (a ^^^ b) c = mulTo n a c ^^^ mulTo n b c := by
  induction n with
  | zero => simp [mulTo]
  | succ n ih => rw [mulTo, mulTo, mulTo, ih, xts_xor, sel_xor_right]; ac_rfl
theorem mulTo_zero (n a : Nat) : mulTo n a 0 = 0 := by
  induction n with
  | zero => rfl
  | succ n ih => rw [mulTo, ih]; simp [sel]
theorem xts_zero (n : Nat) : xts n 0 = 0 := by
  induction n with
  | zero => rfl
  | succ n ih => rw [xts]; exact ih
theorem zero_mulTo (n b : Nat) : mulTo n 0 b = 0 := by
  induction n with
  | zero => rfl
  | succ n ih => rw [mulTo, ih, xts_zero]; cases b.testBit n <;> rfl

/-- What is additive is known by what it is at the bits. -/
theorem split8 (a : Nat) (h : a < 256) : a = sel (a.testBit 0) 1 ^^^ sel (a.testBit 1) 2 ^^^ sel (a.testBit 2) 4 ^^^ sel (a.testBit 3) 8 ^^^ sel (a.testBit 4) 16 ^^^ sel (a.testBit 5) 32 ^^^ sel (a.testBit 6) 64 ^^^ sel (a.testBit 7) 128 := by
  have : ∀ a, a < 256 → a = sel (a.testBit 0) 1 ^^^ sel (a.testBit 1) 2 ^^^ sel (a.testBit 2) 4 ^^^ sel (a.testBit 3) 8 ^^^ sel (a.testBit 4) 16 ^^^ sel (a.testBit 5) 32 ^^^ sel (a.testBit 6) 64 ^^^ sel (a.testBit 7) 128 := by decide +kernel
  exact this a h
theorem lin_ext (f g : Nat → Nat) (hf : ∀ a b, f (a ^^^ b) = f a ^^^ f b) (hg : ∀ a b, g (a ^^^ b) = g a ^^^ g b) (hb : ∀ i, i < 8 → f (2 ^ i) = g (2 ^ i)) (a : Nat) (h : a < 256) : f a = g a := by
  have f0 : f 0 = 0 := by have := hf 0 0; simpa using this
  have g0 : g 0 = 0 := by have := hg 0 0; simpa using this
  have hs : ∀ (c : Bool) i, i < 8 → f (sel c (2 ^ i)) = g (sel c (2 ^ i)) := by
    intro c i hi
    cases c
    · simp only [sel_false, f0, g0]
    · simp only [sel_true]; exact hb i hi
  rw [split8 a h]
  simp only [hf, hg]
  have h0 := hs (a.testBit 0) 0 (by decide)
  have h1 := hs (a.testBit 1) 1 (by decide)
  have h2 := hs (a.testBit 2) 2 (by decide)
  have h3 := hs (a.testBit 3) 3 (by decide)
  have h4 := hs (a.testBit 4) 4 (by decide)
  have h5 := hs (a.testBit 5) 5 (by decide)
  have h6 := hs (a.testBit 6) 6 (by decide)
  have h7 := hs (a.testBit 7) 7 (by decide)
  simp only [Nat.reducePow] at h0 h1 h2 h3 h4 h5 h6 h7
  rw [h0, h1, h2, h3, h4, h5, h6, h7]

theorem mulN_right (a b c : Nat) : mulN a (b ^^^ c) = mulN a b ^^^ mulN a c := mulTo_right 8 a b c
theorem mulN_left (a b c : Nat) : mulN (a ^^^ b) c = mulN a c ^^^ mulN b c := mulTo_left 8 a b c
theorem mulN_zero (a : Nat) : mulN a 0 = 0 := mulTo_zero 8 a
theorem zero_mulN (a : Nat) : mulN 0 a = 0 := zero_mulTo 8 a
theorem sel_lt (c : Bool) (x : Nat) (h : x < 256) : sel c x < 256 := by cases c <;> simp [sel, h]
theorem xt_lt (a : Nat) (h : a < 256) : xt a < 256 := by
  have : ∀ a, a < 256 → xt a < 256 := by decide +kernel
  exact this a h
theorem xts_lt (n : Nat) : ∀ a, a < 256 → xts n a < 256 := by
  induction n with
  | zero => intro a h; exact h
  | succ n ih => intro a h; exact ih _ (xt_lt a h)
theorem xor_lt (a b : Nat) (h : a < 256) (k : b < 256) : a ^^^ b < 256 := Nat.xor_lt_two_pow (n := 8) h k
theorem mulTo_lt (n a b : Nat) (h : a < 256) : mulTo n a b < 256 := by
  induction n with
  | zero => exact (by decide : 0 < 256)
  | succ n ih => exact xor_lt _ _ ih (sel_lt _ _ (xts_lt n a h))
theorem mulN_lt (a b : Nat) (h : a < 256) : mulN a b < 256 := mulTo_lt 8 a b h

theorem mulN_comm (a b : Nat) (h : a < 256) (k : b < 256) : mulN a b = mulN b a := by
  refine lin_ext (fun a => mulN a b) (fun a => mulN b a) (fun x y => mulN_left x y b) (fun x y => mulN_right b x y) (fun i hi => ?_) a h
  refine lin_ext (fun b => mulN (2 ^ i) b) (fun b => mulN b (2 ^ i)) (fun x y => mulN_right _ x y) (fun x y => mulN_left x y _) (fun j hj => ?_) b k
  have : ∀ i, i < 8 → ∀ j, j < 8 → mulN (2 ^ i) (2 ^ j) = mulN (2 ^ j) (2 ^ i) := by decide +kernel
  exact this i hi j hj
theorem mulN_assoc (a b c : Nat) (h : a < 256) (k : b < 256) (l : c < 256) : mulN (mulN a b) c = mulN a (mulN b c) := by
  refine lin_ext (fun a => mulN (mulN a b) c) (fun a => mulN a (mulN b c)) (fun x y => by simp only [mulN_left]) (fun x y => mulN_left x y _) (fun i hi => ?_) a h
  refine lin_ext (fun b => mulN (mulN (2 ^ i) b) c) (fun b => mulN (2 ^ i) (mulN b c)) (fun x y => by simp only [mulN_right, mulN_left]) (fun x y => by simp only [mulN_right, mulN_left]) (fun j hj => ?_) b k
  refine lin_ext (fun c => mulN (mulN (2 ^ i) (2 ^ j)) c) (fun c => mulN (2 ^ i) (mulN (2 ^ j) c)) (fun x y => mulN_right _ x y) (fun x y => by simp only [mulN_right]) (fun m hm => ?_) c l
  have : ∀ i, i < 8 → ∀ j, j < 8 → ∀ m, m < 8 → mulN (mulN (2 ^ i) (2 ^ j)) (2 ^ m) = mulN (2 ^ i) (mulN (2 ^ j) (2 ^ m)) := by decide +kernel
  exact this i hi j hj m hm
theorem mulN_one (a : Nat) : mulN a 1 = a := by
  show mulTo 8 a 1 = a
  simp only [mulTo]
  have h : ∀ i, 0 < i → Nat.testBit 1 i = false := fun i hi => by
    cases i with
    | zero => omega
    | succ i => simp [Nat.testBit_succ]
  rw [h 1 (by decide), h 2 (by decide), h 3 (by decide), h 4 (by decide), h 5 (by decide), h 6 (by decide), h 7 (by decide)]
  simp [sel, xts]

/-- A number of the field. -/
structure F where
  val : Nat
  lt : val < 256
theorem F.ext {a b : F} (h : a.val = b.val) : a = b := by
  cases a; cases b; cases h; rfl
instance : DecidableEq F := fun a b => if h : a.val = b.val then isTrue (F.ext h) else isFalse (fun e => h (by rw [e]))
instance : Inhabited F := ⟨⟨0, by decide⟩⟩
instance : Zero F := ⟨⟨0, by decide⟩⟩
instance : One F := ⟨⟨1, by decide⟩⟩
instance : Add F := ⟨fun a b => ⟨a.val ^^^ b.val, xor_lt _ _ a.lt b.lt⟩⟩
instance : Mul F := ⟨fun a b => ⟨mulN a.val b.val, mulN_lt _ _ a.lt⟩⟩
theorem add_val (a b : F) : (a + b).val = a.val ^^^ b.val := rfl
theorem mul_val (a b : F) : (a * b).val = mulN a.val b.val := rfl
theorem zero_val : (0 : F).val = 0 := rfl
theorem one_val : (1 : F).val = 1 := rfl
theorem add_comm (a b : F) : a + b = b + a := F.ext (Nat.xor_comm _ _)
theorem add_assoc (a b c : F) : a + b + c = a + (b + c) := F.ext (Nat.xor_assoc _ _ _)
theorem add_left_comm (a b c : F) : a + (b + c) = b + (a + c) := by rw [← add_assoc, add_comm a b, add_assoc]
theorem add_zero (a : F) : a + 0 = a := F.ext (Nat.xor_zero _)
theorem zero_add (a : F) : 0 + a = a := F.ext (Nat.zero_xor _)
theorem add_self (a : F) : a + a = 0 := F.ext (Nat.xor_self _)
theorem add_cancel (a b : F) : a + (a + b) = b := by rw [← add_assoc, add_self, zero_add]
theorem eq_of_add_zero {a b : F} (h : a + b = 0) : a = b := by
  have := congrArg (a + ·) h
  simp only [add_cancel, add_zero] at this
  exact this.symm
theorem mul_comm (a b : F) : a * b = b * a := F.ext (mulN_comm _ _ a.lt b.lt)
theorem mul_assoc (a b c : F) : a * b * c = a * (b * c) := F.ext (mulN_assoc _ _ _ a.lt b.lt c.lt)
theorem mul_left_comm (a b c : F) : a * (b * c) = b * (a * c) := by rw [← mul_assoc, mul_comm a b, mul_assoc]
theorem mul_one (a : F) : a * 1 = a := F.ext (mulN_one _)
theorem one_mul (a : F) : 1 * a = a := by rw [mul_comm, mul_one]
theorem mul_zero (a : F) : a * 0 = 0 := F.ext (mulN_zero _)
theorem zero_mul (a : F) : 0 * a = 0 := F.ext (zero_mulN _)
theorem mul_add (a b c : F) : a * (b + c) = a * b + a * c := F.ext (mulN_right _ _ _)
theorem add_mul (a b c : F) : (a + b) * c = a * c + b * c := F.ext (mulN_left _ _ _)
theorem one_ne_zero : (1 : F) ≠ 0 := fun h => by have := congrArg F.val h; simp [zero_val, one_val] at this
instance : Std.Associative (α := F) (· + ·) := ⟨add_assoc⟩
instance : Std.Commutative (α := F) (· + ·) := ⟨add_comm⟩
instance : Std.Associative (α := F) (· * ·) := ⟨mul_assoc⟩
instance : Std.Commutative (α := F) (· * ·) := ⟨mul_comm⟩

/-- Powers. -/
def pow (a : F) : Nat → F
  | 0 => 1
  | n + 1 => pow a n * a
theorem pow_add (a : F) (m n : Nat) : pow a (m + n) = pow a m * pow a n := by
  induction n with
  | zero => exact (mul_one _).symm
  | succ n ih => show pow a (m + n) * a = pow a m * (pow a n * a); rw [ih, mul_assoc]
theorem pow_one (a : F) : pow a 1 = a := one_mul a
theorem one_pow (n : Nat) : pow 1 n = 1 := by
  induction n with
  | zero => rfl
  | succ n ih => show pow 1 n * 1 = 1; rw [ih, mul_one]
theorem pow_mul (a : F) (m n : Nat) : pow a (m * n) = pow (pow a m) n := by
  induction n with
  | zero => rfl
  | succ n ih => rw [Nat.mul_succ, pow_add, ih]; rfl
theorem mul_pow (a b : F) (n : Nat) : pow (a * b) n = pow a n * pow b n := by
  induction n with
  | zero => exact (mul_one _).symm
  | succ n ih => show pow (a * b) n * (a * b) = pow a n * a * (pow b n * b); rw [ih]; ac_rfl
theorem zero_pow (n : Nat) (h : 0 < n) : pow 0 n = 0 := by
  cases n with
  | zero => omega
  | succ n => exact mul_zero _

/-- The powers of 2, by numbers. -/
def two : F := ⟨2, by decide⟩
def ex : Nat → Nat
  | 0 => 1
  | n + 1 => mulN (ex n) 2
theorem pow_two_val (n : Nat) : (pow two n).val = ex n := by
  induction n with
  | zero => rfl
  | succ n ih => show mulN (pow two n).val 2 = _; rw [ih]; rfl
/-- The powers one behind the other. -/
def exps : Nat → Nat → List Nat
  | 0, _ => []
  | n + 1, x => x :: exps n (mulN x 2)
theorem exps_get (n : Nat) : ∀ (m i : Nat), i < n → (exps n (ex m))[i]? = some (ex (m + i)) := by
  induction n with
  | zero => intro m i h; omega
  | succ n ih =>
    intro m i h
    cases i with
    | zero => simp [exps]
    | succ i =>
      have := ih (m + 1) i (by omega)
      rw [exps, List.getElem?_cons_succ]
      rw [show mulN (ex m) 2 = ex (m + 1) from rfl, this]
      congr 2
      omega
theorem exps_length (n x : Nat) : (exps n x).length = n := by
  induction n generalizing x with
  | zero => rfl
  | succ n ih => simp [exps, ih]
theorem all_exps : ∀ a, a < 256 → a ≠ 0 → (exps 255 1).contains a = true := by decide +kernel
theorem exps_nodup : (exps 255 1).Nodup := by decide +kernel
theorem ex_255 : mulN ((exps 255 1)[254]'(by rw [exps_length]; decide)) 2 = 1 := by decide +kernel
theorem pow_two_255 : pow two 255 = 1 := by
  apply F.ext
  rw [pow_two_val]
  show mulN (ex 254) 2 = 1
  have h := exps_get 255 0 254 (by decide)
  have h2 := ex_255
  have h3 : (exps 255 1)[254]? = some ((exps 255 1)[254]'(by rw [exps_length]; decide)) := List.getElem?_eq_getElem _
  rw [show (exps 255 (ex 0)) = exps 255 1 from rfl, h3] at h
  have h4 := Option.some.inj h
  rw [h4, Nat.zero_add] at h2
  exact h2
/-- Each number but 0 is a power of 2. -/
theorem log_of (a : F) (h : a ≠ 0) : ∃ n, n < 255 ∧ pow two n = a := by
  have h1 := all_exps a.val a.lt (fun e => h (F.ext e))
  rw [List.contains_iff_mem] at h1
  obtain ⟨i, hi, e⟩ := List.mem_iff_getElem.1 h1
  rw [exps_length] at hi
  refine ⟨i, hi, F.ext ?_⟩
  rw [pow_two_val]
  have := exps_get 255 0 i hi
  rw [show (exps 255 (ex 0)) = exps 255 1 from rfl, List.getElem?_eq_getElem (by rw [exps_length]; exact hi)] at this
  have h2 := Option.some.inj this
  rw [Nat.zero_add] at h2
  rw [← h2, ← e]
theorem pow_two_inj {m n : Nat} (hm : m < 255) (hn : n < 255) (h : pow two m = pow two n) : m = n := by
  have h1 := congrArg F.val h
  rw [pow_two_val, pow_two_val] at h1
  have em := exps_get 255 0 m hm
  have en := exps_get 255 0 n hn
  rw [Nat.zero_add, show (exps 255 (ex 0)) = exps 255 1 from rfl] at em en
  rw [← h1, ← em] at en
  exact ((List.getElem?_inj (by rw [exps_length]; exact hn) exps_nodup).1 en).symm
theorem pow_two_mod (n : Nat) : pow two n = pow two (n % 255) := by
  conv => lhs; rw [← Nat.div_add_mod n 255]
  rw [pow_add, pow_mul, pow_two_255, one_pow, one_mul]
theorem pow_255 (a : F) (h : a ≠ 0) : pow a 255 = 1 := by
  obtain ⟨n, _, rfl⟩ := log_of a h
  rw [← pow_mul, Nat.mul_comm, pow_mul, pow_two_255, one_pow]
theorem pow_mod (a : F) (h : a ≠ 0) (n : Nat) : pow a n = pow a (n % 255) := by
  conv => lhs; rw [← Nat.div_add_mod n 255]
  rw [pow_add, pow_mul, pow_255 a h, one_pow, one_mul]
theorem two_ne_zero : two ≠ 0 := fun h => by have := congrArg F.val h; simp [two, zero_val] at this

/-- The inverse. -/
def inv (a : F) : F := pow a 254
theorem mul_inv (a : F) (h : a ≠ 0) : a * inv a = 1 := by
  rw [mul_comm]
  exact pow_255 a h
theorem inv_mul (a : F) (h : a ≠ 0) : inv a * a = 1 := pow_255 a h
theorem mul_eq_zero {a b : F} (h : a * b = 0) : a = 0 ∨ b = 0 := by
  by_cases ha : a = 0
  · exact .inl ha
  · right
    have := congrArg (inv a * ·) h
    simp only [← mul_assoc, inv_mul a ha, one_mul, mul_zero] at this
    exact this
theorem mul_ne_zero {a b : F} (h : a ≠ 0) (k : b ≠ 0) : a * b ≠ 0 := fun e => (mul_eq_zero e).elim h k
theorem pow_ne_zero {a : F} (h : a ≠ 0) (n : Nat) : pow a n ≠ 0 := by
  induction n with
  | zero => exact one_ne_zero
  | succ n ih => exact mul_ne_zero ih h
theorem mul_right_cancel {a b c : F} (h : c ≠ 0) (e : a * c = b * c) : a = b := by
  have := congrArg (· * inv c) e
  simpa only [mul_assoc, mul_inv c h, mul_one] using this
theorem mul_left_cancel {a b c : F} (h : c ≠ 0) (e : c * a = c * b) : a = b := by
  rw [mul_comm c, mul_comm c] at e
  exact mul_right_cancel h e
theorem inv_ne_zero {a : F} (h : a ≠ 0) : inv a ≠ 0 := pow_ne_zero h _
theorem inv_unique {a b : F} (h : a * b = 1) : b = inv a := by
  have ha : a ≠ 0 := fun e => by rw [e, zero_mul] at h; exact one_ne_zero h.symm
  exact mul_left_cancel ha (h.trans (mul_inv a ha).symm)
theorem zero_inv : inv 0 = 0 := zero_pow 254 (by decide)
theorem square_add (a b : F) : (a + b) * (a + b) = a * a + b * b := by
  rw [add_mul, mul_add, mul_add, mul_comm b a, add_assoc, ← add_assoc (a * b) (a * b), add_self, zero_add]
theorem add_eq_zero_iff {a b : F} : a + b = 0 ↔ a = b := ⟨eq_of_add_zero, fun h => by rw [h, add_self]⟩
end Go.Proofs.Ytmdeldiocaofkaa.Gf
