import Derived.Test.YtncoakokdajibaaMendManyF1
/- The field of 256 numbers, in plain Lean: products bit by bit, reduced by 0x11D; its laws. No condition. -/
namespace Go.Proofs.Ytncoakokdajibaa.Gf
def sel (c : Bool) (x : Nat) : Nat := bif c then x else 0
theorem sel_true (x : Nat) : sel true x = x := rfl
theorem sel_false (x : Nat) : sel false x = 0 := rfl
theorem sel_xor (c d : Bool) (x : Nat) : sel (c ^^ d) x = sel c x ^^^ sel d x := by
  cases c <;> cases d <;> simp [sel]
theorem sel_xor_right (c : Bool) (x y : Nat) : sel c (x ^^^ y) = sel c x ^^^ sel c y := by
  cases c <;> simp [sel]
def xt (a : Nat) : Nat := (a <<< 1) ^^^ sel (a.testBit 7) 285
theorem xt_xor (a b : Nat) : xt (a ^^^ b) = xt a ^^^ xt b := by
  unfold xt
  rw [Nat.shiftLeft_xor_distrib, Nat.testBit_xor, sel_xor]
  ac_rfl
def xts : Nat → Nat → Nat
  | 0, a => a
  | n + 1, a => xts n (xt a)
theorem xts_xor (n : Nat) : ∀ a b, xts n (a ^^^ b) = xts n a ^^^ xts n b := by
  induction n with
  | zero => intro a b; rfl
  | succ n ih => intro a b; rw [xts, xt_xor, ih]; rfl
def mulTo : Nat → Nat → Nat → Nat
  | 0, _, _ => 0
  | n + 1, a, b => mulTo n a b ^^^ sel (b.testBit n) (xts n a)
def mulN (a b : Nat) : Nat := mulTo 8 a b
theorem mulTo_right (n a b c : Nat) : mulTo n a (b ^^^ c) = mulTo n a b ^^^ mulTo n a c := by
  induction n with
  | zero => simp [mulTo]
  | succ n ih => rw [mulTo, mulTo, mulTo, ih, Nat.testBit_xor, sel_xor]; ac_rfl
theorem mulTo_left (n a b c : Nat) : mulTo n (a ^^^ b) c = mulTo n a c ^^^ mulTo n b c := by
  induction n with
  | zero => simp [mulTo]
  | succ n ih => rw [mulTo, mulTo, mulTo, ih, xts_xor, sel_xor_right]; ac_rfl
theorem mulTo_zero (n a : Nat) : mulTo n a 0 = 0 := by
  induction n with
  | zero => rfl
  | succ n ih => rw [mulTo, ih]; simp [sel]
theorem xts_zero (n : Nat) : xts n 0 = 0 := by
  induction n with
  | zero => rfl
  | succ n ih => rw [xts]; exact ih
theorem zero_mulTo (n b : Nat) : mulTo n 0 b = 0 := by
  induction n with
  | zero => rfl
  | succ n ih => rw [mulTo, ih, xts_zero]; cases b.testBit n <;> rfl
theorem split8 (a : Nat) (h : a < 256) : a = sel (a.testBit 0) 1 ^^^ sel (a.testBit 1) 2 ^^^ sel (a.testBit 2) 4 ^^^ sel (a.testBit 3) 8 ^^^ sel (a.testBit 4) 16 ^^^ sel (a.testBit 5) 32 ^^^ sel (a.testBit 6) 64 ^^^ sel (a.testBit 7) 128 := by
  have : ∀ a, a < 256 → a = sel (a.testBit 0) 1 ^^^ sel (a.testBit 1) 2 ^^^ sel (a.testBit 2) 4 ^^^ sel (a.testBit 3) 8 ^^^ sel (a.testBit 4) 16 ^^^ sel (a.testBit 5) 32 ^^^ sel (a.testBit 6) 64 ^^^ sel (a.testBit 7) 128 := by decide +kernel
  exact this a h
theorem lin_ext (f g : Nat → Nat) (hf : ∀ a b, f (a ^^^ b) = f a ^^^ f b) (hg : ∀ a b, g (a ^^^ b) = g a ^^^ g b) (hb : ∀ i, i < 8 → f (2 ^ i) = g (2 ^ i)) (a : Nat) (h : a < 256) : f a = g a := by
  have f0 : f 0 = 0 := by have := hf 0 0; simpa using this
  have g0 : g 0 = 0 := by have := hg 0 0; simpa using this
  have hs : ∀ (c : Bool) i, i < 8 → f (sel c (2 ^ i)) = g (sel c (2 ^ i)) := by
    intro c i hi
    cases c
    · simp only [sel_false, f0, g0]
    · simp only [sel_true]; exact hb i hi
  rw [split8 a h]
  simp only [hf, hg]
  have h0 := hs (a.testBit 0) 0 (by decide)
  have h1 := hs (a.testBit 1) 1 (by decide)
  have h2 := hs (a.testBit 2) 2 (by decide)
  have h3 := hs (a.testBit 3) 3 (by decide)
  have h4 := hs (a.testBit 4) 4 (by decide)
  have h5 := hs (a.testBit 5) 5 (by decide)
  have h6 := hs (a.testBit 6) 6 (by decide)
  have h7 := hs (a.testBit 7) 7 (by decide)
  simp only [Nat.reducePow] at h0 h1 h2 h3 h4 h5 h6 h7
  rw [h0, h1, h2, h3, h4, h5, h6, h7]
theorem mulN_right (a b c : Nat) : mulN a (b ^^^ c) = mulN a b ^^^ mulN a c := mulTo_right 8 a b c
theorem mulN_left (a b c : Nat) : mulN (a ^^^ b) c = mulN a c ^^^ mulN b c := mulTo_left 8 a b c
theorem mulN_zero (a : Nat) : mulN a 0 = 0 := mulTo_zero 8 a
theorem zero_mulN (a : Nat) : mulN 0 a = 0 := zero_mulTo 8 a
theorem sel_lt (c : Bool) (x : Nat) (h : x < 256) : sel c x < 256 := by cases c <;> simp [sel, h]
theorem xt_lt (a : Nat) (h : a < 256) : xt a < 256 := by
  have : ∀ a, a < 256 → xt a < 256 := by decide +kernel
  exact this a h
theorem xts_lt (n : Nat) : ∀ a, a < 256 → xts n a < 256 := by
  induction n with
  | zero => intro a h; exact h
  | succ n ih => intro a h; exact ih _ (xt_lt a h)
theorem xor_lt (a b : Nat) (h : a < 256) (k : b < 256) : a ^^^ b < 256 := Nat.xor_lt_two_pow (n := 8) h k
theorem mulTo_lt (n a b : Nat) (h : a < 256) : mulTo n a b < 256 := by
  induction n with
  | zero => exact (by decide : 0 < 256)
  | succ n ih => exact xor_lt _ _ ih (sel_lt _ _ (xts_lt n a h))
theorem mulN_lt (a b : Nat) (h : a < 256) : mulN a b < 256 := mulTo_lt 8 a b h
theorem mulN_comm (a b : Nat) (h : a < 256) (k : b < 256) : mulN a b = mulN b a := by
  refine lin_ext (fun a => mulN a b) (fun a => mulN b a) (fun x y => mulN_left x y b) (fun x y => mulN_right b x y) (fun i hi => ?_) a h
  refine lin_ext (fun b => mulN (2 ^ i) b) (fun b => mulN b (2 ^ i)) (fun x y => mulN_right _ x y) (fun x y => mulN_left x y _) (fun j hj => ?_) b k
  have : ∀ i, i < 8 → ∀ j, j < 8 → mulN (2 ^ i) (2 ^ j) = mulN (2 ^ j) (2 ^ i) := by decide +kernel
  exact this i hi j hj
theorem mulN_assoc (a b c : Nat) (h : a < 256) (k : b < 256) (l : c < 256) : mulN (mulN a b) c = mulN a (mulN b c) := by
  refine lin_ext (fun a => mulN (mulN a b) c) (fun a => mulN a (mulN b c)) (fun x y => by simp only [mulN_left]) (fun x y => mulN_left x y _) (fun i hi => ?_) a h
  refine lin_ext (fun b => mulN (mulN (2 ^ i) b) c) (fun b => mulN (2 ^ i) (mulN b c)) (fun x y => by simp only [mulN_right, mulN_left]) (fun x y => by simp only [mulN_right, mulN_left]) (fun j hj => ?_) b k
  refine lin_ext (fun c => mulN (mulN (2 ^ i) (2 ^ j)) c) (fun c => mulN (2 ^ i) (mulN (2 ^ j) c)) (fun x y => mulN_right _ x y) (fun x y => by simp only [mulN_right]) (fun m hm => ?_) c l
  have : ∀ i, i < 8 → ∀ j, j < 8 → ∀ m, m < 8 → mulN (mulN (2 ^ i) (2 ^ j)) (2 ^ m) = mulN (2 ^ i) (mulN (2 ^ j) (2 ^ m)) := by decide +kernel
  exact this i hi j hj m hm
theorem mulN_one (a : Nat) : mulN a 1 = a := by
  show mulTo 8 a 1 = a
  simp only [mulTo]
  have h : ∀ i, 0 < i → Nat.testBit 1 i = false := fun i hi => by
    cases i with
    | zero => omega
    | succ i => simp [Nat.testBit_succ]
  rw [h 1 (by decide), h 2 (by decide), h 3 (by decide), h 4 (by decide), h 5 (by decide), h 6 (by decide), h 7 (by decide)]
  simp [sel, xts]
structure F where
  val : Nat
  lt : val < 256
theorem F.ext {a b : F} (h : a.val = b.val) : a = b := by
  cases a; cases b; cases h; rfl
instance : DecidableEq F := fun a b => if h : a.val = b.val then isTrue (F.ext h) else isFalse (fun e => h (by rw [e]))
instance : Inhabited F := ⟨⟨0, by decide⟩⟩
instance : Zero F := ⟨⟨0, by decide⟩⟩
instance : One F := ⟨⟨1, by decide⟩⟩
instance : Add F := ⟨fun a b => ⟨a.val ^^^ b.val, xor_lt _ _ a.lt b.lt⟩⟩
instance : Mul F := ⟨fun a b => ⟨mulN a.val b.val, mulN_lt _ _ a.lt⟩⟩
theorem zero_val : (0 : F).val = 0 := rfl
theorem one_val : (1 : F).val = 1 := rfl
theorem add_comm (a b : F) : a + b = b + a := F.ext (Nat.xor_comm _ _)
theorem add_assoc (a b c : F) : a + b + c = a + (b + c) := F.ext (Nat.xor_assoc _ _ _)
theorem add_zero (a : F) : a + 0 = a := F.ext (Nat.xor_zero _)
theorem zero_add (a : F) : 0 + a = a := F.ext (Nat.zero_xor _)
theorem add_self (a : F) : a + a = 0 := F.ext (Nat.xor_self _)
theorem add_cancel (a b : F) : a + (a + b) = b := by rw [← add_assoc, add_self, zero_add]
theorem eq_of_add_zero {a b : F} (h : a + b = 0) : a = b := by
  have := congrArg (a + ·) h
  simp only [add_cancel, add_zero] at this
  exact this.symm
theorem mul_comm (a b : F) : a * b = b * a := F.ext (mulN_comm _ _ a.lt b.lt)
theorem mul_assoc (a b c : F) : a * b * c = a * (b * c) := F.ext (mulN_assoc _ _ _ a.lt b.lt c.lt)
theorem mul_one (a : F) : a * 1 = a := F.ext (mulN_one _)
theorem one_mul (a : F) : 1 * a = a := by rw [mul_comm, mul_one]
theorem mul_zero (a : F) : a * 0 = 0 := F.ext (mulN_zero _)
theorem zero_mul (a : F) : 0 * a = 0 := F.ext (zero_mulN _)
theorem mul_add (a b c : F) : a * (b + c) = a * b + a * c := F.ext (mulN_right _ _ _)
theorem add_mul (a b c : F) : (a + b) * c = a * c + b * c := F.ext (mulN_left _ _ _)
theorem one_ne_zero : (1 : F) ≠ 0 := fun h => by have := congrArg F.val h; simp [zero_val, one_val] at this
instance : Std.Associative (α := F) (· + ·) := ⟨add_assoc⟩
instance : Std.Commutative (α := F) (· + ·) := ⟨add_comm⟩
instance : Std.Associative (α := F) (· * ·) := ⟨mul_assoc⟩
instance : Std.Commutative (α := F) (· * ·) := ⟨mul_comm⟩
def pow (a : F) : Nat → F
  | 0 => 1
  | n + 1 => pow a n * a
theorem pow_add (a : F) (m n : Nat) : pow a (m + n) = pow a m * pow a n := by
  induction n with
  | zero => exact (mul_one _).symm
  | succ n ih => show pow a (m + n) * a = pow a m * (pow a n * a); rw [ih, mul_assoc]
theorem pow_one (a : F) : pow a 1 = a := one_mul a
theorem one_pow (n : Nat) : pow 1 n = 1 := by
  induction n with
  | zero => rfl
  | succ n ih => show pow 1 n * 1 = 1; rw [ih, mul_one]
theorem pow_mul (a : F) (m n : Nat) : pow a (m * n) = pow (pow a m) n := by
  induction n with
  | zero => rfl
  | succ n ih => rw [Nat.mul_succ, pow_add, ih]; rfl
def two : F := ⟨2, by decide⟩
def ex : Nat → Nat
  | 0 => 1
  | n + 1 => mulN (ex n) 2
theorem pow_two_val (n : Nat) : (pow two n).val = ex n := by
  induction n with
  | zero => rfl
  | succ n ih => show mulN (pow two n).val 2 = _; rw [ih]; rfl
def exps : Nat → Nat → List Nat
  | 0, _ => []
  | n + 1, x => x :: exps n (mulN x 2)
theorem exps_get (n : Nat) : ∀ (m i : Nat), i < n → (exps n (ex m))[i]? = some (ex (m + i)) := by
  induction n with
  | zero => intro m i h; omega
  | succ n ih =>
    intro m i h
    cases i with
    | zero => simp [exps]
    | succ i =>
      have := ih (m + 1) i (by omega)
      rw [exps, List.getElem?_cons_succ]
      rw [show mulN (ex m) 2 = ex (m + 1) from rfl, this]
      congr 2
      omega
theorem exps_length (n x : Nat) : (exps n x).length = n := by
  induction n generalizing x with
  | zero => rfl
  | succ n ih => simp [exps, ih]
theorem all_exps : ∀ a, a < 256 → a ≠ 0 → (exps 255 1).contains a = true := by decide +kernel
theorem exps_nodup : (exps 255 1).Nodup := by decide +kernel
theorem ex_255 : mulN ((exps 255 1)[254]'(by rw [exps_length]; decide)) 2 = 1 := by decide +kernel
theorem pow_two_255 : pow two 255 = 1 := by
  apply F.ext
  rw [pow_two_val]
  show mulN (ex 254) 2 = 1
  have h := exps_get 255 0 254 (by decide)
  have h2 := ex_255
  have h3 : (exps 255 1)[254]? = some ((exps 255 1)[254]'(by rw [exps_length]; decide)) := List.getElem?_eq_getElem _
  rw [show (exps 255 (ex 0)) = exps 255 1 from rfl, h3] at h
  have h4 := Option.some.inj h
  rw [h4, Nat.zero_add] at h2
  exact h2
theorem log_of (a : F) (h : a ≠ 0) : ∃ n, n < 255 ∧ pow two n = a := by
  have h1 := all_exps a.val a.lt (fun e => h (F.ext e))
  rw [List.contains_iff_mem] at h1
  obtain ⟨i, hi, e⟩ := List.mem_iff_getElem.1 h1
  rw [exps_length] at hi
  refine ⟨i, hi, F.ext ?_⟩
  rw [pow_two_val]
  have := exps_get 255 0 i hi
  rw [show (exps 255 (ex 0)) = exps 255 1 from rfl, List.getElem?_eq_getElem (by rw [exps_length]; exact hi)] at this
  have h2 := Option.some.inj this
  rw [Nat.zero_add] at h2
  rw [← h2, ← e]
theorem pow_two_inj {m n : Nat} (hm : m < 255) (hn : n < 255) (h : pow two m = pow two n) : m = n := by
  have h1 := congrArg F.val h
  rw [pow_two_val, pow_two_val] at h1
  have em := exps_get 255 0 m hm
  have en := exps_get 255 0 n hn
  rw [Nat.zero_add, show (exps 255 (ex 0)) = exps 255 1 from rfl] at em en
  rw [← h1, ← em] at en
  exact ((List.getElem?_inj (by rw [exps_length]; exact hn) exps_nodup).1 en).symm
theorem pow_two_mod (n : Nat) : pow two n = pow two (n % 255) := by
  conv => lhs; rw [← Nat.div_add_mod n 255]
  rw [pow_add, pow_mul, pow_two_255, one_pow, one_mul]
theorem pow_255 (a : F) (h : a ≠ 0) : pow a 255 = 1 := by
  obtain ⟨n, _, rfl⟩ := log_of a h
  rw [← pow_mul, Nat.mul_comm, pow_mul, pow_two_255, one_pow]
theorem two_ne_zero : two ≠ 0 := fun h => by have := congrArg F.val h; simp [two, zero_val] at this
def inv (a : F) : F := pow a 254
theorem mul_inv (a : F) (h : a ≠ 0) : a * inv a = 1 := by
  rw [mul_comm]
  exact pow_255 a h
theorem inv_mul (a : F) (h : a ≠ 0) : inv a * a = 1 := pow_255 a h
theorem mul_eq_zero {a b : F} (h : a * b = 0) : a = 0 ∨ b = 0 := by
  by_cases ha : a = 0
  · exact .inl ha
  · right
    have := congrArg (inv a * ·) h
    simp only [← mul_assoc, inv_mul a ha, one_mul, mul_zero] at this
    exact this
theorem mul_ne_zero {a b : F} (h : a ≠ 0) (k : b ≠ 0) : a * b ≠ 0 := fun e => (mul_eq_zero e).elim h k
theorem pow_ne_zero {a : F} (h : a ≠ 0) (n : Nat) : pow a n ≠ 0 := by
  induction n with
  | zero => exact one_ne_zero
  | succ n ih => exact mul_ne_zero ih h
theorem mul_right_cancel {a b c : F} (h : c ≠ 0) (e : a * c = b * c) : a = b := by
  have := congrArg (· * inv c) e
  simpa only [mul_assoc, mul_inv c h, mul_one] using this
theorem inv_ne_zero {a : F} (h : a ≠ 0) : inv a ≠ 0 := pow_ne_zero h _
theorem add_eq_zero_iff {a b : F} : a + b = 0 ↔ a = b := ⟨eq_of_add_zero, fun h => by rw [h, add_self]⟩
end Go.Proofs.Ytncoakokdajibaa.Gf
namespace Go.Proofs.Ytncoakokdajibaa.Sem
open Go.RowKit Go.Proofs.Ytncoakokdajibaa.Q Go.Proofs.YtncoakokdajibaaW.PrintWords Go.Proofs.YtncoakokdajibaaW.PrintLast Go.Proofs.Ytncoakokdajibaa.Gf
def I (a : F) : Int := (a.val : Int)
theorem I_inj {a b : F} (h : I a = I b) : a = b := F.ext (by unfold I at h; omega)
theorem I_lo (a : F) : 0 ≤ I a := by unfold I; omega
theorem I_hi (a : F) : I a ≤ 255 := by have := a.lt; unfold I; omega
theorem I_zero : I 0 = 0 := rfl
theorem I_one : I 1 = 1 := rfl
theorem I_eq_zero {a : F} : I a = 0 ↔ a = 0 := ⟨fun h => I_inj h, fun h => by rw [h]; rfl⟩
theorem bits_xor_any (k : IntKind) (j : Nat) (hj : j ≤ k.bits) (hk : ∀ n : Int, 0 ≤ n → n < 2 ^ j → k.wrap n = n) (a b : Nat) (ha : a < 2 ^ j) (hb : b < 2 ^ j) :
    Go.bits .xor k a b = ((a ^^^ b : Nat) : Int) := by
  have hp : 2 ^ j ≤ 2 ^ k.bits := Nat.pow_le_pow_right (by decide) hj
  have ha' : a % 2 ^ k.bits = a := Nat.mod_eq_of_lt (Nat.lt_of_lt_of_le ha hp)
  have hb' : b % 2 ^ k.bits = b := Nat.mod_eq_of_lt (Nat.lt_of_lt_of_le hb hp)
  have cast : ∀ n : Nat, n < 2 ^ j → ((n : Nat) : Int) < 2 ^ j := fun n h => by exact_mod_cast h
  simp only [Go.bits, BitVec.ofInt_natCast, BitVec.toNat_xor, BitVec.toNat_ofNat, ha', hb']
  exact hk _ (Int.natCast_nonneg _) (cast _ (Nat.xor_lt_two_pow ha hb))
theorem bits_xor_nat (a b : Nat) (h : a < 256) (k : b < 256) : Go.bits .xor .u8 (a : Int) (b : Int) = ((a ^^^ b : Nat) : Int) :=
  bits_xor_any .u8 8 (by decide) wraps_u8 a b h k
theorem bx (a b : F) : Go.bits .xor .u8 (I a) (I b) = I (a + b) := bits_xor_nat _ _ a.lt b.lt
theorem and_one (b : Nat) (k : b < 256) : Go.bits .and .u8 (b : Int) 1 = ((b % 2 : Nat) : Int) := by
  have := bits_mask .u8 8 (by decide) wraps_u8 1 (by decide) (b : Int) (by omega) (by omega)
  simpa using this
theorem xt_int (a : Nat) (h : a < 256) : Go.bits .xor .u8 (((a : Int) * 2) % 256) ((((a : Int) / 128) * 29) % 256) = (xt a : Int) := by
  have e1 : ((a : Int) * 2) % 256 = ((a * 2 % 256 : Nat) : Int) := by omega
  have e2 : (((a : Int) / 128) * 29) % 256 = (((a / 128) * 29 % 256 : Nat) : Int) := by omega
  rw [e1, e2, bits_xor_nat _ _ (by omega) (by omega)]
  have : ∀ a, a < 256 → (a * 2 % 256) ^^^ ((a / 128) * 29 % 256) = xt a := by decide +kernel
  rw [this a h]
theorem sel_mul (a b : Nat) (h : a < 256) : (a * (b % 2)) % 256 = sel (b.testBit 0) a := by
  rw [Nat.testBit_zero]
  have : b % 2 = 0 ∨ b % 2 = 1 := by omega
  rcases this with h1 | h1
  · rw [h1]; simp [sel]
  · rw [h1, Nat.mul_one, Nat.mod_eq_of_lt h]; simp [sel]
theorem mulTo_low (n : Nat) : ∀ a b, mulTo (n + 1) a b = sel (b.testBit 0) a ^^^ mulTo n (xt a) (b / 2) := by
  induction n with
  | zero => intro a b; simp [mulTo, xts]
  | succ n ih =>
    intro a b
    rw [mulTo, ih, mulTo, Nat.testBit_succ, Nat.xor_assoc]
    rfl
theorem times_l0 (n : Nat) : ∀ (k a b p : Nat), a < 256 → p < 256 → b < 2 ^ n → n < k → b < 256 → field_Times.l0 k a b p = some ((p ^^^ mulTo n a b : Nat) : Int) := by
  induction n with
  | zero =>
    intro k a b p _ _ hb hk _
    obtain ⟨k, rfl⟩ : ∃ m, k = m + 1 := ⟨k - 1, by omega⟩
    rw [field_Times.l0, if_neg (by omega)]
    simp [mulTo]
  | succ n ih =>
    intro k a b p ha hp hb hk hb8
    obtain ⟨k, rfl⟩ : ∃ m, k = m + 1 := ⟨k - 1, by omega⟩
    by_cases h : (b : Int) > 0
    · rw [field_Times.l0, if_pos h, xt_int a ha, and_one b hb8, show ((a : Int) * ((b % 2 : Nat) : Int)) % 256 = (((a * (b % 2)) % 256 : Nat) : Int) from by rw [← Int.natCast_mul]; rfl, sel_mul a b ha, bits_xor_nat _ _ hp (sel_lt _ _ ha), show ((b : Int) / 2) = ((b / 2 : Nat) : Int) from by omega]
      rw [ih k _ _ _ (xt_lt a ha) (xor_lt _ _ hp (sel_lt _ _ ha)) (by rw [Nat.pow_succ] at hb; omega) (by omega) (by omega), mulTo_low, Nat.xor_assoc]
    · have : b = 0 := by omega
      subst this
      rw [field_Times.l0, if_neg h, mulTo_zero, Nat.xor_zero]
theorem times (k : Nat) (hk : 9 ≤ k) (a b : F) : field_Times.f k (I a) (I b) = some (I (a * b)) := by
  unfold field_Times.f
  have := times_l0 8 k a.val b.val 0 a.lt (by decide) b.lt (by omega) b.lt
  rw [Nat.zero_xor] at this
  exact this
theorem and_one_i64 (n : Nat) (h : n < 9223372036854775808) : Go.bits .and .i64 (n : Int) 1 = ((n % 2 : Nat) : Int) := by
  have := bits_mask .i64 63 (by decide) (fun n h0 h1 => by rw [IntKind.wrap_i64]; omega) 1 (by decide) (n : Int) (by omega) (by omega)
  simpa using this
theorem raised_l0 (m : Nat) : ∀ (k : Nat) (a p : F) (n : Nat), n < 2 ^ m → m ≤ 63 → m + 9 < k → field_raised.l0 k (I a) (n : Int) (I p) = some (I (p * pow a n)) := by
  induction m with
  | zero =>
    intro k a p n hn hm hk
    obtain ⟨k, rfl⟩ : ∃ m, k = m + 1 := ⟨k - 1, by omega⟩
    have : n = 0 := by simpa using hn
    subst this
    rw [field_raised.l0, if_neg (by omega), show pow a 0 = 1 from rfl, mul_one]
  | succ m ih =>
    intro k a p n hn hm hk
    obtain ⟨k, rfl⟩ : ∃ m, k = m + 1 := ⟨k - 1, by omega⟩
    have h63 : (2 : Nat) ^ (m + 1) ≤ 2 ^ 63 := Nat.pow_le_pow_right (by decide) hm
    by_cases h : (n : Int) > 0
    · rw [field_raised.l0, if_pos h, and_one_i64 n (by omega), show ((n : Int) / 2) = ((n / 2 : Nat) : Int) from by omega]
      have hsq : pow a n = pow (a * a) (n / 2) * pow a (n % 2) := by
        conv => lhs; rw [← Nat.div_add_mod n 2]
        rw [pow_add, pow_mul, show pow a 2 = a * a from by rw [show (2 : Nat) = 1 + 1 from rfl, pow_add, pow_one]]
      have hn2 : n / 2 < 2 ^ m := by rw [Nat.pow_succ] at hn; omega
      by_cases hb : ((n % 2 : Nat) : Int) > 0
      · rw [if_pos hb, times k (by omega), Option.bind_some, times k (by omega), Option.bind_some, ih k _ _ _ hn2 (by omega) (by omega), hsq]
        have : n % 2 = 1 := by omega
        rw [this, pow_one]
        congr 2
        ac_rfl
      · rw [if_neg hb, times k (by omega), Option.bind_some, ih k _ _ _ hn2 (by omega) (by omega), hsq]
        have : n % 2 = 0 := by omega
        rw [this, show pow a 0 = 1 from rfl, mul_one]
    · have : n = 0 := by omega
      subst this
      rw [field_raised.l0, if_neg h, show pow a 0 = 1 from rfl, mul_one]
theorem raised (k : Nat) (hk : 18 ≤ k) (a : F) (n : Nat) (hn : n < 256) : field_raised.f k (I a) (n : Int) = some (I (pow a n)) := by
  unfold field_raised.f
  have := raised_l0 8 k a 1 n hn (by decide) (by omega)
  rw [one_mul] at this
  exact this
theorem raised_inv (k : Nat) (hk : 18 ≤ k) (a : F) : field_raised.f k (I a) 254 = some (I (inv a)) := raised k hk a 254 (by decide)
theorem mod255 (n : Int) : Int.tmod (wrap64 ((Int.tmod n 255) + 255)) 255 = n % 255 := by
  have h1 : -255 < Int.tmod n 255 ∧ Int.tmod n 255 < 255 := ⟨by have := Int.lt_tmod_of_pos n (show (0 : Int) < 255 by decide); omega, Int.tmod_lt_of_pos n (by decide)⟩
  have hw : wrap64 ((Int.tmod n 255) + 255) = Int.tmod n 255 + 255 := by unfold wrap64; omega
  rw [hw, Int.tmod_eq_emod_of_nonneg (by omega)]
  have := Int.tmod_add_mul_tdiv n 255
  omega
theorem exp_any (k : Nat) (hk : 18 ≤ k) (n : Int) : field_Exp.f k n = some (I (pow two (n % 255).toNat)) := by
  unfold field_Exp.f
  obtain ⟨m, hm⟩ : ∃ m : Nat, n % 255 = (m : Int) := ⟨(n % 255).toNat, by omega⟩
  rw [mod255 n, hm, show (2 : Int) = I two from rfl, raised k hk two m (by omega), Option.bind_some, Int.toNat_natCast]
theorem exp_nat (k : Nat) (hk : 18 ≤ k) (n : Nat) : field_Exp.f k (n : Int) = some (I (pow two n)) := by
  rw [exp_any k hk n, pow_two_mod n, show ((n : Int) % 255).toNat = n % 255 from by omega]
end Go.Proofs.Ytncoakokdajibaa.Sem
namespace Go.Proofs.Ytncoakokdajibaa.Sem
open Go.RowKit Go.Proofs.Ytncoakokdajibaa.Q Go.Proofs.YtncoakokdajibaaW.PrintWords Go.Proofs.YtncoakokdajibaaW.PrintLast Go.Proofs.Ytncoakokdajibaa.Gf
def L (p : List F) : List Int := p.map I
theorem L_length (p : List F) : (L p).length = p.length := List.length_map _
theorem L_inj {p q : List F} (h : L p = L q) : p = q := by
  induction p generalizing q with
  | nil => cases q with
    | nil => rfl
    | cons b q => simp [L] at h
  | cons a p ih => cases q with
    | nil => simp [L] at h
    | cons b q =>
      simp only [L, List.map_cons, List.cons.injEq] at h
      rw [I_inj h.1, ih h.2]
theorem L_append (p q : List F) : L (p ++ q) = L p ++ L q := List.map_append
theorem L_take (p : List F) (n : Nat) : (L p).take n = L (p.take n) := (List.map_take).symm
theorem L_set (p : List F) (n : Nat) (a : F) : (L p).set n (I a) = L (p.set n a) := (List.map_set).symm
theorem L_replicate (n : Nat) : List.replicate n (0 : Int) = L (List.replicate n 0) := by rw [L, List.map_replicate]; rfl
def at_ (p : List F) (n : Nat) : F := p.getD n 0
theorem rd_L (p : List F) (i : Int) : rd (L p) i = I (at_ p i.toNat) := by
  unfold rd L at_
  rw [List.getD_eq_getElem?_getD, List.getD_eq_getElem?_getD, List.getElem?_map]
  cases p[i.toNat]? with
  | none => rfl
  | some a => rfl
theorem at_ge (p : List F) (n : Nat) (h : p.length ≤ n) : at_ p n = 0 := by
  unfold at_
  rw [List.getD_eq_getElem?_getD, List.getElem?_eq_none h]; rfl
theorem at_lt (p : List F) (n : Nat) (h : n < p.length) : at_ p n = p[n] := by
  unfold at_
  rw [List.getD_eq_getElem?_getD, List.getElem?_eq_getElem h]; rfl
theorem at_set (p : List F) (n m : Nat) (a : F) (h : n < p.length) : at_ (p.set n a) m = if m = n then a else at_ p m := by
  unfold at_
  rw [List.getD_eq_getElem?_getD, List.getD_eq_getElem?_getD, List.getElem?_set]
  by_cases e : n = m
  · subst e; simp [h]
  · rw [if_neg e, if_neg (fun x => e x.symm)]
theorem at_append (p q : List F) (n : Nat) : at_ (p ++ q) n = if n < p.length then at_ p n else at_ q (n - p.length) := by
  unfold at_
  rw [List.getD_eq_getElem?_getD, List.getD_eq_getElem?_getD, List.getD_eq_getElem?_getD, List.getElem?_append]
  split <;> rfl
theorem at_take (p : List F) (m n : Nat) : at_ (p.take m) n = if n < m then at_ p n else 0 := by
  unfold at_
  rw [List.getD_eq_getElem?_getD, List.getD_eq_getElem?_getD, List.getElem?_take]
  split <;> rfl
theorem at_replicate (m n : Nat) : at_ (List.replicate m 0) n = 0 := by
  unfold at_
  rw [List.getD_eq_getElem?_getD, List.getElem?_replicate]
  split <;> rfl
theorem at_nil (n : Nat) : at_ [] n = 0 := at_ge _ _ (Nat.zero_le _)
theorem ext_at {p q : List F} (hl : p.length = q.length) (h : ∀ n, n < p.length → at_ p n = at_ q n) : p = q := by
  apply List.ext_getElem hl
  intro n h1 h2
  have := h n h1
  rwa [at_lt p n h1, at_lt q n h2] at this
def trimTo : Nat → List F → List F
  | 0, _ => []
  | n + 1, p => if at_ p n = 0 then trimTo n p else p.take (n + 1)
def trim (p : List F) : List F := trimTo p.length p
theorem wrap_id (x : Int) (h0 : -9223372036854775808 ≤ x) (h1 : x ≤ 9223372036854775807) : wrap64 x = x := by unfold wrap64; omega
theorem trimTo_at (n : Nat) (p : List F) : n ≤ p.length → ∀ m, at_ (trimTo n p) m = if m < n then at_ p m else 0 := by
  induction n with
  | zero => intro _ m; rw [trimTo, at_nil, if_neg (by omega)]
  | succ n ih =>
    intro h m
    rw [trimTo]
    by_cases hz : at_ p n = 0
    · rw [if_pos hz, ih (by omega)]
      by_cases e : m = n
      · subst e; rw [if_neg (by omega), if_pos (by omega), hz]
      · by_cases e2 : m < n
        · rw [if_pos e2, if_pos (by omega)]
        · rw [if_neg e2, if_neg (by omega)]
    · rw [if_neg hz, at_take]
theorem trim_at (p : List F) (m : Nat) : at_ (trim p) m = at_ p m := by
  unfold trim
  rw [trimTo_at _ _ (Nat.le_refl _)]
  split
  · rfl
  · rw [at_ge p m (by omega)]
theorem trimTo_last (n : Nat) (p : List F) : n ≤ p.length → trimTo n p = [] ∨ at_ (trimTo n p) ((trimTo n p).length - 1) ≠ 0 := by
  induction n with
  | zero => intro _; exact .inl rfl
  | succ n ih =>
    intro h
    rw [trimTo]
    by_cases hz : at_ p n = 0
    · rw [if_pos hz]; exact ih (by omega)
    · rw [if_neg hz]
      right
      rw [List.length_take, at_take, if_pos (by omega), show min (n + 1) p.length - 1 = n from by omega]
      exact hz
def IsPoly (p : List F) : Prop := p = [] ∨ at_ p (p.length - 1) ≠ 0
theorem trim_isPoly (p : List F) : IsPoly (trim p) := trimTo_last _ p (Nat.le_refl _)
end Go.Proofs.Ytncoakokdajibaa.Sem
namespace Go.Proofs.Ytncoakokdajibaa.Sem
open Go.RowKit Go.Proofs.Ytncoakokdajibaa.Gf
theorem at_cons_zero (a : F) (p : List F) : at_ (a :: p) 0 = a := rfl
theorem at_cons_succ (a : F) (p : List F) (n : Nat) : at_ (a :: p) (n + 1) = at_ p n := rfl
def addL : List F → List F → List F
  | [], q => q
  | a :: p, [] => a :: p
  | a :: p, b :: q => (a + b) :: addL p q
theorem at_addL (p q : List F) (n : Nat) : at_ (addL p q) n = at_ p n + at_ q n := by
  induction p generalizing q n with
  | nil => rw [addL, at_nil, zero_add]
  | cons a p ih =>
    cases q with
    | nil => rw [addL, at_nil, add_zero]
    | cons b q =>
      cases n with
      | zero => rfl
      | succ n => rw [addL, at_cons_succ, at_cons_succ, at_cons_succ, ih]
theorem addL_length (p q : List F) : (addL p q).length = max p.length q.length := by
  induction p generalizing q with
  | nil => simp [addL]
  | cons a p ih =>
    cases q with
    | nil => simp [addL]
    | cons b q => simp [addL, ih]
def smul (a : F) (p : List F) : List F := p.map (a * ·)
theorem at_smul (a : F) (p : List F) (n : Nat) : at_ (smul a p) n = a * at_ p n := by
  unfold smul at_
  rw [List.getD_eq_getElem?_getD, List.getD_eq_getElem?_getD, List.getElem?_map]
  cases p[n]? with
  | none => exact (mul_zero a).symm
  | some b => rfl
theorem smul_length (a : F) (p : List F) : (smul a p).length = p.length := List.length_map _
def mulL : List F → List F → List F
  | [], _ => []
  | a :: p, q => addL (smul a q) (0 :: mulL p q)
theorem at_mulL_zero (a : F) (p q : List F) : at_ (mulL (a :: p) q) 0 = a * at_ q 0 := by rw [mulL, at_addL, at_smul, at_cons_zero, add_zero]
theorem at_mulL_succ (a : F) (p q : List F) (n : Nat) : at_ (mulL (a :: p) q) (n + 1) = a * at_ q (n + 1) + at_ (mulL p q) n := by rw [mulL, at_addL, at_smul, at_cons_succ]
theorem mulL_length (p q : List F) : (mulL p q).length ≤ p.length + q.length := by
  induction p with
  | nil => simp [mulL]
  | cons a p ih => rw [mulL, addL_length, smul_length]; simp only [List.length_cons]; omega
def Sm (p q : List F) : Prop := ∀ n, at_ p n = at_ q n
theorem Sm.refl (p : List F) : Sm p p := fun _ => rfl
theorem Sm.symm {p q : List F} (h : Sm p q) : Sm q p := fun n => (h n).symm
theorem Sm.trans {p q r : List F} (h : Sm p q) (k : Sm q r) : Sm p r := fun n => (h n).trans (k n)
theorem Sm.trim (p : List F) : Sm (trim p) p := trim_at p
theorem Sm.addL {p p' q q' : List F} (h : Sm p p') (k : Sm q q') : Sm (addL p q) (addL p' q') := fun n => by rw [at_addL, at_addL, h, k]
theorem Sm.smul {p q : List F} (a : F) (h : Sm p q) : Sm (smul a p) (smul a q) := fun n => by rw [at_smul, at_smul, h]
theorem Sm.cons {p q : List F} (a : F) (h : Sm p q) : Sm (a :: p) (a :: q) := fun n => by
  cases n with
  | zero => rfl
  | succ n => exact h n
theorem mulL_zero (p q : List F) (h : ∀ n, at_ p n = 0) : ∀ n, at_ (mulL p q) n = 0 := by
  induction p with
  | nil => intro n; exact at_nil n
  | cons a p ih =>
    have ha : a = 0 := h 0
    have hp : ∀ n, at_ p n = 0 := fun n => h (n + 1)
    intro n
    cases n with
    | zero => rw [at_mulL_zero, ha, zero_mul]
    | succ n => rw [at_mulL_succ, ha, zero_mul, zero_add, ih hp]
theorem mulL_nil (p : List F) : ∀ n, at_ (mulL p []) n = 0 := by
  induction p with
  | nil => intro n; exact at_nil n
  | cons a p ih =>
    intro n
    cases n with
    | zero => rw [at_mulL_zero, at_nil, mul_zero]
    | succ n => rw [at_mulL_succ, at_nil, mul_zero, zero_add, ih]
theorem mulL_cons_right (p : List F) (b : F) (q : List F) : Sm (mulL p (b :: q)) (addL (smul b p) (0 :: mulL p q)) := by
  induction p with
  | nil => intro n; rw [mulL, at_addL, at_smul, at_nil, mul_zero, zero_add]; cases n <;> rfl
  | cons a p ih =>
    intro n
    cases n with
    | zero => rw [at_mulL_zero, at_addL, at_smul, at_cons_zero, at_cons_zero, at_cons_zero, mul_comm, add_zero]
    | succ n =>
      rw [at_mulL_succ, at_cons_succ, ih, at_addL, at_smul, at_addL, at_smul, at_cons_succ, at_cons_succ]
      cases n with
      | zero => rw [at_cons_zero, at_mulL_zero, add_zero]; ac_rfl
      | succ n => rw [at_cons_succ, at_mulL_succ]; ac_rfl
theorem mulL_comm (p q : List F) : Sm (mulL p q) (mulL q p) := by
  induction p with
  | nil => intro n; rw [mulL, at_nil, mulL_nil]
  | cons a p ih => exact fun n => by rw [(mulL_cons_right q a p), mulL, at_addL, at_addL]; exact congrArg _ (ih.cons 0 n)
theorem mulL_one_left (p : List F) : Sm (mulL [1] p) p := fun n => by
  rw [mulL, at_addL, at_smul, one_mul, show mulL [] p = [] from rfl]
  have : at_ ([0] : List F) n = 0 := by cases n <;> rfl
  rw [this, add_zero]
def evp : List F → F → F
  | [], _ => 0
  | a :: p, x => a + x * evp p x
theorem evp_zero (p : List F) (x : F) (h : ∀ n, at_ p n = 0) : evp p x = 0 := by
  induction p with
  | nil => rfl
  | cons a p ih => rw [evp, ih (fun n => h (n + 1)), mul_zero, add_zero]; exact h 0
theorem evp_congr {p q : List F} (h : Sm p q) (x : F) : evp p x = evp q x := by
  induction p generalizing q with
  | nil => rw [evp_zero q x (fun n => (h n).symm.trans (at_nil n))]; rfl
  | cons a p ih =>
    cases q with
    | nil => rw [evp_zero (a :: p) x (fun n => (h n).trans (at_nil n))]; rfl
    | cons b q =>
      have : a = b := h 0
      rw [evp, evp, this, ih (fun n => h (n + 1))]
theorem evp_addL (p q : List F) (x : F) : evp (addL p q) x = evp p x + evp q x := by
  induction p generalizing q with
  | nil => rw [addL, evp, zero_add]
  | cons a p ih =>
    cases q with
    | nil => rw [addL, show evp [] x = 0 from rfl, add_zero]
    | cons b q => rw [addL, evp, evp, evp, ih, mul_add]; ac_rfl
theorem evp_smul (a : F) (p : List F) (x : F) : evp (smul a p) x = a * evp p x := by
  induction p with
  | nil => exact (mul_zero a).symm
  | cons b p ih => rw [show smul a (b :: p) = (a * b) :: smul a p from rfl, evp, evp, ih, mul_add]; ac_rfl
theorem evp_mulL (p q : List F) (x : F) : evp (mulL p q) x = evp p x * evp q x := by
  induction p with
  | nil => exact (zero_mul _).symm
  | cons a p ih => rw [mulL, evp_addL, evp_smul, evp, evp, ih, zero_add, add_mul, mul_assoc]
theorem evp_trim (p : List F) (x : F) : evp (trim p) x = evp p x := evp_congr (Sm.trim p) x
def mulP (p q : List F) : List F := trim (mulL p q)
theorem evp_mulP (p q : List F) (x : F) : evp (mulP p q) x = evp p x * evp q x := by rw [mulP, evp_trim, evp_mulL]
theorem at_mulL_top (p q : List F) (hp : p ≠ []) (hq : q ≠ []) : at_ (mulL p q) (p.length - 1 + (q.length - 1)) = at_ p (p.length - 1) * at_ q (q.length - 1) := by
  induction p with
  | nil => exact absurd rfl hp
  | cons a p ih =>
    cases p with
    | nil =>
      rw [List.length_singleton, Nat.sub_self, Nat.zero_add, mulL, at_addL, at_smul, show mulL [] q = [] from rfl]
      have : at_ ([0] : List F) (q.length - 1) = 0 := by cases q.length - 1 <;> rfl
      rw [this, add_zero]; rfl
    | cons b p =>
      have hq1 : 0 < q.length := List.length_pos_iff.2 hq
      have e1 : (a :: b :: p).length - 1 + (q.length - 1) = ((b :: p).length - 1 + (q.length - 1)) + 1 := by simp only [List.length_cons]; omega
      rw [e1, at_mulL_succ, ih (by simp), at_ge q _ (by simp only [List.length_cons]; omega), mul_zero, zero_add]
      rfl
theorem isPoly_ne {p : List F} (h : IsPoly p) (hn : p ≠ []) : at_ p (p.length - 1) ≠ 0 := h.elim (fun e => absurd e hn) id
theorem length_of_top {p : List F} (h : IsPoly p) (n : Nat) (h1 : at_ p n ≠ 0) (h2 : ∀ m, n < m → at_ p m = 0) : p.length = n + 1 := by
  have h3 : n < p.length := Nat.lt_of_not_le (fun e => h1 (at_ge p n e))
  rcases h with rfl | h
  · simp at h3
  · by_cases e : p.length = n + 1
    · exact e
    · exact absurd (h2 (p.length - 1) (by omega)) h
theorem mulP_length {p q : List F} (hp : IsPoly p) (hq : IsPoly q) (h1 : p ≠ []) (h2 : q ≠ []) : (mulP p q).length = p.length + q.length - 1 := by
  have l1 : 0 < p.length := List.length_pos_iff.2 h1
  have l2 : 0 < q.length := List.length_pos_iff.2 h2
  have := length_of_top (trim_isPoly (mulL p q)) (p.length - 1 + (q.length - 1)) (by rw [trim_at, at_mulL_top p q h1 h2]; exact mul_ne_zero (isPoly_ne hp h1) (isPoly_ne hq h2)) ?_
  · unfold mulP; omega
  · intro m hm
    rw [trim_at]
    by_cases e : (mulL p q).length ≤ m
    · exact at_ge _ _ e
    · have hl := mulL_length p q
      have : m = p.length + q.length - 1 := by omega
      subst this
      clear hl e hm hp hq
      induction p with
      | nil => exact absurd rfl h1
      | cons a p ih =>
        cases p with
        | nil =>
          rw [mulL, at_addL, at_smul, show mulL [] q = [] from rfl, at_ge q _ (by simp), mul_zero, zero_add]
          cases h : ([a] : List F).length + q.length - 1 with
          | zero => rw [List.length_singleton] at h; omega
          | succ n => rw [at_cons_succ, at_nil]
        | cons b p =>
          have e1 : (a :: b :: p).length + q.length - 1 = ((b :: p).length + q.length - 1) + 1 := by simp only [List.length_cons]; omega
          rw [e1, at_mulL_succ, ih (by simp) (by simp), at_ge q _ (by simp only [List.length_cons]; omega), mul_zero, zero_add]
def ofRoots (l : List F) : List F := l.foldl (fun p r => mulP p [r, 1]) [1]
theorem ofRoots_snoc (l : List F) (r : F) : ofRoots (l ++ [r]) = mulP (ofRoots l) [r, 1] := by unfold ofRoots; rw [List.foldl_append]; rfl
theorem lin_isPoly (r : F) : IsPoly [r, 1] := .inr one_ne_zero
theorem ofRoots_isPoly (l : List F) : IsPoly (ofRoots l) := by
  rcases List.eq_nil_or_concat l with rfl | ⟨l, r, rfl⟩
  · exact .inr one_ne_zero
  · rw [List.concat_eq_append, ofRoots_snoc]; exact trim_isPoly _
theorem ofRoots_length (l : List F) : (ofRoots l).length = l.length + 1 := by
  induction hn : l.length generalizing l with
  | zero => rw [List.eq_nil_of_length_eq_zero hn]; rfl
  | succ n ih =>
    rcases List.eq_nil_or_concat l with rfl | ⟨l, r, rfl⟩
    · simp at hn
    · rw [List.concat_eq_append] at hn ⊢
      have hl : l.length = n := by simpa using hn
      have := ih l hl
      rw [ofRoots_snoc, mulP_length (ofRoots_isPoly l) (lin_isPoly r) (by intro e; rw [e] at this; simp at this) (by simp), this]
      rfl
theorem ofRoots_top (l : List F) : at_ (ofRoots l) l.length = 1 := by
  induction hn : l.length generalizing l with
  | zero => rw [List.eq_nil_of_length_eq_zero hn]; rfl
  | succ n ih =>
    rcases List.eq_nil_or_concat l with rfl | ⟨l, r, rfl⟩
    · simp at hn
    · rw [List.concat_eq_append] at hn ⊢
      have hl : l.length = n := by simpa using hn
      have hln := ofRoots_length l
      have h2 := at_mulL_top (ofRoots l) [r, 1] (by intro e; rw [e] at hln; simp at hln) (by simp)
      rw [hln, hl] at h2
      rw [ofRoots_snoc, mulP, trim_at]
      have e : n + 1 = n + 1 - 1 + (([r, 1] : List F).length - 1) := by simp
      rw [e, h2, Nat.add_sub_cancel, ih l hl]
      exact mul_one _
end Go.Proofs.Ytncoakokdajibaa.Sem
