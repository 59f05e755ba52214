import Derived.Test.YthfcafllcgjepaaFeedbackReachSlice1
import Derived.Test.YthfcafllcgjepaaFeedbackReachF1
/- Layer 5: the odd number that is nearest. -/
namespace Go.Proofs.Ythfcafllcgjepaa.Slc
open Ieee Go.RowKit Go.Proofs.Ythfcafllcgjepaa.Q Go.Proofs.YthfcafllcgjepaaW.PrintWords Go.Proofs.YthfcafllcgjepaaW.PrintLast Go.Proofs.YthfcafllcgjepaaW.PrintMore Go.Proofs.Ythfcafllcgjepaa.Flt Go.Proofs.Ythfcafllcgjepaa.Feed
theorem cut_up (s : Bool) (n d : Nat) : (s = true → Toward.up.cut s n d * 2 ^ d ≤ n ∧ n < (Toward.up.cut s n d + 1) * 2 ^ d) ∧ (s = false → n ≤ Toward.up.cut s n d * 2 ^ d ∧ Toward.up.cut s n d * 2 ^ d < n + 2 ^ d) := by
  unfold Toward.cut
  dsimp only
  rw [Nat.shiftLeft_eq, Nat.one_mul]
  rcases Nat.lt_or_ge d (n.log2 + 2) with h | h
  · rw [Nat.min_eq_left (by omega)]
    have hp : 0 < 2 ^ d := Nat.two_pow_pos d
    have h1 := Nat.div_add_mod n (2 ^ d)
    have h2 := Nat.mod_lt n hp
    rw [Nat.mul_comm] at h1
    obtain ⟨q, hq⟩ : ∃ q, q = n / 2 ^ d := ⟨_, rfl⟩
    obtain ⟨r, hr⟩ : ∃ r, r = n % 2 ^ d := ⟨_, rfl⟩
    obtain ⟨p, hpp⟩ : ∃ p, p = 2 ^ d := ⟨_, rfl⟩
    rw [← hq, ← hr, ← hpp] at h1
    rw [← hr, ← hpp] at h2
    rw [← hq, ← hr, ← hpp]
    constructor
    · rintro rfl
      simp only [Bool.not_true, Bool.false_and, Bool.toNat_false, Nat.add_zero]
      rw [Nat.add_mul, Nat.one_mul]
      omega
    · rintro rfl
      by_cases c : r = 0
      · rw [c]
        simp only [bne_self_eq_false, Bool.and_false, Bool.toNat_false, Nat.add_zero]
        omega
      · have : (!false && r != 0) = true := by simp [c]
        rw [this, Bool.toNat_true, Nat.add_mul, Nat.one_mul]
        omega
  · rw [Nat.min_eq_right h]
    have h1 : n < 2 ^ (n.log2 + 2) := Nat.lt_trans Nat.lt_log2_self (Nat.pow_lt_pow_right (by decide) (by omega))
    have h2 : 2 ^ (n.log2 + 2) ≤ 2 ^ d := Nat.pow_le_pow_right (by decide) h
    have e1 : n / 2 ^ (n.log2 + 2) = 0 := Nat.div_eq_of_lt h1
    have e2 : n % 2 ^ (n.log2 + 2) = n := Nat.mod_eq_of_lt h1
    rw [e1, e2]
    obtain ⟨p, hpp⟩ : ∃ p, p = 2 ^ d := ⟨_, rfl⟩
    rw [← hpp] at h2 ⊢
    constructor
    · rintro rfl
      simp only [Bool.not_true, Bool.false_and, Bool.toNat_false, Nat.add_zero]
      omega
    · rintro rfl
      by_cases c : n = 0
      · rw [c]
        simp only [bne_self_eq_false, Bool.and_false, Bool.toNat_false, Nat.add_zero]
        omega
      · have : (!false && n != 0) = true := by simp [c]
        rw [this, Bool.toNat_true]
        omega
theorem ceil_ {y : Nat} (hy : fin y) (j : Nat) (hj : j = 1074) (P : Int) (hP : P = 2 ^ j) (hb : -15 * P ≤ V y ∧ V y ≤ 15 * P) : ∃ u n, integF .up y = some u ∧ fin u ∧ V u = n * P ∧ n * P - P < V y ∧ V y ≤ n * P ∧ n.natAbs < 2 ^ 53 := by
  obtain ⟨s, m, e, hd⟩ := fin_iff.1 hy
  have he := dec_number hd
  have hP0 : 0 < P := hP ▸ int_pow_pos j
  have hPn : P = ((2 ^ j : Nat) : Int) := by rw [hP, Int.natCast_pow]; rfl
  have hv : V y = (if s then -1 else 1) * ((m * 2 ^ (e + 1074).toNat : Nat) : Int) := by rw [V_of hd, sgn_nat]
  obtain ⟨c, hc⟩ : ∃ c, c = Toward.up.cut s (m <<< e.toNat) (-e).toNat := ⟨_, rfl⟩
  -- the cut, in units
  have key : c < 2 ^ 53 ∧ (s = true → c * 2 ^ j ≤ m * 2 ^ (e + 1074).toNat ∧ m * 2 ^ (e + 1074).toNat < (c + 1) * 2 ^ j) ∧ (s = false → m * 2 ^ (e + 1074).toNat ≤ c * 2 ^ j ∧ c * 2 ^ j < m * 2 ^ (e + 1074).toNat + 2 ^ j) := by
    rcases Int.lt_or_le e 0 with h | h
    · have e1 : e.toNat = 0 := by omega
      have e2 : (-e).toNat ≠ 0 := by omega
      rw [e1, Nat.shiftLeft_zero] at hc
      have h1 := cut_up s m (-e).toNat
      rw [← hc] at h1
      obtain ⟨d, hd'⟩ : ∃ d, d = (-e).toNat := ⟨_, rfl⟩
      obtain ⟨E, hE⟩ : ∃ E, E = (e + 1074).toNat := ⟨_, rfl⟩
      have e3 : j = d + E := by omega
      rw [← hd'] at h1 e2 hc
      rw [← hE, e3, Nat.pow_add]
      have hE0 : 0 < 2 ^ E := Nat.two_pow_pos E
      refine ⟨by rw [hc]; exact Nat.lt_of_le_of_lt (cut_le _ _ m d e2) (by have := he.2; omega), fun hs => ?_, fun hs => ?_⟩
      · obtain ⟨a1, a2⟩ := h1.1 hs
        rw [← Nat.mul_assoc, ← Nat.mul_assoc]
        exact ⟨Nat.mul_le_mul_right _ a1, (Nat.mul_lt_mul_right hE0).2 a2⟩
      · obtain ⟨a1, a2⟩ := h1.2 hs
        rw [← Nat.mul_assoc, ← Nat.add_mul]
        exact ⟨Nat.mul_le_mul_right _ a1, (Nat.mul_lt_mul_right hE0).2 a2⟩
    · have e1 : (-e).toNat = 0 := by omega
      rw [e1, cut_zero, Nat.shiftLeft_eq] at hc
      have e2 : m * 2 ^ (e + 1074).toNat = c * 2 ^ j := by
        have e3 : (e + 1074).toNat = e.toNat + j := by omega
        rw [e3, Nat.pow_add, ← Nat.mul_assoc, hc]
      have hp : 0 < 2 ^ j := Nat.two_pow_pos j
      have hc15 : c ≤ 15 := by
        rw [e2] at hv
        have : ((c * 2 ^ j : Nat) : Int) ≤ 15 * P := by
          cases s
          · simp only [Bool.false_eq_true, if_false, Int.one_mul] at hv; rw [← hv]; exact hb.2
          · simp only [if_true, Int.neg_mul, Int.one_mul] at hv; have := hb.1; rw [Int.neg_mul] at this; omega
        rw [hPn] at this
        have h4 : c * 2 ^ j ≤ 15 * 2 ^ j := by
          have h5 : (((15 : Nat) * 2 ^ j : Nat) : Int) = 15 * ((2 ^ j : Nat) : Int) := by rw [Int.natCast_mul]; rfl
          rw [← h5] at this
          exact Int.ofNat_le.1 this
        exact Nat.le_of_mul_le_mul_right h4 hp
      rw [e2, Nat.add_mul, Nat.one_mul]
      obtain ⟨q, hq⟩ : ∃ q, q = c * 2 ^ j := ⟨_, rfl⟩
      rw [← hq]
      exact ⟨by omega, fun _ => ⟨by omega, by omega⟩, fun _ => ⟨by omega, by omega⟩⟩
  have h0 : ((0 : Int) + 2148).toNat = j + 1074 := by rw [hj]; rfl
  have enc := encode_num s c 0 c j (by omega) (by rw [h0]) key.1 (pow_lt (a := 53) (N := 2098) key.1 (by omega))
  refine ⟨FloatKind.f64.encode (.number s c 0), (if s then -1 else 1) * (c : Int), ?_, enc.1, ?_, ?_⟩
  · unfold integF
    have hd' : FloatKind.f64.decode y = .number s m e := hd
    rw [hd', hc]
    rfl
  · rw [enc.2, hPn, Int.natCast_mul, Int.mul_assoc]
  · have k1 := key.1
    obtain ⟨M, hM⟩ : ∃ M, M = m * 2 ^ (e + 1074).toNat := ⟨_, rfl⟩
    rw [hPn]
    obtain ⟨T, hT⟩ : ∃ T, T = 2 ^ j := ⟨_, rfl⟩
    rw [← hM] at key hv
    rw [← hT] at key ⊢
    clear hd hb hP hPn hP0 enc hc hM hT h0 hj
    cases s
    · obtain ⟨a1, a2⟩ := key.2.2 rfl
      simp only [Bool.false_eq_true, if_false, Int.one_mul] at hv ⊢
      rw [hv, ← Int.natCast_mul]
      omega
    · obtain ⟨a1, a2⟩ := key.2.1 rfl
      rw [Nat.add_mul, Nat.one_mul] at a2
      simp only [if_true, Int.neg_mul, Int.one_mul] at hv ⊢
      rw [hv, ← Int.natCast_mul]
      omega
structure Ax (c : Nat) (e a P : Int) : Prop where
  odd : a % 2 = 1
  lo : -e ≤ a
  hi : a ≤ e
  up : V c ≤ a * P + P ∨ a = e
  dn : a * P - P < V c ∨ a = -e
theorem to_whole {y : Nat} (hy : fin y) (n : Int) (j : Nat) (hj : j = 1074) (P : Int) (hP : P = 2 ^ j) (h : V y = n * P) (hn : n.natAbs < 2 ^ 53) : floatToIntVal .f64 y .i64 = some n := by
  obtain ⟨Q, hQ'⟩ : ∃ Q : Nat, Q = 2 ^ j := ⟨_, rfl⟩
  have hPQ : P = (Q : Int) := by rw [hP, hQ', Int.natCast_pow]; rfl
  have hQ0 : 0 < Q := hQ' ▸ Nat.two_pow_pos j
  have hQ : Q = 2 ^ 1074 := by rw [hQ', hj]
  have hb : (V y).natAbs < 2 ^ 53 * Q := by rw [h, hPQ, Int.natAbs_mul, Int.natAbs_natCast]; exact (Nat.mul_lt_mul_right hQ0).2 hn
  obtain ⟨t, h1, h2, h3⟩ := toI hy Q hQ hb
  rw [h1]
  have h4 : t * Q = V y := h3.2 ⟨n, by rw [h, hPQ, Int.mul_comm]⟩
  rw [h, hPQ] at h4
  rw [Int.eq_of_mul_eq_mul_right (by omega) h4]
theorem slice_axis {x c : Nat} (hn : nn x) (e : Int) (he : 1 ≤ e ∧ e ≤ 15) (ho : e % 2 = 1) (j : Nat) (hj : j = 1074) (P : Int) (hP : P = 2 ^ j) (h : Cl x e c P) : ∃ a, Ev (fun k => slice_Axis.f k x e) (a, 0) ∧ Ax c e a P := by
  have hP0 : 0 < P := hP ▸ int_pow_pos j
  have mulLe : ∀ a b : Int, a ≤ b → a * P ≤ b * P := fun a b h => Int.mul_le_mul_of_nonneg_right h (Int.le_of_lt hP0)
  have lt_of : ∀ a b : Int, a * P < b * P → a < b := fun a b h => Int.lt_of_mul_lt_mul_right h (Int.le_of_lt hP0)
  have hlo := h.lo
  have hhi := h.hi
  have b1 := mulLe (-15) (-e) (by omega)
  have b2 := mulLe e 15 (by omega)
  obtain ⟨u, n, h1, h2, h3, h4, h5, h6⟩ := ceil_ h.fin j hj P hP ⟨by omega, by omega⟩
  have hw := to_whole h2 n j hj P hP h3 h6
  have n1 : -e ≤ n := by
    have : (-e - 1) * P < n * P := by rw [Int.sub_mul, Int.one_mul]; omega
    have := lt_of _ _ this
    omega
  have n2 : n ≤ e := by
    have : (n - 1) * P < e * P := by rw [Int.sub_mul, Int.one_mul]; omega
    have := lt_of _ _ this
    omega
  have hnan : math_IsNaN.f x = some false := by unfold math_IsNaN.f; rw [bne, order_self hn]; rfl
  have tm : Int.tmod e 2 = e % 2 := Int.tmod_eq_emod_of_nonneg (by omega)
  have start : ∀ r, Ev (fun k => slice_Axis.j0 k x e false) r → Ev (fun k => slice_Axis.f k x e) r := fun r hr =>
    Ev.congr (fun k => by rw [slice_Axis.f, if_neg (by omega), if_neg (by omega), if_neg (by omega), hnan, Option.bind_some]) hr
  have body : ∀ r, (if (Int.tmod n 2) = 0 then (some (mx (wrap64 (n - 1)) (wrap64 (-e)), (0 : Int))) else (some (mx n (wrap64 (-e)), 0))) = some r → Ev (fun k => slice_Axis.f k x e) r := fun r hr => by
    refine start r (Ev.stepTo (fun _ => some r) (fun k _ => ?_) (Ev.now _))
    rw [slice_Axis.j0, if_neg (by decide), math_Min.f, Option.bind_some, math_Max.f, Option.bind_some, h.pick, math_Ceil.f, h1]
    show (floatToIntVal .f64 u .i64).bind _ = _
    rw [hw]
    exact hr
  have we : wrap64 (-e) = -e := wrap_id _ (by omega) (by omega)
  by_cases c0 : n % 2 = 0
  · have t0 : Int.tmod n 2 = 0 := Int.tmod_eq_zero_of_dvd (Int.dvd_of_emod_eq_zero c0)
    refine ⟨n - 1, body _ ?_, ⟨by omega, by omega, by omega, Or.inl (by rw [Int.sub_mul]; omega), ?_⟩⟩
    · rw [if_pos t0, we, wrap_id _ (by omega) (by omega)]
      congr 2
      unfold mx
      split <;> omega
    · by_cases c1 : n - 1 = -e
      · exact Or.inr c1
      · left
        rw [Int.sub_mul, Int.one_mul]
        omega
  · have t0 : ¬ Int.tmod n 2 = 0 := fun h => c0 (by have := Int.dvd_of_tmod_eq_zero h; omega)
    refine ⟨n, body _ ?_, ⟨by omega, by omega, by omega, Or.inl (by omega), Or.inl (by omega)⟩⟩
    rw [if_neg t0, we]
    congr 2
    unfold mx
    split <;> omega
theorem ref_axis_l0 {x c : Nat} (e : Int) (he : 1 ≤ e ∧ e ≤ 15) (P : Int) (h : Cl x e c P) (d : Nat) : ∀ n : Int, n + 2 * d = e → -e ≤ n → n % 2 = 1 → (n * P - P < V c ∨ n = -e) → ∃ a, Ev (fun k => foghornref05_Axis.l0 k x e n) (a, 0) ∧ Ax c e a P := by
  induction d with
  | zero =>
    intro n hn h1 h2 h3
    refine ⟨n, Ev.stepTo _ (fun k _ => by rw [foghornref05_Axis.l0, if_neg (by omega)]) (Ev.now _), ⟨h2, h1, by omega, Or.inr (by omega), h3⟩⟩
  | succ d ih =>
    intro n hn h1 h2 h3
    have hw : wrap64 (n + 1) = n + 1 := wrap_id _ (by omega) (by omega)
    have hw2 : wrap64 (n + 2) = n + 2 := wrap_id _ (by omega) (by omega)
    have hg := h.gt (n + 1) (by omega) (by omega)
    by_cases c : (n + 1) * P < V c
    · rw [decide_eq_true c] at hg
      obtain ⟨a, ha, hx⟩ := ih (n + 2) (by omega) (by omega) (by omega) (Or.inl (by rw [Int.add_mul] at c ⊢; omega))
      exact ⟨a, Ev.stepTo _ (fun k _ => by rw [foghornref05_Axis.l0, if_pos (by omega), hw, hw2, if_pos hg]) ha, hx⟩
    · rw [decide_eq_false c] at hg
      refine ⟨n, Ev.stepTo _ (fun k _ => by rw [foghornref05_Axis.l0, if_pos (by omega), hw, if_neg (by rw [hg]; decide)]) (Ev.now _), ⟨h2, h1, by omega, Or.inl (by rw [Int.add_mul] at c; omega), h3⟩⟩
theorem Ax.uniq {c : Nat} {e a b P : Int} (hP0 : 0 < P) (h : Ax c e a P) (g : Ax c e b P) : a = b := by
  have lt_of : ∀ a b : Int, a * P < b * P → a < b := fun a b h => Int.lt_of_mul_lt_mul_right h (Int.le_of_lt hP0)
  have lem : ∀ a b : Int, Ax c e a P → Ax c e b P → a < b → False := fun a b h g hab => by
    have := h.odd
    have := g.odd
    have := h.lo
    have := g.hi
    have u : V c ≤ a * P + P := by rcases h.up with u | u; exact u; omega
    have d : b * P - P < V c := by rcases g.dn with d | d; exact d; omega
    have : (b - 1) * P < (a + 1) * P := by rw [Int.sub_mul, Int.add_mul, Int.one_mul]; omega
    have := lt_of _ _ this
    omega
  rcases Int.lt_trichotomy a b with c1 | c1 | c1
  · exact (lem a b h g c1).elim
  · exact c1
  · exact (lem b a g h c1).elim
theorem axis_both {x c : Nat} (hn : nn x) (e : Int) (he : 1 ≤ e ∧ e ≤ 15) (ho : e % 2 = 1) (j : Nat) (hj : j = 1074) (P : Int) (hP : P = 2 ^ j) (h : Cl x e c P) : ∃ a, Ev (fun k => slice_Axis.f k x e) (a, 0) ∧ Ev (fun k => foghornref05_Axis.f k x e) (a, 0) ∧ Ax c e a P := by
  have hP0 : 0 < P := hP ▸ int_pow_pos j
  obtain ⟨a, h1, h2⟩ := slice_axis hn e he ho j hj P hP h
  obtain ⟨d, hd⟩ : ∃ d : Nat, -e + 2 * d = e := ⟨e.toNat, by omega⟩
  obtain ⟨b, h3, h4⟩ := ref_axis_l0 e he P h d (-e) hd (by omega) (by omega) (Or.inr rfl)
  have hab := Ax.uniq hP0 h2 h4
  subst hab
  have tm : Int.tmod e 2 = e % 2 := Int.tmod_eq_emod_of_nonneg (by omega)
  refine ⟨a, h1, Ev.congr (fun k => by rw [foghornref05_Axis.f, if_neg (by omega), if_neg (by omega), if_neg (by omega), bne, order_self hn]) (Ev.stepTo _ (fun k _ => by rw [foghornref05_Axis.j0, if_neg (by decide), wrap_id _ (by omega) (by omega)]) h3), h2⟩
theorem axis_no {x : Nat} {e : Int} (h : e < 1 ∨ e > 15 ∨ Int.tmod e 2 = 0 ∨ ¬ nn x) : Ev (fun k => slice_Axis.f k x e) (0, 1) ∧ Ev (fun k => foghornref05_Axis.f k x e) (0, 1) := by
  have s : ∀ g : Nat → Option (Int × Int), (∀ k, g k = slice_Axis.j0 k x e true) → Ev g (0, 1) := fun g hg => Ev.congr hg (Ev.stepTo _ (fun k _ => by rw [slice_Axis.j0, if_pos rfl]) (Ev.now _))
  have r : ∀ g : Nat → Option (Int × Int), (∀ k, g k = foghornref05_Axis.j0 k x e true) → Ev g (0, 1) := fun g hg => Ev.congr hg (Ev.stepTo _ (fun k _ => by rw [foghornref05_Axis.j0, if_pos rfl]) (Ev.now _))
  by_cases c1 : e < 1
  · exact ⟨s _ (fun k => by rw [slice_Axis.f, if_pos c1]), r _ (fun k => by rw [foghornref05_Axis.f, if_pos c1])⟩
  by_cases c2 : e > 15
  · exact ⟨s _ (fun k => by rw [slice_Axis.f, if_neg c1, if_pos c2]), r _ (fun k => by rw [foghornref05_Axis.f, if_neg c1, if_pos c2])⟩
  by_cases c3 : Int.tmod e 2 = 0
  · exact ⟨s _ (fun k => by rw [slice_Axis.f, if_neg c1, if_neg c2, if_pos c3]), r _ (fun k => by rw [foghornref05_Axis.f, if_neg c1, if_neg c2, if_pos c3])⟩
  have c4 : ¬ nn x := by rcases h with h | h | h | h <;> first | exact absurd h ‹_› | exact h
  have hnan : (FloatKind.f64.format.order x x != some .eq) = true := by
    unfold nn at c4
    have ⟨s, hs⟩ := Classical.not_forall.1 c4
    have ⟨t, ht⟩ := Classical.not_forall.1 hs
    rw [order_dec, Decidable.not_not.1 ht]; rfl
  exact ⟨s _ (fun k => by rw [slice_Axis.f, if_neg c1, if_neg c2, if_neg c3, math_IsNaN.f, Option.bind_some, hnan]), r _ (fun k => by rw [foghornref05_Axis.f, if_neg c1, if_neg c2, if_neg c3, hnan])⟩
end Go.Proofs.Ythfcafllcgjepaa.Slc
