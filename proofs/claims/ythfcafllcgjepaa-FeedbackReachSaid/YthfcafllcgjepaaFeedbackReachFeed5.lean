import Derived.Test.YthfcafllcgjepaaFeedbackReachFeed4
import Derived.Test.YthfcafllcgjepaaFeedbackReachPureSliceNear
import Derived.Test.YthfcafllcgjepaaFeedbackReachF1
/- Layer 11: a row that stands for points behind taps, with something small added: each is decided as its point. -/
namespace Go.Proofs.Ythfcafllcgjepaa.Feed
open Ieee Go.RowKit Go.Proofs.Ythfcafllcgjepaa.Q Go.Proofs.YthfcafllcgjepaaW.PrintWords Go.Proofs.YthfcafllcgjepaaW.PrintLast Go.Proofs.YthfcafllcgjepaaW.PrintMore Go.Proofs.Ythfcafllcgjepaa.Flt Go.Proofs.Ythfcafllcgjepaa.Pt Go.Proofs.Ythfcafllcgjepaa.Slc
theorem lower {x : Nat} {n : Int} {k l : Nat} (h : Is x (n * 2 ^ l) (k + l)) (hl : k + l ≤ 1074) : Is x n k :=
  ⟨h.1, by rw [h.2, Int.mul_assoc, ← Int.pow_add, show l + (1074 - (k + l)) = 1074 - k by omega]⟩
theorem quo_small {x y : Nat} {n : Int} {k m : Nat} (hx : Is x n k) (hy : Flt.dec y = .number false (2 ^ 52) (-(m : Int) - 52)) (hm : m ≤ k) (hk : k ≤ 100) (hn : n.natAbs < 2 ^ 53) : ∃ r, floatBits .quo .f64 x y = some r ∧ Is r n (k - m) := by
  obtain ⟨j, hj⟩ : ∃ j, j = 1074 - (k - m) := ⟨_, rfl⟩
  obtain ⟨b, hb⟩ : ∃ b, b = 1074 - k := ⟨_, rfl⟩
  obtain ⟨c, hc⟩ : ∃ c, c = (1074 - -(m : Int)).toNat := ⟨_, rfl⟩
  obtain ⟨T, hT⟩ : ∃ T, T = j + 1074 := ⟨_, rfl⟩
  unfold Is at *
  rw [← hb] at hx
  rw [← hj]
  refine fquo (a := -(m : Int)) hx.1 hy ⟨by omega, by omega⟩ n j ?_ hn (pow_lt (a := 53) (N := 2098) hn (by omega))
  rw [hx.2, ← hc, ← hT, pow_split (show T = b + c by omega)]
theorem turnedK {k : Nat} (n : Nat) (hn : n ≤ 4) (d : Nat) : ∀ (i : Nat) (z : Nat × Nat) (p : Int × Int), i + d = n → IsZ z p k → ∃ r, Ev (fun j => feedback_turned.l0 j z (n : Int) (i : Int)) r ∧ IsZ r (rot d p) k := by
  induction d with
  | zero =>
    intro i z p hi h
    exact ⟨z, Ev.stepTo _ (fun k _ => by rw [feedback_turned.l0, if_neg (by omega)]) (Ev.now _), h⟩
  | succ d ih =>
    intro i z p hi h
    obtain ⟨r, h3, h4⟩ := ih (i + 1) (z.2, Op.negFloat .f64 z.1) (p.2, -p.1) (by omega) ⟨h.2, h.1.neg⟩
    exact ⟨r, Ev.stepTo _ (fun k _ => by rw [feedback_turned.l0, if_pos (by omega), wrap_id _ (by omega) (by omega), show ((i : Int) + 1) = ((i + 1 : Nat) : Int) from by omega]) h3, h4⟩
theorem turnedToK {k : Nat} (n : Nat) (hn : n ≤ 4) (d : Nat) : ∀ (i : Nat) (z : Nat × Nat) (p : Int × Int), i + d = n → IsZ z p k → ∃ r, Ev (fun j => foghornref11_Turn.l0 j z (n : Int) (i : Int)) r ∧ IsZ r (tor d p) k := by
  induction d with
  | zero =>
    intro i z p hi h
    exact ⟨z, Ev.stepTo _ (fun k _ => by rw [foghornref11_Turn.l0, if_neg (by omega)]) (Ev.now _), h⟩
  | succ d ih =>
    intro i z p hi h
    obtain ⟨r, h3, h4⟩ := ih (i + 1) (Op.negFloat .f64 z.2, z.1) (-p.2, p.1) (by omega) ⟨h.2.neg, h.1⟩
    exact ⟨r, Ev.stepTo _ (fun k _ => by rw [foghornref11_Turn.l0, if_pos (by omega), wrap_id _ (by omega) (by omega), show ((i : Int) + 1) = ((i + 1 : Nat) : Int) from by omega]) h3, h4⟩
theorem may_ok {v : Nat × Nat} (h : Grid v) : grid_may.f v false = some true := by
  obtain ⟨a, a1, a2⟩ := gOn v.1
  obtain ⟨b, b1, b2⟩ := gOn v.2
  obtain rfl := a2.2 h.1
  obtain rfl := b2.2 h.2
  rw [grid_may.f, if_neg (by decide), a1, Option.bind_some, b1]
  rfl
def Clean (l : List S101) : Prop := ∀ x ∈ l, x.f1 = false ∧ Grid x.f0
theorem clean_l0 (l : List S101) (hl : l.length ≤ 65536) (hc : Clean l) (d : Nat) : ∀ i : Nat, i + d = l.length → Ev (fun k => grid_Check.l0 k l (l.length : Int) (i : Int)) (0, 0) := by
  induction d with
  | zero =>
    intro i hi
    exact Ev.stepTo _ (fun k _ => by rw [grid_Check.l0, if_neg (by omega)]) (Ev.now _)
  | succ d ih =>
    intro i hi
    have hil : i < l.length := by omega
    obtain ⟨h1, h2⟩ := hc _ (List.getElem_mem hil)
    refine Ev.stepTo _ (fun k _ => ?_) (ih (i + 1) (by omega))
    rw [grid_Check.l0, if_pos (by omega), if_pos (by omega), if_pos (by omega), rd101' _ _ hil, h1, may_ok h2, Option.bind_some, if_pos rfl, wrap_id _ (by omega) (by omega), show ((i : Int) + 1) = ((i + 1 : Nat) : Int) from by omega]
theorem clean (l : List S101) (hl : l.length ≤ 65536) (hc : Clean l) : Ev (fun k => grid_Check.f k l) (0, 0) :=
  Ev.congr (fun k => by rw [grid_Check.f, if_neg (by omega)]; rfl) (clean_l0 l hl hc l.length 0 (by omega))
theorem fcheck {t : List (Nat × Nat)} {t0 : Nat × Nat} {s q : Nat} {σ : Int} {m : Nat} (hf : Fine t t0) (h0 : Fst t0 s q σ m) : Ev (fun k => feedback_Check.f k t) 0 := by
  have hT := hf.taps
  obtain ⟨b, h1, h2⟩ := ftaps t hf.word (by have := hT.2.2.1; omega)
  obtain rfl := h2.2 hT
  have hr : rdOf (0, 0) t 0 = t0 := by
    have := rd_nat (0, 0) t 0 hT.2.1
    have h3 := hf.head
    rw [List.getElem?_eq_getElem hT.2.1] at h3
    exact this.trans (Option.some.inj h3)
  exact Ev.congr (fun k => by rw [feedback_Check.f]) (Ev.bind h1 (Ev.congr (fun k => by rw [if_pos rfl, if_pos (by have := hT.2.1; omega), hr]) (Ev.bind h0.fst (Ev.congr (fun k => by rw [if_pos rfl]) (Ev.now _)))))
theorem lp_from_at (d : Nat × Nat) : ∀ (vs xs : List (Nat × Nat)) (o j : Nat), o + vs.length ≤ xs.length → (lp_from xs o vs).getD j d = if o ≤ j ∧ j < o + vs.length then vs.getD (j - o) d else xs.getD j d
  | [], xs, o, j, _ => by rw [lp_from, if_neg (by rw [List.length_nil]; omega)]
  | v :: r, xs, o, j, h => by
    rw [List.length_cons] at h
    rw [lp_from, lp_from_at d r (xs.set o v) (o + 1) j (by rw [List.length_set]; omega), List.length_cons]
    by_cases c : o + 1 ≤ j ∧ j < o + 1 + r.length
    · rw [if_pos c, if_pos (by omega), show j - o = (j - (o + 1)) + 1 by omega, List.getD_cons_succ]
    · rw [if_neg c]
      by_cases e : j = o
      · subst e
        rw [if_pos (by omega), Nat.sub_self, List.getD_cons_zero, List.getD_eq_getElem?_getD, List.getElem?_set_self (by omega)]
        rfl
      · rw [if_neg (by omega), List.getD_eq_getElem?_getD, List.getElem?_set_ne (by omega), List.getD_eq_getElem?_getD]
structure At (S : Int) (t : List (Nat × Nat)) (s q : Nat) (ps : Nat → Nat × Nat) (i : Nat) (w : Lp) : Prop where
  size : w.size = S
  n : w.n = (t.length : Int)
  taps : ∀ j, j < t.length → w.taps.getD j (0, 0) = t.getD j (0, 0)
  by_ : w.by_ = s
  q : w.q = (q : Int)
  whole : w.broken = false
  pos : w.pos = ((i % 64 : Nat) : Int)
  plen : w.past.length = 64
  past : ∀ j, 1 ≤ j → j ≤ 64 → w.past.getD ((i % 64 + 64 - j) % 64) (0, 0) = if j ≤ i then ps (i - j) else (0, 0)
theorem At.ix {S : Int} {t : List (Nat × Nat)} {s q : Nat} {ps : Nat → Nat × Nat} {i : Nat} {w : Lp} (h : At S t s q ps i w) (j : Nat) (hj : j ≤ 64) : lp_ix w j = (i % 64 + 64 - j) % 64 := by
  unfold lp_ix
  rw [h.pos, show (((i % 64 : Nat) : Int) - (j : Int) + 64) = ((i % 64 + 64 - j : Nat) : Int) by omega, show (64 : Int) = ((64 : Nat) : Int) from rfl, ← Int.ofNat_tmod, Int.toNat_natCast]
theorem At.next {S : Int} {t : List (Nat × Nat)} {s q : Nat} {ps : Nat → Nat × Nat} {i : Nat} {w : Lp} (h : At S t s q ps i w) (b : Nat × Nat) : At S t s q ps (i + 1) { w with some_ := true, bare := b, past := w.past.set w.pos.toNat (ps i), pos := Int.tmod (w.pos + 1) 64 } where
  size := h.size
  n := h.n
  taps := h.taps
  by_ := h.by_
  q := h.q
  whole := h.whole
  pos := by
    show Int.tmod (w.pos + 1) 64 = _
    rw [h.pos, show (((i % 64 : Nat) : Int) + 1) = ((i % 64 + 1 : Nat) : Int) by omega, show (64 : Int) = ((64 : Nat) : Int) from rfl, ← Int.ofNat_tmod]
    omega
  plen := by show (w.past.set w.pos.toNat (ps i)).length = 64; rw [List.length_set]; exact h.plen
  past := fun j h1 h2 => by
    show (w.past.set w.pos.toNat (ps i)).getD _ _ = _
    rw [h.pos, Int.toNat_natCast]
    have hl := h.plen
    by_cases e : j = 1
    · subst e
      rw [if_pos (by omega), show ((i + 1) % 64 + 64 - 1) % 64 = i % 64 by omega, List.getD_eq_getElem?_getD, List.getElem?_set_self (by omega), Option.getD_some, Nat.add_sub_cancel]
    · have hp := h.past (j - 1) (by omega) (by omega)
      rw [List.getD_eq_getElem?_getD, List.getElem?_set_ne (by omega), ← List.getD_eq_getElem?_getD, show ((i + 1) % 64 + 64 - j) % 64 = (i % 64 + 64 - (j - 1)) % 64 by omega, hp]
      by_cases c : j ≤ i + 1
      · rw [if_pos (by omega), if_pos c, show i - (j - 1) = i + 1 - j by omega]
      · rw [if_neg (by omega), if_neg c]
def subZ (p q : Int × Int) : Int × Int := (p.1 - q.1, p.2 - q.2)
theorem acc_Z {S : Int} {t : List (Nat × Nat)} {s q : Nat} {ps : Nat → Nat × Nat} {i : Nat} {w : Lp} (h : At S t s q ps i w) {T X : List (Int × Int)} (hT : Ints 6 64 t T) (htl : t.length ≤ 64) (hX : ∀ j, j < i → IsZ (ps j) (X.getD j (0, 0)) 12 ∧ Box 4194304 (X.getD j (0, 0))) (d : Nat) :
    ∀ (j re im : Nat) (R : Int × Int), 1 ≤ j → j + d = t.length → IsZ (re, im) R 18 → Box (2 ^ 45 + j * 536870912) R → ∃ z, lp_acc w d j re im = some z ∧ IsZ z (subZ R (convZ T X i d j)) 18 := by
  induction d with
  | zero =>
    intro j re im R _ _ hR _
    exact ⟨(re, im), rfl, by rw [convZ]; unfold subZ; simpa using hR⟩
  | succ d ih =>
    intro j re im R hj1 hj hR hB
    have hjt : j < t.length := by omega
    have e1 : w.taps.getD j (0, 0) = t[j] := by rw [h.taps j hjt, List.getD_eq_getElem?_getD, List.getElem?_eq_getElem hjt]; rfl
    obtain ⟨t1, t2⟩ := hT.is j hjt
    have hx : IsZ (w.past.getD (lp_ix w j) (0, 0)) (xat X i j) 12 ∧ Box 4194304 (xat X i j) := by
      rw [h.ix j (by omega), h.past j hj1 (by omega)]
      unfold xat
      by_cases c : j ≤ i
      · rw [if_pos c, if_pos c]; exact hX (i - j) (by omega)
      · rw [if_neg c, if_neg c]; exact ⟨⟨is_zero 12, is_zero 12⟩, by decide, by decide⟩
    obtain ⟨⟨u, v⟩, g1, _, ⟨g2, g3⟩, g4, g5⟩ := times_Z t1 t2 hx.1 hx.2
    have hB1 := hB.1
    have hB2 := hB.2
    obtain ⟨a, a1, a2⟩ := Is.sub (x := re) hR.1 g2 (by omega)
    obtain ⟨b, b1, b2⟩ := Is.sub (x := im) hR.2 g3 (by omega)
    obtain ⟨z, z1, z2⟩ := ih (j + 1) a b (subZ R (mulZ (T.getD j (0, 0)) (xat X i j))) (by omega) (by omega) ⟨a2, b2⟩ ⟨by unfold subZ; dsimp only; omega, by unfold subZ; dsimp only; omega⟩
    refine ⟨z, ?_, ?_⟩
    · rw [lp_acc, e1, g1, Option.bind_some, a1, Option.bind_some, b1, Option.bind_some, z1]
    · rw [convZ]
      have : subZ R (addZ (mulZ (T.getD j (0, 0)) (xat X i j)) (convZ T X i d (j + 1))) = subZ (subZ R (mulZ (T.getD j (0, 0)) (xat X i j))) (convZ T X i d (j + 1)) := by
        unfold subZ addZ
        exact Prod.ext (by dsimp only; omega) (by dsimp only; omega)
      rw [this]
      exact z2
theorem echo_head (T X : List (Int × Int)) (i : Nat) (h : 0 < T.length) : echoZ T X i = addZ (mulZ (T.getD 0 (0, 0)) (X.getD i (0, 0))) (convZ T X i (T.length - 1) 1) := by
  unfold echoZ
  obtain ⟨n, hn⟩ : ∃ n, T.length = n + 1 := ⟨T.length - 1, by omega⟩
  rw [hn, convZ, xat_of (Nat.zero_le _), Nat.sub_zero, Nat.add_sub_cancel]
def scZ (c : Int) (p : Int × Int) : Int × Int := (c * p.1, c * p.2)
theorem rot_tor (q : Nat) (hq : q < 4) (σ : Int) (P N : Int × Int) : rot q (addZ (mulZ (tor q (σ, 0)) P) (scZ 64 N)) = addZ (scZ σ P) (scZ 64 (rot q N)) := by
  obtain ⟨a, b⟩ := P
  obtain ⟨c, d⟩ := N
  rcases four hq with rfl | rfl | rfl | rfl <;> simp only [rot, tor, addZ, mulZ, scZ, Int.zero_mul, Int.neg_zero, Int.neg_mul, Int.mul_neg] <;> refine Prod.ext ?_ ?_ <;> dsimp only <;> omega
theorem rot_box (q : Nat) (hq : q < 4) {B : Nat} {N : Int × Int} (h : Box B N) : Box B (rot q N) := by
  obtain ⟨a, b⟩ := N
  unfold Box at *
  dsimp only at h
  rcases four hq with rfl | rfl | rfl | rfl <;> simp only [rot] <;> omega
theorem tor_rot (q : Nat) (hq : q < 4) (N : Int × Int) : tor ((4 - q) % 4) N = rot q N := by
  obtain ⟨a, b⟩ := N
  rcases four hq with rfl | rfl | rfl | rfl <;> simp [rot, tor]
def outZ (m : Nat) (q : Nat) (P N : Int × Int) : Int × Int := (P.1 * 16384 + (rot q N).1 * 2 ^ (2 + m), P.2 * 16384 + (rot q N).2 * 2 ^ (2 + m))
theorem bare_Is {m q : Nat} (hm : m ≤ 2) {σ : Int} (hσ : σ * 2 ^ m = 64) {P N : Int × Int} {b : Nat × Nat} (h : IsZ b (addZ (scZ σ (scZ 4096 P)) (scZ 64 (rot q N))) (18 - m)) : IsZ b (outZ m q P N) 14 := by
  obtain ⟨u, v⟩ := P
  generalize hR : rot q N = R at h
  obtain ⟨c, d⟩ := R
  have key : ∀ (x : Nat) (p r : Int), Is x (σ * (4096 * p) + 64 * r) (18 - m) → Is x (p * 16384 + r * 2 ^ (2 + m)) 14 := by
    intro x p r hx
    rcases (show m = 0 ∨ m = 1 ∨ m = 2 by omega) with rfl | rfl | rfl
    · obtain rfl : σ = 64 := by omega
      exact lower (l := 4) (by rw [show (p * 16384 + r * 2 ^ (2 + 0)) * 2 ^ 4 = 64 * (4096 * p) + 64 * r by omega]; exact hx) (by decide)
    · obtain rfl : σ = 32 := by omega
      exact lower (l := 3) (by rw [show (p * 16384 + r * 2 ^ (2 + 1)) * 2 ^ 3 = 32 * (4096 * p) + 64 * r by omega]; exact hx) (by decide)
    · obtain rfl : σ = 16 := by omega
      exact lower (l := 2) (by rw [show (p * 16384 + r * 2 ^ (2 + 2)) * 2 ^ 2 = 16 * (4096 * p) + 64 * r by omega]; exact hx) (by decide)
  unfold outZ
  rw [hR]
  exact ⟨key _ _ _ h.1, key _ _ _ h.2⟩
theorem step_Z {S : Int} (six : Six S) {t : List (Nat × Nat)} {t0 : Nat × Nat} {s q m : Nat} {σ : Int} (hf : Fine t t0) (h0 : Fst t0 s q σ m) {T X : List (Int × Int)} (hT : Ints 6 64 t T) {lab : Nat → Int} (hlab : ∀ j, 0 ≤ lab j ∧ lab j < S) {i : Nat} {w : Lp} (h : At S t s q (fun j => toC (pt S (lab j))) i w)
    (hX : ∀ j, j ≤ i → X.getD j (0, 0) = scZ 4096 (pt S (lab j))) {N : Int × Int} (hN : (rot q N).1.natAbs < 2 ^ (12 - m) ∧ (rot q N).2.natAbs < 2 ^ (12 - m)) {x : S101} (hx : x.f1 = false) (hg : Grid x.f0) (hxi : IsZ x.f0 (addZ (echoZ T X i) (scZ 64 N)) 18) :
    ∃ (b far : Nat × Nat), (∀ g : Nat → S83 × Int × Lp → Option (List S83 × List (Nat × Nat)), ∀ r, Ev (fun k => g k (⟨lab i, toC (pt S (lab i)), false⟩, 0, { w with some_ := true, bare := b, past := w.past.set w.pos.toNat (toC (pt S (lab i))), pos := Int.tmod (w.pos + 1) 64 })) r → Ev (fun k => (lp_step k w x).bind (g k)) r) ∧
      lp_z ⟨lab i, toC (pt S (lab i)), false⟩ { w with some_ := true, bare := b, past := w.past.set w.pos.toNat (toC (pt S (lab i))), pos := Int.tmod (w.pos + 1) 64 } = some far ∧ IsZ far ((rot q N).1 * 2 ^ (2 + m), (rot q N).2 * 2 ^ (2 + m)) 14 := by
  have htl := hf.taps.2.2.1
  have ht0 := hf.taps.2.1
  have hq4 := h0.q4
  have hm := h0.m2
  have hp := pt_box six (hlab i).1 (hlab i).2
  have hTl := hT.len
  have hσ := h0.sz
  have pw : (2 : Nat) ^ (12 - m) ≤ 4096 := Nat.pow_le_pow_right (by decide) (by omega : 12 - m ≤ 12)
  -- the sums
  have hXb : ∀ j, j < i → IsZ (toC (pt S (lab j))) (X.getD j (0, 0)) 12 ∧ Box 4194304 (X.getD j (0, 0)) := fun j hj => by
    have hpj := pt_box six (hlab j).1 (hlab j).2
    rw [hX j (by omega)]
    refine ⟨⟨?_, ?_⟩, ?_, ?_⟩
    · have := (Is.ofInt (pt S (lab j)).1 (by omega)).raise 12 (by decide)
      rw [Nat.zero_add, Int.mul_comm] at this
      exact this
    · have := (Is.ofInt (pt S (lab j)).2 (by omega)).raise 12 (by decide)
      rw [Nat.zero_add, Int.mul_comm] at this
      exact this
    · unfold scZ; dsimp only; omega
    · unfold scZ; dsimp only; omega
  obtain ⟨n1, g1, g1'⟩ := hg.1
  obtain ⟨n2, g2, g2'⟩ := hg.2
  have r1 := g1.raise 6 (by decide)
  have r2 := g2.raise 6 (by decide)
  have u1 := Is.uniq hxi.1 r1
  have u2 := Is.uniq hxi.2 r2
  obtain ⟨y, y1, y2⟩ := acc_Z h hT htl hXb (t.length - 1) 1 x.f0.1 x.f0.2 (addZ (echoZ T X i) (scZ 64 N)) (Nat.le_refl 1) (by omega) hxi ⟨by rw [u1]; omega, by rw [u2]; omega⟩
  have e0 : subZ (addZ (echoZ T X i) (scZ 64 N)) (convZ T X i (t.length - 1) 1) = addZ (mulZ (T.getD 0 (0, 0)) (X.getD i (0, 0))) (scZ 64 N) := by
    rw [echo_head T X i (by omega), hTl]
    unfold subZ addZ
    exact Prod.ext (by dsimp only; omega) (by dsimp only; omega)
  have eT : T.getD 0 (0, 0) = tor q (σ, 0) := by
    have h1 := (hT.is 0 ht0).1
    have h2 := hf.head
    rw [List.getElem?_eq_getElem ht0] at h2
    rw [Option.some.inj h2] at h1
    exact Prod.ext (Is.uniq h1.1 h0.is.1) (Is.uniq h1.2 h0.is.2)
  rw [e0, eT, hX i (Nat.le_refl i)] at y2
  obtain ⟨z, z1, z2⟩ := turnedK q (by omega) q 0 y _ (by omega) y2
  rw [rot_tor q hq4] at z2
  have hσb : σ.natAbs ≤ 64 ∧ 0 ≤ σ := by
    rcases (show m = 0 ∨ m = 1 ∨ m = 2 by omega) with rfl | rfl | rfl <;> omega
  have b1 := nabs_mul (p := σ) (q := 4096 * (pt S (lab i)).1) hσb.1 (show (4096 * (pt S (lab i)).1).natAbs ≤ 61440 by omega)
  have b2 := nabs_mul (p := σ) (q := 4096 * (pt S (lab i)).2) hσb.1 (show (4096 * (pt S (lab i)).2).natAbs ≤ 61440 by omega)
  have b3 := hN.1
  have b4 := hN.2
  obtain ⟨c1, c2, c3⟩ := quo_small z2.1 h0.dec (by omega) (by decide) (by unfold addZ scZ; dsimp only; omega)
  obtain ⟨d1, d2, d3⟩ := quo_small z2.2 h0.dec (by omega) (by decide) (by unfold addZ scZ; dsimp only; omega)
  have hb : IsZ (c1, d1) (outZ m q (pt S (lab i)) N) 14 := bare_Is hm hσ ⟨c3, d3⟩
  have hw : Wd (c1, d1) := ⟨quo_word c2, quo_word d2⟩
  have hsm : ((rot q N).1 * 2 ^ (2 + m)).natAbs < 16384 ∧ ((rot q N).2 * 2 ^ (2 + m)).natAbs < 16384 := by
    rcases (show m = 0 ∨ m = 1 ∨ m = 2 by omega) with rfl | rfl | rfl <;> simp at b3 b4 ⊢ <;> omega
  have hd := decide_near six (hlab i).1 (hlab i).2 hw hb.1 hb.2 (by unfold outZ; dsimp only; omega) (by unfold outZ; dsimp only; omega)
  obtain ⟨f1, f2, f3⟩ := hb.1.sub (toC_Is hp.1) (by unfold outZ; dsimp only; omega)
  obtain ⟨f4, f5, f6⟩ := hb.2.sub (toC_Is hp.2) (by unfold outZ; dsimp only; omega)
  refine ⟨(c1, d1), (f1, f4), fun g r hr => ?_, ?_, ?_⟩
  · have hck := clean [x] (by simp) (fun y hy => by rw [List.mem_singleton.1 hy]; exact ⟨hx, hg⟩)
    have zz : Ev (fun k => feedback_turned.f k y w.q) z := by rw [h.q]; exact z1
    have dd : Ev (fun k => slice_Decide.f k w.size (c1, d1)) (lab i, toC (pt S (lab i)), false, 0) := by rw [h.size]; exact hd
    have full : Ev (fun k => lp_step k w x) (⟨lab i, toC (pt S (lab i)), false⟩, 0, { w with some_ := true, bare := (c1, d1), past := w.past.set w.pos.toNat (toC (pt S (lab i))), pos := Int.tmod (w.pos + 1) 64 }) := by
      have tail : Ev (fun k => (feedback_turned.f k y w.q).bind fun z => (floatBits .quo .f64 z.1 w.by_).bind fun b1 => (floatBits .quo .f64 z.2 w.by_).bind fun b2 => (slice_Decide.f k w.size (b1, b2)).bind fun d => some ((⟨d.1, d.2.1, d.2.2.1⟩ : S83), d.2.2.2, { w with some_ := true, bare := (b1, b2), past := w.past.set w.pos.toNat d.2.1, pos := Int.tmod (w.pos + 1) 64 })) (⟨lab i, toC (pt S (lab i)), false⟩, 0, { w with some_ := true, bare := (c1, d1), past := w.past.set w.pos.toNat (toC (pt S (lab i))), pos := Int.tmod (w.pos + 1) 64 }) :=
        Ev.bind zz (Ev.congr (fun k => by rw [h.by_, c2, Option.bind_some, d2, Option.bind_some]) (Ev.bind (f := fun _ d => some ((⟨d.1, d.2.1, d.2.2.1⟩ : S83), d.2.2.2, { w with some_ := true, bare := (c1, d1), past := w.past.set w.pos.toNat d.2.1, pos := Int.tmod (w.pos + 1) 64 })) dd (Ev.now _)))
      refine Ev.congr (fun k => by rw [lp_step]) (Ev.bind hck (Ev.congr (fun k => ?_) tail))
      rw [if_pos rfl, if_neg (by rw [h.whole]; decide), if_neg (by rw [hx]; decide), h.n, Int.toNat_natCast, y1, Option.bind_some]
    exact Ev.bind full hr
  · rw [lp_z, if_neg Bool.false_ne_true]
    show (floatBits .sub .f64 c1 (floatOfInt .f64 (pt S (lab i)).1)).bind _ = _
    rw [f2, Option.bind_some]
    show (floatBits .sub .f64 d1 (floatOfInt .f64 (pt S (lab i)).2)).bind _ = _
    rw [f5, Option.bind_some]
  · refine ⟨?_, ?_⟩
    · have e : (outZ m q (pt S (lab i)) N).1 - (pt S (lab i)).1 * 16384 = (rot q N).1 * 2 ^ (2 + m) := by unfold outZ; dsimp only; omega
      rw [e] at f3
      exact f3
    · have e : (outZ m q (pt S (lab i)) N).2 - (pt S (lab i)).2 * 16384 = (rot q N).2 * 2 ^ (2 + m) := by unfold outZ; dsimp only; omega
      rw [e] at f6
      exact f6
end Go.Proofs.Ythfcafllcgjepaa.Feed
