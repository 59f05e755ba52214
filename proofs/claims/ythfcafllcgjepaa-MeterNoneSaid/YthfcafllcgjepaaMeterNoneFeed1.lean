import Derived.Test.YthfcafllcgjepaaMeterNoneFlt2
import Derived.Test.YthfcafllcgjepaaMeterNoneF0
/- Feedback: which numbers are taps, which lie on the grid. -/
namespace Go.Proofs.Ythfcafllcgjepaa.Feed
open Ieee Go.RowKit Go.Proofs.Ythfcafllcgjepaa.Q Go.Proofs.YthfcafllcgjepaaW.PrintWords Go.Proofs.YthfcafllcgjepaaW.PrintLast Go.Proofs.Ythfcafllcgjepaa.Flt

theorem Ev.stepTo {α : Type} {g : Nat → Option α} {r : α} (f : Nat → Option α) (h : ∀ k, 40 ≤ k → g (k + 1) = f k) (k : Ev f r) : Ev g r := by
  obtain ⟨K, k⟩ := k
  refine ⟨K + 41, fun n hn => ?_⟩
  obtain ⟨m, rfl⟩ : ∃ m, n = m + 1 := ⟨n - 1, by omega⟩
  rw [h m (by omega)]
  exact k m (by omega)
theorem wrap_id (x : Int) (h0 : -9223372036854775808 ≤ x) (h1 : x ≤ 9223372036854775807) : wrap64 x = x := by unfold wrap64; omega
theorem rd_nat {α : Type} (d : α) (xs : List α) (i : Nat) (h : i < xs.length) : rdOf d xs (i : Int) = xs[i] := by
  unfold rdOf
  rw [Int.toNat_natCast, List.getD_eq_getElem?_getD, List.getElem?_eq_getElem h]
  rfl
theorem is_64 : Is 4634204016564240384 (2 ^ 6) 0 := Is.const (s := false) (m := 2 ^ 52) (e := -46) (by decide +kernel) 64 0 46 (by decide) (by decide)
theorem is_4096 : Is 4661225614328463360 (2 ^ 12) 0 := Is.const (s := false) (m := 2 ^ 52) (e := -40) (by decide +kernel) 4096 0 40 (by decide) (by decide)
theorem le_no {x y : Nat} (hx : ¬ fin x) (hy : fin y) : (FloatKind.f64.format.order (x % 2 ^ 63) y == some .lt || FloatKind.f64.format.order (x % 2 ^ 63) y == some .eq) = false := by
  obtain ⟨s, m, e, hd⟩ := fin_iff.1 hy
  have h : FloatKind.f64.format.order (x % 2 ^ 63) y = (dec (x % 2 ^ 63)).order (dec y) := rfl
  rw [h, dec_abs, hd]
  cases h : dec x with
  | number s m e => exact absurd (fin_iff.2 ⟨_, _, _, h⟩) hx
  | infinity s => rfl
  | nan s t => rfl
theorem le_int (a b : Nat) (j : Nat) (B : Int) (hB : B = b) : ((a : Int) ≤ B * 2 ^ j) ↔ a ≤ b * 2 ^ j := by
  subst hB
  have h : (b : Int) * 2 ^ j = ((b * 2 ^ j : Nat) : Int) := by rw [Int.natCast_mul, Int.natCast_pow]; rfl
  rw [h]
  omega
/-! ## parts of taps, numbers on the grid -/
theorem fstep {x : Nat} (hx : x < 2 ^ 64) : ∃ b, feedback_step.f x = some b ∧ (b = true ↔ On 6 64 x) := by
  unfold feedback_step.f math_Abs.f
  rw [Option.bind_some, abs_word hx]
  by_cases hf : fin x
  · rw [le_fin (fin_abs.2 hf) is_one.1, V_abs, is_one.2]
    by_cases hb : (V x).natAbs ≤ 64 * 2 ^ (1074 - 6)
    · rw [if_pos (decide_eq_true ((le_int _ 64 (1074 - 6) 64 rfl).2 hb))]
      obtain ⟨y, r, h1, h2, h3⟩ := floor_on (a := 6) (B := 64) (by decide) is_64 (by decide) hf hb
      rw [h1, Option.bind_some]
      unfold math_Floor.f
      rw [h2]
      exact ⟨_, rfl, h3⟩
    · rw [if_neg (mt of_decide_eq_true (mt (le_int _ 64 (1074 - 6) 64 rfl).1 hb))]
      exact ⟨_, rfl, fun h => absurd h (by decide), fun h => absurd h.bound hb⟩
  · rw [le_no hf is_one.1, if_neg (by decide)]
    exact ⟨_, rfl, fun h => absurd h (by decide), fun h => absurd h.fin hf⟩
theorem abs_le (v : Int) (b : Nat) (j : Nat) (B C : Int) (hB : B = b) (hC : C = -b) : (v.natAbs ≤ b * 2 ^ j) ↔ (C * 2 ^ j ≤ v ∧ v ≤ B * 2 ^ j) := by
  subst hB hC
  have h : (b : Int) * 2 ^ j = ((b * 2 ^ j : Nat) : Int) := by rw [Int.natCast_mul, Int.natCast_pow]; rfl
  rw [Int.neg_mul, h]
  omega
theorem rstep {x : Nat} : ∃ b, foghornref11_step.f x = some b ∧ (b = true ↔ On 6 64 x) := by
  unfold foghornref11_step.f
  by_cases hf : fin x
  · rw [le_fin hf is_one.1, ge_fin hf is_neg_one.1, is_one.2, is_neg_one.2]
    by_cases hb : (V x).natAbs ≤ 64 * 2 ^ (1074 - 6)
    · have h := (abs_le _ 64 (1074 - 6) 64 (-64) rfl rfl).1 hb
      rw [if_pos (decide_eq_true h.1), if_pos (decide_eq_true h.2)]
      obtain ⟨y, r, h1, h2, h3⟩ := int_on (a := 6) (B := 64) (by decide) is_64 (by decide) hf hb
      rw [h1, Option.bind_some, h2]
      exact ⟨_, rfl, h3⟩
    · refine ⟨false, ?_, fun h => absurd h (by decide), fun h => absurd h.bound hb⟩
      by_cases h1 : (-64 : Int) * 2 ^ (1074 - 6) ≤ V x
      · rw [if_pos (decide_eq_true h1), if_neg]
        exact fun h2 => hb ((abs_le _ 64 (1074 - 6) 64 (-64) rfl rfl).2 ⟨h1, of_decide_eq_true h2⟩)
      · rw [if_neg]
        exact fun h2 => h1 (of_decide_eq_true h2)
  · refine ⟨false, ?_, fun h => absurd h (by decide), fun h => absurd h.fin hf⟩
    have h := between_no hf is_neg_one.1 is_one.1
    rw [Bool.and_eq_false_iff] at h
    rcases h with h | h
    · rw [h, if_neg (by decide)]
    · rw [h, if_neg (show ¬ false = true by decide)]
      split <;> rfl
theorem gOn (x : Nat) : ∃ b, grid_On.f x = some b ∧ (b = true ↔ On 12 4194304 x) := by
  unfold grid_On.f grid_within.f
  by_cases hf : fin x
  · rw [le_fin hf is_edge.1, ge_fin hf is_neg_edge.1, is_edge.2, is_neg_edge.2]
    by_cases hb : (V x).natAbs ≤ 4194304 * 2 ^ (1074 - 12)
    · have h := (abs_le _ 4194304 (1074 - 12) 4194304 (-4194304) rfl rfl).1 hb
      rw [if_pos (decide_eq_true h.1), Option.bind_some, if_pos (decide_eq_true h.2)]
      obtain ⟨y, r, h1, h2, h3⟩ := floor_on (a := 12) (B := 4194304) (by decide) is_4096 (by decide) hf hb
      rw [h1, Option.bind_some]
      unfold math_Floor.f
      rw [h2]
      exact ⟨_, rfl, h3⟩
    · refine ⟨false, ?_, fun h => absurd h (by decide), fun h => absurd h.bound hb⟩
      by_cases h1 : (-4194304 : Int) * 2 ^ (1074 - 12) ≤ V x
      · rw [if_pos (decide_eq_true h1), Option.bind_some, if_neg]
        exact fun h2 => hb ((abs_le _ 4194304 (1074 - 12) 4194304 (-4194304) rfl rfl).2 ⟨h1, of_decide_eq_true h2⟩)
      · rw [if_neg (fun h2 => h1 (of_decide_eq_true h2))]
        rfl
  · refine ⟨false, ?_, fun h => absurd h (by decide), fun h => absurd h.fin hf⟩
    have h := between_no hf is_neg_edge.1 is_edge.1
    rw [Bool.and_eq_false_iff] at h
    rcases h with h | h
    · rw [h, if_neg (by decide)]; rfl
    · rw [h]
      split <;> rfl
theorem rOn (x : Nat) : ∃ b, foghornref02_On.f x = some b ∧ (b = true ↔ On 12 4194304 x) := by
  unfold foghornref02_On.f
  by_cases hf : fin x
  · rw [le_fin hf is_edge.1, ge_fin hf is_neg_edge.1, is_edge.2, is_neg_edge.2]
    by_cases hb : (V x).natAbs ≤ 4194304 * 2 ^ (1074 - 12)
    · have h := (abs_le _ 4194304 (1074 - 12) 4194304 (-4194304) rfl rfl).1 hb
      rw [if_pos (decide_eq_true h.1), if_pos (decide_eq_true h.2)]
      obtain ⟨y, r, h1, h2, h3⟩ := int_on (a := 12) (B := 4194304) (by decide) is_4096 (by decide) hf hb
      rw [h1, Option.bind_some, h2]
      exact ⟨_, rfl, h3⟩
    · refine ⟨false, ?_, fun h => absurd h (by decide), fun h => absurd h.bound hb⟩
      by_cases h1 : (-4194304 : Int) * 2 ^ (1074 - 12) ≤ V x
      · rw [if_pos (decide_eq_true h1), if_neg]
        exact fun h2 => hb ((abs_le _ 4194304 (1074 - 12) 4194304 (-4194304) rfl rfl).2 ⟨h1, of_decide_eq_true h2⟩)
      · rw [if_neg]
        exact fun h2 => h1 (of_decide_eq_true h2)
  · refine ⟨false, ?_, fun h => absurd h (by decide), fun h => absurd h.fin hf⟩
    have h := between_no hf is_neg_edge.1 is_edge.1
    rw [Bool.and_eq_false_iff] at h
    rcases h with h | h
    · rw [h, if_neg (by decide)]
    · rw [h, if_neg (show ¬ false = true by decide)]
      split <;> rfl
/-! ## taps -/
/-- The units of a part. -/
def tn (x : Nat) : Nat := (V x).natAbs / 2 ^ (1074 - 6)
theorem tn_of {x : Nat} {n : Int} (h : Is x n 6) : tn x = n.natAbs := by
  have h1 := Nat.mul_div_cancel n.natAbs (Nat.two_pow_pos (1074 - 6))
  rw [← h.abs_lt] at h1
  exact h1
def tz (z : Nat × Nat) : Nat := tn z.1 + tn z.2
def tot (l : List (Nat × Nat)) : Nat := (l.map tz).sum
def Tap (z : Nat × Nat) : Prop := On 6 64 z.1 ∧ On 6 64 z.2
def Taps (l : List (Nat × Nat)) : Prop := (∀ z ∈ l, Tap z) ∧ 0 < l.length ∧ l.length ≤ 64 ∧ tot l ≤ 256
def Word (z : Nat × Nat) : Prop := z.1 < 2 ^ 64 ∧ z.2 < 2 ^ 64
theorem tz_le {z : Nat × Nat} (h : Tap z) : tz z ≤ 128 := by
  obtain ⟨⟨n, h1, h2⟩, ⟨m, h3, h4⟩⟩ := h
  unfold tz
  rw [tn_of h1, tn_of h3]
  omega
theorem tot_take (l : List (Nat × Nat)) (i : Nat) (h : i < l.length) : tot (l.take (i + 1)) = tot (l.take i) + tz l[i] := by
  unfold tot
  rw [List.take_succ_eq_append_getElem h, List.map_append, List.sum_append]
  simp
theorem tot_le (l : List (Nat × Nat)) (h : ∀ z ∈ l, Tap z) : tot l ≤ 128 * l.length := by
  induction l with
  | nil => simp [tot]
  | cons a l ih =>
    have h1 := ih (fun z hz => h z (List.mem_cons_of_mem _ hz))
    have h2 := tz_le (h a List.mem_cons_self)
    unfold tot at *
    rw [List.map_cons, List.sum_cons, List.length_cons]
    omega
theorem take_next {l : List (Nat × Nat)} {i : Nat} (hi : i < l.length) {P : Nat × Nat → Prop} (h : ∀ z ∈ l.take i, P z) (hz : P l[i]) : ∀ z ∈ l.take (i + 1), P z := by
  intro z hm
  rw [List.take_succ_eq_append_getElem hi] at hm
  rcases List.mem_append.1 hm with h1 | h1
  · exact h z h1
  · rw [List.mem_singleton.1 h1]; exact hz
theorem sum_ok {s : Nat} {l : List (Nat × Nat)} {x : Nat} (hs : Is s (tot l : Int) 6) (hx : x = tot l) : Is s (x : Int) 6 := hx ▸ hs
theorem taps_end {l : List (Nat × Nat)} {s : Nat} (hs : Is s (tot l : Int) 6) : (FloatKind.f64.format.order s 4616189618054758400 == some .lt || FloatKind.f64.format.order s 4616189618054758400 == some .eq) = decide (tot l ≤ 256) := by
  rw [hs.le is_four]
  exact decide_eq_decide.2 ⟨fun h => by omega, fun h => by omega⟩
theorem tap_add {s : Nat} {a : Nat} {z : Nat × Nat} (hz : Tap z) (hs : Is s (a : Int) 6) (ha : a < 2 ^ 52) :
    (∃ t u, floatBits .add .f64 (z.1 % 2 ^ 63) (z.2 % 2 ^ 63) = some t ∧ floatBits .add .f64 s t = some u ∧ Is u ((a + tz z : Nat) : Int) 6) ∧
    (∀ p q, Is p (tn z.1 : Int) 6 → Is q (tn z.2 : Int) 6 → ∃ t u, floatBits .add .f64 s p = some t ∧ floatBits .add .f64 t q = some u ∧ Is u ((a + tz z : Nat) : Int) 6) := by
  have hl := tz_le hz
  obtain ⟨⟨n, h1, h2⟩, ⟨m, h3, h4⟩⟩ := hz
  have e1 := tn_of h1
  have e2 := tn_of h3
  have e3 : tz z = tn z.1 + tn z.2 := rfl
  constructor
  · obtain ⟨t, h5, h6⟩ := h1.abs.add h3.abs (by omega)
    obtain ⟨u, h7, h8⟩ := hs.add h6 (by omega)
    refine ⟨t, u, h5, h7, ?_⟩
    rw [show ((a + tz z : Nat) : Int) = (a : Int) + ((n.natAbs : Int) + (m.natAbs : Int)) by omega]
    exact h8
  · intro p q hp hq
    obtain ⟨t, h5, h6⟩ := hs.add hp (by omega)
    obtain ⟨u, h7, h8⟩ := h6.add hq (by omega)
    refine ⟨t, u, h5, h7, ?_⟩
    rw [show ((a + tz z : Nat) : Int) = (a : Int) + (tn z.1 : Int) + (tn z.2 : Int) by omega]
    exact h8
theorem size_of {x : Nat} (h : On 6 64 x) : ∃ r, foghornref11_size.f x = some r ∧ Is r (tn x : Int) 6 := by
  obtain ⟨n, h1, h2⟩ := h
  rw [tn_of h1]
  unfold foghornref11_size.f
  rw [h1.lt (is_zero 6)]
  by_cases h : n < 0
  · rw [if_pos (decide_eq_true h)]
    refine ⟨_, rfl, ?_⟩
    rw [show (n.natAbs : Int) = -n by omega]
    exact h1.neg
  · rw [if_neg (by rw [decide_eq_true_iff]; exact h)]
    refine ⟨_, rfl, ?_⟩
    rw [show (n.natAbs : Int) = n by omega]
    exact h1
theorem ftaps_l0 (l : List (Nat × Nat)) (hw : ∀ z ∈ l, Word z) (hl : l.length ≤ 12000000000000) (d : Nat) : ∀ (i s : Nat), i + d = l.length → Is s (tot (l.take i) : Int) 6 → (∀ z ∈ l.take i, Tap z) →
    ∃ b, Ev (fun k => feedback_taps.l0 k l s l (l.length : Int) (i : Int)) b ∧ (b = true ↔ Taps l) := by
  induction d with
  | zero =>
    intro i s hi hs ht
    rw [List.take_of_length_le (by omega)] at hs ht
    by_cases h0 : 0 < l.length
    · by_cases h64 : l.length ≤ 64
      · refine ⟨decide (tot l ≤ 256), Ev.stepTo _ (fun k _ => by rw [feedback_taps.l0, if_neg (by omega), if_pos (by omega), if_pos (by omega), taps_end hs]) (Ev.now _), ?_⟩
        rw [decide_eq_true_iff]
        exact ⟨fun h => ⟨ht, h0, h64, h⟩, fun h => h.2.2.2⟩
      · exact ⟨false, Ev.stepTo _ (fun k _ => by rw [feedback_taps.l0, if_neg (by omega), if_pos (by omega), if_neg (by omega)]) (Ev.now _), fun h => absurd h (by decide), fun h => absurd h.2.2.1 h64⟩
    · exact ⟨false, Ev.stepTo _ (fun k _ => by rw [feedback_taps.l0, if_neg (by omega), if_neg (by omega)]) (Ev.now _), fun h => absurd h (by decide), fun h => absurd h.2.1 h0⟩
  | succ d ih =>
    intro i s hi hs ht
    have hil : i < l.length := by omega
    have hm : l[i] ∈ l := List.getElem_mem hil
    obtain ⟨b1, e1, g1⟩ := fstep (hw _ hm).1
    cases b1 with
    | false =>
      refine ⟨false, Ev.stepTo _ (fun k _ => by rw [feedback_taps.l0, if_pos (by omega), if_pos (by omega), if_pos (by omega), rd_nat _ _ _ hil, e1, Option.bind_some, if_neg (by decide)]) (Ev.stepTo _ (fun k _ => by rw [feedback_taps.j1, if_pos rfl]) (Ev.now _)), fun h => absurd h (by decide), fun h => absurd (g1.2 (h.1 _ hm).1) (by decide)⟩
    | true =>
      obtain ⟨b2, e2, g2⟩ := fstep (hw _ hm).2
      cases b2 with
      | false =>
        refine ⟨false, Ev.stepTo _ (fun k _ => by rw [feedback_taps.l0, if_pos (by omega), if_pos (by omega), if_pos (by omega), rd_nat _ _ _ hil, e1, Option.bind_some, if_pos rfl, e2, Option.bind_some]) (Ev.stepTo _ (fun k _ => by rw [feedback_taps.j1, if_pos (by decide)]) (Ev.now _)), fun h => absurd h (by decide), fun h => absurd (g2.2 (h.1 _ hm).2) (by decide)⟩
      | true =>
        have hz : Tap l[i] := ⟨g1.1 rfl, g2.1 rfl⟩
        have ha := tot_le _ ht
        rw [List.length_take] at ha
        obtain ⟨t, u, h5, h6, h7⟩ := (tap_add hz hs (by omega)).1
        obtain ⟨b, h8, h9⟩ := ih (i + 1) u (by omega) (by rw [tot_take l i hil]; exact h7) (take_next hil ht hz)
        refine ⟨b, Ev.stepTo _ (fun k _ => by rw [feedback_taps.l0, if_pos (by omega), if_pos (by omega), if_pos (by omega), rd_nat _ _ _ hil, e1, Option.bind_some, if_pos rfl, e2, Option.bind_some]) (Ev.stepTo _ (fun k _ => by
          rw [feedback_taps.j1, if_neg (by decide), math_Abs.f, math_Abs.f, Option.bind_some, Option.bind_some, abs_word (hw _ hm).1, abs_word (hw _ hm).2, h5, Option.bind_some, h6, Option.bind_some, wrap_id _ (by omega) (by omega), show ((i : Int) + 1) = ((i + 1 : Nat) : Int) from by omega]) h8), h9⟩
theorem ftaps (l : List (Nat × Nat)) (hw : ∀ z ∈ l, Word z) (hl : l.length ≤ 12000000000000) : ∃ b, Ev (fun k => feedback_taps.f k l) b ∧ (b = true ↔ Taps l) :=
  ftaps_l0 l hw hl l.length 0 0 (by omega) (is_zero 6) (fun z hz => by simp at hz)
theorem rtaps_l0 (l : List (Nat × Nat)) (hl : l.length ≤ 64) (h0 : 0 < l.length) (d : Nat) : ∀ (i s : Nat), i + d = l.length → Is s (tot (l.take i) : Int) 6 → (∀ z ∈ l.take i, Tap z) →
    ∃ b, Ev (fun k => foghornref11_Taps.l0 k l s (i : Int)) b ∧ (b = true ↔ Taps l) := by
  induction d with
  | zero =>
    intro i s hi hs ht
    rw [List.take_of_length_le (by omega)] at hs ht
    refine ⟨decide (tot l ≤ 256), Ev.stepTo _ (fun k _ => by rw [foghornref11_Taps.l0, if_neg (by omega), taps_end hs]) (Ev.now _), ?_⟩
    rw [decide_eq_true_iff]
    exact ⟨fun h => ⟨ht, h0, hl, h⟩, fun h => h.2.2.2⟩
  | succ d ih =>
    intro i s hi hs ht
    have hil : i < l.length := by omega
    have hm : l[i] ∈ l := List.getElem_mem hil
    obtain ⟨b1, e1, g1⟩ := rstep (x := l[i].1)
    cases b1 with
    | false =>
      refine ⟨false, Ev.stepTo _ (fun k _ => by rw [foghornref11_Taps.l0, if_pos (by omega), if_pos (by omega), rd_nat _ _ _ hil, e1, Option.bind_some, if_neg (by decide)]) (Ev.stepTo _ (fun k _ => by rw [foghornref11_Taps.j2, if_pos rfl]) (Ev.now _)), fun h => absurd h (by decide), fun h => absurd (g1.2 (h.1 _ hm).1) (by decide)⟩
    | true =>
      obtain ⟨b2, e2, g2⟩ := rstep (x := l[i].2)
      cases b2 with
      | false =>
        refine ⟨false, Ev.stepTo _ (fun k _ => by rw [foghornref11_Taps.l0, if_pos (by omega), if_pos (by omega), rd_nat _ _ _ hil, e1, Option.bind_some, if_pos rfl, e2, Option.bind_some]) (Ev.stepTo _ (fun k _ => by rw [foghornref11_Taps.j2, if_pos (by decide)]) (Ev.now _)), fun h => absurd h (by decide), fun h => absurd (g2.2 (h.1 _ hm).2) (by decide)⟩
      | true =>
        have hz : Tap l[i] := ⟨g1.1 rfl, g2.1 rfl⟩
        have ha := tot_le _ ht
        rw [List.length_take] at ha
        obtain ⟨p, hp, hp'⟩ := size_of hz.1
        obtain ⟨q, hq, hq'⟩ := size_of hz.2
        obtain ⟨t, u, h5, h6, h7⟩ := (tap_add hz hs (by omega)).2 p q hp' hq'
        obtain ⟨b, h8, h9⟩ := ih (i + 1) u (by omega) (by rw [tot_take l i hil]; exact h7) (take_next hil ht hz)
        refine ⟨b, Ev.stepTo _ (fun k _ => by rw [foghornref11_Taps.l0, if_pos (by omega), if_pos (by omega), rd_nat _ _ _ hil, e1, Option.bind_some, if_pos rfl, e2, Option.bind_some]) (Ev.stepTo _ (fun k _ => by
          rw [foghornref11_Taps.j2, if_neg (by decide), if_pos (by omega), if_pos (by omega), rd_nat _ _ _ hil, hp, Option.bind_some, h5, Option.bind_some, hq, Option.bind_some, h6, Option.bind_some, wrap_id _ (by omega) (by omega), show ((i : Int) + 1) = ((i + 1 : Nat) : Int) from by omega]) h8), h9⟩
theorem rtaps (l : List (Nat × Nat)) : ∃ b, Ev (fun k => foghornref11_Taps.f k l) b ∧ (b = true ↔ Taps l) := by
  by_cases h0 : 0 < l.length
  · by_cases h64 : l.length ≤ 64
    · obtain ⟨b, h1, h2⟩ := rtaps_l0 l h64 h0 l.length 0 0 (by omega) (is_zero 6) (fun z hz => by simp at hz)
      refine ⟨b, Ev.congr (fun k => by rw [foghornref11_Taps.f, if_neg (by omega), decide_eq_false (by omega)]) (Ev.stepTo _ (fun k _ => by rw [foghornref11_Taps.j0, if_neg (by decide)]; rfl) h1), h2⟩
    · refine ⟨false, Ev.congr (fun k => by rw [foghornref11_Taps.f, if_neg (by omega), decide_eq_true (by omega)]) (Ev.stepTo _ (fun k _ => by rw [foghornref11_Taps.j0, if_pos rfl]) (Ev.now _)), fun h => absurd h (by decide), fun h => absurd h.2.2.1 h64⟩
  · refine ⟨false, Ev.congr (fun k => by rw [foghornref11_Taps.f, if_pos (by omega)]) (Ev.stepTo _ (fun k _ => by rw [foghornref11_Taps.j0, if_pos rfl]) (Ev.now _)), fun h => absurd h (by decide), fun h => absurd h.2.1 h0⟩
end Go.Proofs.Ythfcafllcgjepaa.Feed
