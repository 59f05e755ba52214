import Derived.Test.YthfcafllcgjepaaFeedbackReachFeed3
import Derived.Test.YthfcafllcgjepaaFeedbackReachPureFeedbackEchoes
import Derived.Test.YthfcafllcgjepaaFeedbackReachF1
/- Layer 11: taps that may be, out of any; samples that may be. -/
namespace Go.Proofs.Ythfcafllcgjepaa.Feed
open Ieee Go.RowKit Go.Proofs.Ythfcafllcgjepaa.Q Go.Proofs.YthfcafllcgjepaaW.PrintWords Go.Proofs.YthfcafllcgjepaaW.PrintLast Go.Proofs.YthfcafllcgjepaaW.PrintMore Go.Proofs.Ythfcafllcgjepaa.Flt
theorem awake11 : Ev (fun k => foghornlaw11_awake.f k) true := Ev.of (fun k => foghornlaw11_awake.mono k) (k := 300) (by decide +kernel)
theorem Ev.uniq {α : Type} {g : Nat → Option α} {r s : α} (h : Ev g r) (h' : Ev g s) : r = s := by
  obtain ⟨K, hK⟩ := h
  obtain ⟨L, hL⟩ := h'
  have h1 := hK (K + L) (by omega)
  rw [hL (K + L) (by omega)] at h1
  exact (Option.some.inj h1).symm
structure Fst (t0 : Nat × Nat) (s : Nat) (q : Nat) (σ : Int) (m : Nat) : Prop where
  word : Word t0
  is : IsZ t0 (tor q (σ, 0)) 6
  sIs : Is s σ 6
  m2 : m ≤ 2
  sz : σ * 2 ^ m = 64
  dec : Flt.dec s = .number false (2 ^ 52) (-(m : Int) - 52)
  q4 : q < 4
  fst : Ev (fun k => feedback_first.f k t0) (s, (q : Int), true)
  rfst : Ev (fun k => foghornref11_First.f k t0) (s, (q : Int))
  room : ((floatBits .mul .f64 s 4661225614328463360).bind fun t => floatToIntVal .f64 t .i32) = some ((2 ^ (12 - m) : Nat) : Int)
theorem fst_mk (s : Nat) (σ : Int) (m q : Nat) (t0 : Nat × Nat) (hs : Is s σ 6) (hm : m ≤ 2) (hz : σ * 2 ^ m = 64) (hd : Flt.dec s = .number false (2 ^ 52) (-(m : Int) - 52)) (hq : q < 4) (hw : Word t0) (h1 : foghornref11_Turn.f 20 (s, 0) (q : Int) = some t0) (h2 : feedback_first.f 60 t0 = some (s, (q : Int), true)) (h3 : foghornref11_First.f 200 t0 = some (s, (q : Int))) (h4 : ((floatBits .mul .f64 s 4661225614328463360).bind fun t => floatToIntVal .f64 t .i32) = some ((2 ^ (12 - m) : Nat) : Int)) :
    Ev (fun k => foghornref11_Turn.f k (s, 0) (q : Int)) t0 ∧ Fst t0 s q σ m := by
  have e1 : Ev (fun k => foghornref11_Turn.f k (s, 0) (q : Int)) t0 := Ev.of (fun k => foghornref11_Turn.mono _ _ k) h1
  obtain ⟨r, r1, r2, r3⟩ := turnedTo q (by omega) q 0 (s, 0) (σ, 0) (by omega) hs (is_zero 6)
  have e2 : r = t0 := Ev.uniq (g := fun k => foghornref11_Turn.f k (s, 0) (q : Int)) r1 e1
  subst e2
  exact ⟨e1, hw, ⟨r2, r3⟩, hs, hm, hz, hd, hq, Ev.of (fun k => feedback_first.mono _ k) h2, Ev.of (fun k => foghornref11_First.mono _ k) h3, h4⟩
theorem d_one : Flt.dec 4607182418800017408 = .number false (2 ^ 52) (-((0 : Nat) : Int) - 52) := by decide +kernel
theorem d_half : Flt.dec 4602678819172646912 = .number false (2 ^ 52) (-((1 : Nat) : Int) - 52) := by decide +kernel
theorem d_quarter : Flt.dec 4598175219545276416 = .number false (2 ^ 52) (-((2 : Nat) : Int) - 52) := by decide +kernel
theorem fst_all (a q : Nat) (ha : a < 3) (hq : q < 4) : ∃ t0 s σ m, Ev (fun k => foghornref11_Turn.f k (rdOf 0 [4607182418800017408, 4602678819172646912, 4598175219545276416] (a : Int), 0) (q : Int)) t0 ∧ Fst t0 s q σ m := by
  rcases (show a = 0 ∨ a = 1 ∨ a = 2 by omega) with rfl | rfl | rfl
  · rcases four hq with rfl | rfl | rfl | rfl
    · exact ⟨_, _, _, _, fst_mk 4607182418800017408 64 0 0 (4607182418800017408, 0) is_one (by decide) (by decide) d_one (by decide) ⟨by decide, by decide⟩ (by decide +kernel) (by decide +kernel) (by decide +kernel) (by decide +kernel)⟩
    · exact ⟨_, _, _, _, fst_mk 4607182418800017408 64 0 1 (9223372036854775808, 4607182418800017408) is_one (by decide) (by decide) d_one (by decide) ⟨by decide, by decide⟩ (by decide +kernel) (by decide +kernel) (by decide +kernel) (by decide +kernel)⟩
    · exact ⟨_, _, _, _, fst_mk 4607182418800017408 64 0 2 (13830554455654793216, 9223372036854775808) is_one (by decide) (by decide) d_one (by decide) ⟨by decide, by decide⟩ (by decide +kernel) (by decide +kernel) (by decide +kernel) (by decide +kernel)⟩
    · exact ⟨_, _, _, _, fst_mk 4607182418800017408 64 0 3 (0, 13830554455654793216) is_one (by decide) (by decide) d_one (by decide) ⟨by decide, by decide⟩ (by decide +kernel) (by decide +kernel) (by decide +kernel) (by decide +kernel)⟩
  · rcases four hq with rfl | rfl | rfl | rfl
    · exact ⟨_, _, _, _, fst_mk 4602678819172646912 32 1 0 (4602678819172646912, 0) is_half (by decide) (by decide) d_half (by decide) ⟨by decide, by decide⟩ (by decide +kernel) (by decide +kernel) (by decide +kernel) (by decide +kernel)⟩
    · exact ⟨_, _, _, _, fst_mk 4602678819172646912 32 1 1 (9223372036854775808, 4602678819172646912) is_half (by decide) (by decide) d_half (by decide) ⟨by decide, by decide⟩ (by decide +kernel) (by decide +kernel) (by decide +kernel) (by decide +kernel)⟩
    · exact ⟨_, _, _, _, fst_mk 4602678819172646912 32 1 2 (13826050856027422720, 9223372036854775808) is_half (by decide) (by decide) d_half (by decide) ⟨by decide, by decide⟩ (by decide +kernel) (by decide +kernel) (by decide +kernel) (by decide +kernel)⟩
    · exact ⟨_, _, _, _, fst_mk 4602678819172646912 32 1 3 (0, 13826050856027422720) is_half (by decide) (by decide) d_half (by decide) ⟨by decide, by decide⟩ (by decide +kernel) (by decide +kernel) (by decide +kernel) (by decide +kernel)⟩
  · rcases four hq with rfl | rfl | rfl | rfl
    · exact ⟨_, _, _, _, fst_mk 4598175219545276416 16 2 0 (4598175219545276416, 0) is_quarter (by decide) (by decide) d_quarter (by decide) ⟨by decide, by decide⟩ (by decide +kernel) (by decide +kernel) (by decide +kernel) (by decide +kernel)⟩
    · exact ⟨_, _, _, _, fst_mk 4598175219545276416 16 2 1 (9223372036854775808, 4598175219545276416) is_quarter (by decide) (by decide) d_quarter (by decide) ⟨by decide, by decide⟩ (by decide +kernel) (by decide +kernel) (by decide +kernel) (by decide +kernel)⟩
    · exact ⟨_, _, _, _, fst_mk 4598175219545276416 16 2 2 (13821547256400052224, 9223372036854775808) is_quarter (by decide) (by decide) d_quarter (by decide) ⟨by decide, by decide⟩ (by decide +kernel) (by decide +kernel) (by decide +kernel) (by decide +kernel)⟩
    · exact ⟨_, _, _, _, fst_mk 4598175219545276416 16 2 3 (0, 13821547256400052224) is_quarter (by decide) (by decide) d_quarter (by decide) ⟨by decide, by decide⟩ (by decide +kernel) (by decide +kernel) (by decide +kernel) (by decide +kernel)⟩
theorem rcheck (y : List (Nat × Nat)) : ∃ e, Ev (fun k => foghornref11_Check.f k y) e ∧ (e = 0 → Taps y) := by
  obtain ⟨b, h1, h2⟩ := rtaps y
  cases b with
  | false => exact ⟨8, Ev.congr (fun k => by rw [foghornref11_Check.f]) (Ev.bind h1 (Ev.congr (fun k => by rw [if_neg (by decide)]) (Ev.now _))), fun h => absurd h (by decide)⟩
  | true =>
    have hT := h2.1 rfl
    have h0 := hT.2.1
    obtain ⟨⟨p, p1, _⟩, ⟨q, q1, _⟩⟩ := hT.1 _ (List.getElem_mem h0)
    obtain ⟨s, σ, f3, f4, f5⟩ := First_ev y[0] (p, q) p1 q1
    have hr : rdOf (0, 0) y 0 = y[0] := rd_nat (0, 0) y 0 h0
    refine ⟨if (FloatKind.f64.format.order s.1 0 == some .eq) = true then 110 else 0, Ev.congr (fun k => by rw [foghornref11_Check.f]) (Ev.bind h1 (Ev.congr (fun k => by rw [if_pos rfl, if_pos (by omega), hr]) (Ev.bind f3 ?_))), fun _ => hT⟩
    by_cases c : (FloatKind.f64.format.order s.1 0 == some .eq) = true
    · exact Ev.congr (fun k => by rw [if_pos c, if_pos c]) (Ev.now _)
    · exact Ev.congr (fun k => by rw [if_neg c, if_neg c]) (Ev.now _)
structure Fine (t : List (Nat × Nat)) (t0 : Nat × Nat) : Prop where
  taps : Taps t
  word : ∀ z ∈ t, Word z
  head : t[0]? = some t0
theorem d64 : Flt.dec 4634204016564240384 = .number false (2 ^ 52) (((6 : Nat) : Int) - 52) := by decide +kernel
theorem tmod_abs (a : Int) (b : Nat) (hb : 0 < b) : (Int.tmod a b).natAbs ≤ b - 1 := by
  have h1 := Int.tmod_lt_of_pos a (b := (b : Int)) (by omega)
  have h2 := Int.lt_tmod_of_pos a (b := (b : Int)) (by omega)
  omega
theorem tmod65 (a : Int) : (Int.tmod a 65).natAbs ≤ 64 := tmod_abs a 65 (by decide)
theorem tmod65_lt (a : Int) : (Int.tmod a 65).natAbs < 2 ^ 53 := Nat.lt_of_le_of_lt (tmod65 a) (by decide)
theorem may_l0 (l : List S174) (hl : l.length ≤ 6000000000000) (t0 : Nat × Nat) (d : Nat) : ∀ (i : Nat) (o : List (Nat × Nat)), i + d = l.length → Fine o t0 → ∃ t, Ev (fun k => foghornlaw11_may.l0 k l o (i : Int)) t ∧ Fine t t0 := by
  induction d with
  | zero =>
    intro i o hi ho
    exact ⟨o, Ev.stepTo _ (fun k _ => by rw [foghornlaw11_may.l0, if_neg (by omega)]) (Ev.stepTo _ (fun k _ => by rw [foghornlaw11_may.j1, if_neg (by decide)]) (Ev.now _)), ho⟩
  | succ d ih =>
    intro i o hi ho
    have hol := ho.taps.2.2.1
    by_cases h64 : o.length < 64
    · obtain ⟨p, p1, p2⟩ := (Is.ofInt (Int.tmod ((rd_T174 l (i : Int)).f0) 65) (tmod65_lt _)).quo d64 (by decide) (tmod65_lt _)
      obtain ⟨q, q1, q2⟩ := (Is.ofInt (Int.tmod ((rd_T174 l (i : Int)).f1) 65) (tmod65_lt _)).quo d64 (by decide) (tmod65_lt _)
      obtain ⟨e, e1, e2⟩ := rcheck (o ++ [(p, q)])
      by_cases he : e = 0
      · subst he
        have hT := e2 rfl
        obtain ⟨t, t1, t2⟩ := ih (i + 1) (o ++ [(p, q)]) (by omega) ⟨hT, fun z hz => by
          rcases List.mem_append.1 hz with h | h
          · exact ho.word z h
          · rw [List.mem_singleton.1 h]; exact ⟨quo_word p1, quo_word q1⟩, by rw [List.getElem?_append_left ho.taps.2.1]; exact ho.head⟩
        refine ⟨t, Ev.stepTo _ (fun k _ => by rw [foghornlaw11_may.l0, if_pos (by omega), decide_eq_true (by omega)]) (Ev.stepTo _ (fun k _ => by rw [foghornlaw11_may.j1, if_pos rfl, if_pos (by omega), if_pos (by omega), p1, Option.bind_some, q1, Option.bind_some, if_pos (by omega), Option.bind_some]) (Ev.bind e1 (Ev.congr (fun k => by rw [if_pos rfl, wrap_id _ (by omega) (by omega), show ((i : Int) + 1) = ((i + 1 : Nat) : Int) from by omega]) t1))), t2⟩
      · have hlen : ((o ++ [(p, q)]).length : Int) - 1 = (o.length : Int) := by rw [List.length_append]; simp
        refine ⟨o, Ev.stepTo _ (fun k _ => by rw [foghornlaw11_may.l0, if_pos (by omega), decide_eq_true (by omega)]) (Ev.stepTo _ (fun k _ => by rw [foghornlaw11_may.j1, if_pos rfl, if_pos (by omega), if_pos (by omega), p1, Option.bind_some, q1, Option.bind_some, if_pos (by omega), Option.bind_some]) (Ev.bind e1 (Ev.congr (fun k => ?_) (Ev.now _)))), ho⟩
        rw [if_neg he, hlen, wrap_id _ (by omega) (by omega), if_pos (by omega), if_pos (by rw [List.length_append]; simp; omega), Int.toNat_natCast, List.take_left' rfl]
    · exact ⟨o, Ev.stepTo _ (fun k _ => by rw [foghornlaw11_may.l0, if_pos (by omega), decide_eq_false (by omega)]) (Ev.stepTo _ (fun k _ => by rw [foghornlaw11_may.j1, if_neg (by decide)]) (Ev.now _)), ho⟩
theorem turns (a : Int) (b : Nat) (hb : 0 < b) (hb2 : b < 100) : ∃ n : Nat, Int.tmod (wrap64 (Int.tmod a b + b)) b = (n : Int) ∧ n < b := by
  have h1 := tmod_abs a b hb
  have h2 := Int.tmod_nonneg (a := Int.tmod a b + b) (b : Int) (by omega)
  have h3 := Int.tmod_lt_of_pos (Int.tmod a b + b) (b := (b : Int)) (by omega)
  rw [wrap_id _ (by omega) (by omega)]
  exact ⟨(Int.tmod (Int.tmod a b + b) b).toNat, by omega, by omega⟩
theorem fine_one {t0 : Nat × Nat} {s q : Nat} {σ : Int} {m : Nat} (h : Fst t0 s q σ m) : Fine [t0] t0 := by
  have hσ : σ.natAbs ≤ 64 := by
    have := h.sz
    rcases (show m = 0 ∨ m = 1 ∨ m = 2 by have := h.m2; omega) with rfl | rfl | rfl <;> omega
  have hb : (tor q (σ, 0)).1.natAbs + (tor q (σ, 0)).2.natAbs ≤ 64 := by
    rcases four h.q4 with rfl | rfl | rfl | rfl <;> simp [tor] <;> omega
  refine ⟨⟨fun z hz => ?_, Nat.zero_lt_one, by show 1 ≤ 64; decide, ?_⟩, fun z hz => ?_, rfl⟩
  · rw [List.mem_singleton.1 hz]
    exact ⟨⟨_, h.is.1, by omega⟩, ⟨_, h.is.2, by omega⟩⟩
  · show (List.map tz [t0]).sum ≤ 256
    rw [List.map_cons, List.map_nil, List.sum_cons, List.sum_nil, tz, tn_of h.is.1, tn_of h.is.2]
    omega
  · rw [List.mem_singleton.1 hz]; exact h.word
theorem may_ev (a0 a1 : Int) (l : List S174) (hl : l.length ≤ 6000000000000) : ∃ t t0 s q σ m, Ev (fun k => foghornlaw11_may.f k a0 a1 l) t ∧ Fine t t0 ∧ Fst t0 s q σ m := by
  obtain ⟨a, ha, ha3⟩ := turns a0 3 (by decide) (by decide)
  obtain ⟨q, hq, hq4⟩ := turns a1 4 (by decide) (by decide)
  obtain ⟨t0, s, σ, m, h1, h2⟩ := fst_all a q ha3 hq4
  obtain ⟨t, h3, h4⟩ := may_l0 l hl t0 l.length 0 [t0] (by omega) (fine_one h2)
  refine ⟨t, t0, s, q, σ, m, Ev.congr (fun k => ?_) (Ev.bind (f := fun k z => foghornlaw11_may.l0 k l [z] 0) h1 h3), h4, h2⟩
  rw [show ((3 : Nat) : Int) = 3 from rfl] at ha
  rw [show ((4 : Nat) : Int) = 4 from rfl] at hq
  rw [foghornlaw11_may.f, Option.bind_some, ha, hq, if_pos (by omega), if_pos (by simp; omega)]
theorem rd101' (l : List S101) (i : Nat) (h : i < l.length) : rd_T101 l (i : Int) = l[i] := by
  unfold rd_T101
  rw [Int.toNat_natCast, List.getD_eq_getElem?_getD, List.getElem?_eq_getElem h]
  rfl
end Go.Proofs.Ythfcafllcgjepaa.Feed
