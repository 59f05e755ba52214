import Derived.Test.YtncoakokdajibaaReedNamesEncRun
import Derived.Test.YtncoakokdajibaaReedNamesF0
/- What layer 19's statements ask first, and what they make of any data. -/
namespace Go.Proofs.Ytncoakokdajibaa.Sem
open Go.RowKit Go.Proofs.Ytncoakokdajibaa.Q Go.Proofs.YtncoakokdajibaaW.PrintWords Go.Proofs.YtncoakokdajibaaW.PrintLast Go.Proofs.YtncoakokdajibaaW.PrintMore Go.Proofs.Ytncoakokdajibaa.Gf

theorem u8_of {x : Int} (h : (Lit.int .u8 x).wf = true) : ∃ a : F, x = I a := by
  simp only [Lit.wf, IntKind.min, IntKind.max, IntKind.signed, IntKind.bits, Bool.and_eq_true] at h
  exact of_u8 x (by simpa using h.1) (by have := h.2; simp at this; omega)
theorem fits_of {n r : Int} (h : isChecks r = true) (h1 : r < n) (h2 : n ≤ 255) : Fits n r := ⟨h, h1, h2⟩
theorem checks2 : isChecks 2 = true := by decide
theorem code132 : Code 2 [1, ⟨3, by decide⟩, ⟨2, by decide⟩] := fun i hi => by
  have : i = 0 ∨ i = 1 := by omega
  rcases this with rfl | rfl <;> decide +kernel
theorem chk_one : [1] ++ chk 2 [1] = [1, ⟨3, by decide⟩, ⟨2, by decide⟩] := by
  have := chk_unique (r := 2) (d := [1]) (u := [⟨3, by decide⟩, ⟨2, by decide⟩]) (by decide) rfl (by decide) code132
  rw [← this]
  rfl
theorem works_ev : Ev (fun k => foghornlaw19_works.f k) true := by
  have h1 := encode_ev [1] 2 (fits_of checks2 (by decide) (by decide)) (by simp)
  rw [show (2 : Int).toNat = 2 from rfl, chk_one] at h1
  have h2 := whole_ev [1, ⟨3, by decide⟩, ⟨2, by decide⟩] 2 (fits_of checks2 (by decide) (by decide))
  rw [show (2 : Int).toNat = 2 from rfl, (wholeB_iff _ _).2 code132] at h2
  have h3 := whole_ev [1, ⟨3, by decide⟩, ⟨3, by decide⟩] 2 (fits_of checks2 (by decide) (by decide))
  rw [show wholeB [1, ⟨3, by decide⟩, ⟨3, by decide⟩] (2 : Int).toNat = false from by decide +kernel] at h3
  refine Ev.congr (fun k => by rw [foghornlaw19_works.f]) ?_
  refine Ev.bind h1 (Ev.bind h2 (Ev.bind h3 ?_))
  refine Ev.congr (fun k => by rw [if_pos rfl, if_pos rfl, if_pos rfl, if_pos (by rw [B_toList]; decide +kernel), if_pos rfl]; rfl) (Ev.now true)
/-- The checks that are made of any number. -/
def fitR (r : Int) : Int := 2 + 2 * ((r % 18446744073709551616) % 32)
def fitD (d : List F) (r : Int) : List F := (if d = [] then [0] else d).take (255 - (fitR r).toNat)
theorem fitR_checks (r : Int) : isChecks (fitR r) = true := by
  unfold isChecks fitR
  refine decide_eq_true ⟨by omega, by omega, ?_⟩
  rw [Int.tmod_eq_emod_of_nonneg (by omega)]
  omega
theorem fitR_lo (r : Int) : 2 ≤ fitR r := by unfold fitR; omega
theorem fitR_hi (r : Int) : fitR r ≤ 64 := by unfold fitR; omega
theorem fitR_half (r : Int) : fitR (wrap64 (wrap64 (Int.tdiv (fitR r) 2) - 1)) = fitR r := by
  have h1 : Int.tdiv (fitR r) 2 = 1 + (r % 18446744073709551616) % 32 := by
    rw [Int.tdiv_eq_ediv_of_nonneg (by have := fitR_lo r; omega)]
    unfold fitR
    omega
  have h2 : wrap64 (1 + (r % 18446744073709551616) % 32) = 1 + (r % 18446744073709551616) % 32 := wrap_id _ (by omega) (by omega)
  rw [h1, h2, wrap_id _ (by omega) (by omega)]
  unfold fitR
  omega
theorem mn_min (a b : Nat) : mn (a : Int) (b : Int) = ((min a b : Nat) : Int) := by
  unfold mn
  by_cases h : (b : Int) < a
  · rw [if_pos h, Nat.min_eq_right (by omega)]
  · rw [if_neg h, Nat.min_eq_left (by omega)]
theorem mx_max (a b : Nat) : mx (a : Int) (b : Int) = ((max a b : Nat) : Int) := by
  unfold mx
  by_cases h : (a : Int) < b
  · rw [if_pos h, Nat.max_eq_right (by omega)]
  · rw [if_neg h, Nat.max_eq_left (by omega)]
theorem take_min {α : Type} (l : List α) (m : Nat) : l.take (min l.length m) = l.take m := by
  by_cases h : l.length ≤ m
  · rw [Nat.min_eq_left h, List.take_length, List.take_of_length_le h]
  · rw [Nat.min_eq_right (by omega)]
theorem fit_f (d : List F) (r : Int) (_hd : d.length ≤ 140737488351232) : foghornlaw19_fit.f (B d) r = some (B (fitD d r), fitR r) := by
  have hr := fitR_lo r
  have hr' := fitR_hi r
  have e1 : wrap64 (2 + wrap64 (2 * wrap64 (Int.tmod (IntKind.u64.wrap r) 32))) = fitR r := by
    have h0 : IntKind.u64.wrap r = r % 18446744073709551616 := rfl
    have h2 : wrap64 ((r % 18446744073709551616) % 32) = (r % 18446744073709551616) % 32 := wrap_id _ (by omega) (by omega)
    have h3 : wrap64 (2 * ((r % 18446744073709551616) % 32)) = 2 * ((r % 18446744073709551616) % 32) := wrap_id _ (by omega) (by omega)
    rw [h0, Int.tmod_eq_emod_of_nonneg (by omega), h2, h3, wrap_id _ (by omega) (by omega)]
    rfl
  have e2 : wrap64 (255 - fitR r) = ((255 - (fitR r).toNat : Nat) : Int) := by rw [wrap_id _ (by omega) (by omega)]; omega
  have h1 : mn 1 ((255 - (fitR r).toNat : Nat) : Int) = 1 := by
    have := mn_min 1 (255 - (fitR r).toNat)
    rw [Nat.min_eq_left (by omega)] at this
    exact this
  rw [foghornlaw19_fit.f, e1, e2, toNat_len, mn_min, h1]
  by_cases h : d = []
  · subst h
    rw [if_pos (B_empty.2 rfl), if_pos (by omega), if_pos (by omega)]
    congr 2
    unfold fitD
    rw [if_pos rfl, List.take_of_length_le (by simp; omega)]
    decide +kernel
  · rw [if_neg (fun e => h (B_empty.1 e)), if_pos (by omega), if_pos (by omega), Int.toNat_natCast, B_take]
    congr 3
    unfold fitD
    rw [if_neg h, take_min]
theorem fitD_ne (d : List F) (r : Int) : fitD d r ≠ [] := by
  have := fitR_hi r
  unfold fitD
  intro h
  rw [List.take_eq_nil_iff] at h
  rcases h with h | h
  · omega
  · by_cases e : d = []
    · rw [if_pos e] at h; simp at h
    · rw [if_neg e] at h; exact e h
theorem fitD_len (d : List F) (r : Int) : (fitD d r).length + (fitR r).toNat ≤ 255 := by
  have := fitR_hi r
  unfold fitD
  rw [List.length_take]
  omega
theorem over_l0 (u v : List F) (hu : u.length ≤ 4294967296) (e : Nat) : ∀ (i : Nat), i + e = min u.length v.length → Ev (fun k => foghornlaw19_over.l0 k (B u) (B v) (L (lay (u.take i) (v.take i))) (i : Int)) (B (lay u v)) := by
  induction e with
  | zero =>
    intro i hi
    have hl : lay (u.take i) (v.take i) = lay u v := by
      show List.zipWith _ _ _ = List.zipWith _ _ _
      rw [← List.take_zipWith, List.take_of_length_le (by rw [List.length_zipWith]; omega)]
    rw [hl]
    by_cases h : (i : Int) < u.length
    · refine Ev.stepTo _ (fun k _ => by rw [foghornlaw19_over.l0, toNat_len, toNat_len, if_pos h, if_neg (by omega), strOf]) (Ev.now _)
    · refine Ev.stepTo _ (fun k _ => by rw [foghornlaw19_over.l0, toNat_len, if_neg h, strOf]) (Ev.now _)
  | succ e ih =>
    intro i hi
    have hl : lay (u.take (i + 1)) (v.take (i + 1)) = lay (u.take i) (v.take i) ++ [at_ u i + at_ v i] := by
      rw [take_succ_at u i (by omega), take_succ_at v i (by omega), lay_append _ _ _ _ (by rw [List.length_take, List.length_take]; omega)]
      rfl
    have hn : (lay (u.take i) (v.take i)).length = i := by rw [lay_length (by rw [List.length_take, List.length_take]; omega), List.length_take]; omega
    refine Ev.stepTo _ (fun k _ => by rw [foghornlaw19_over.l0, toNat_len, toNat_len, if_pos (by omega), if_pos (by omega), if_pos (by omega), if_pos (by rw [L_length, hn]; omega), bt_B, bt_B, bx, Int.toNat_natCast, show [I (at_ u i + at_ v i)] = L [at_ u i + at_ v i] from rfl, ← L_append, ← hl, wrap_id _ (by omega) (by omega), show ((i : Int) + 1) = ((i + 1 : Nat) : Int) from by omega]) ?_
    exact ih (i + 1) (by omega)
theorem over_ev' (u v : List F) (hu : u.length ≤ 4294967296) : Ev (fun k => foghornlaw19_over.f k (B u) (B v)) (B (lay u v)) := by
  refine Ev.congr (fun k => by rw [foghornlaw19_over.f]) ?_
  exact over_l0 u v hu _ 0 (Nat.zero_add _)
end Go.Proofs.Ytncoakokdajibaa.Sem
