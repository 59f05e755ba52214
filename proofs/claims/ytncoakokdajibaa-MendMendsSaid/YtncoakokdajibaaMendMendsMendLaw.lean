import Derived.Test.YtncoakokdajibaaMendMendsMendEv
import Derived.Test.YtncoakokdajibaaMendMendsRefReed
import Derived.Test.YtncoakokdajibaaMendMendsF1
/- What layer 20's statements ask first, and what they make of any data. -/
namespace Go.Proofs.Ytncoakokdajibaa.Sem
open Go.RowKit Go.Proofs.Ytncoakokdajibaa.Q Go.Proofs.YtncoakokdajibaaW.PrintWords Go.Proofs.YtncoakokdajibaaW.PrintLast Go.Proofs.YtncoakokdajibaaW.PrintMore Go.Proofs.Ytncoakokdajibaa.Gf

theorem awake_ev : Ev (fun k => foghornlaw20_awake.f k) true := ev_mono foghornlaw20_awake.mono (K := 200) (by decide +kernel)
theorem modm (m : Int) (h0 : 0 < m) (h1 : m ≤ 1000) (n : Int) : Int.tmod (wrap64 ((Int.tmod n m) + m)) m = n % m := by
  have h2 : -m < Int.tmod n m ∧ Int.tmod n m < m := ⟨by have := Int.lt_tmod_of_pos n h0; omega, Int.tmod_lt_of_pos n h0⟩
  have hw : wrap64 ((Int.tmod n m) + m) = Int.tmod n m + m := by unfold wrap64; omega
  rw [hw, Int.tmod_eq_emod_of_nonneg (by omega), Int.add_emod_right]
  have h3 := Int.tmod_add_mul_tdiv n m
  conv => rhs; rw [← h3]
  rw [Int.add_mul_emod_self_left]
theorem u8_at {x : Int} (h : (Lit.int .u8 x).wf = true) : ∃ a : F, x = I a := by
  simp only [Lit.wf, IntKind.min, IntKind.max, IntKind.signed, IntKind.bits, Bool.and_eq_true] at h
  exact of_u8 x (by simpa using h.1) (by have := h.2; simp at this; omega)
theorem sent_ev (d : List F) (hd : d.length ≤ 140737488351232) (n : Int) : ∃ (s : List F) (r : Int), Fits s.length r ∧ Code r.toNat s ∧ Ev (fun k => foghornlaw20_sent.f k (B d) n) (B s, r) := by
  obtain ⟨m, hm, hm0, hm1⟩ : ∃ m, n % 32 = m ∧ 0 ≤ m ∧ m < 32 := ⟨_, rfl, by omega, by omega⟩
  have hw0 := modm 32 (by decide) (by decide) n
  rw [hm] at hw0
  have hw1 : wrap64 (2 * m) = 2 * m := wrap_id _ (by omega) (by omega)
  obtain ⟨r, hr⟩ : ∃ r, r = 2 + 2 * m := ⟨_, rfl⟩
  have hw2 : wrap64 r = r := wrap_id _ (by omega) (by omega)
  have hw3 : wrap64 (255 - r) = 255 - r := wrap_id _ (by omega) (by omega)
  have hchk : isChecks r = true := by
    unfold isChecks
    refine decide_eq_true ⟨by omega, by omega, ?_⟩
    rw [Int.tmod_eq_emod_of_nonneg (by omega)]
    omega
  have go : ∀ D : List F, D ≠ [] → (D.length : Int) + r ≤ 255 → Ev (fun k => foghornlaw20_sent.f k (B d) n) (B (D ++ chk r.toNat D), r) → ∃ (s : List F) (r : Int), Fits s.length r ∧ Code r.toNat s ∧ Ev (fun k => foghornlaw20_sent.f k (B d) n) (B s, r) := fun D h1 h2 h3 => by
    have hp := List.length_pos_iff.2 h1
    have hc := chk_length r.toNat (by omega) D
    exact ⟨_, r, ⟨hchk, by rw [List.length_append, hc]; omega, by rw [List.length_append, hc]; omega⟩, chk_code r.toNat (by omega) D, h3⟩
  have enc : ∀ D : List F, D ≠ [] → (D.length : Int) + r ≤ 255 → Ev (fun k => (foghornref19_Encode.f k (B D) r).bind fun bt => some (bt.1, r)) (B (D ++ chk r.toNat D), r) := fun D h1 h2 => by
    have hp := List.length_pos_iff.2 h1
    exact Ev.bind (rencode_ev D r ⟨hchk, by omega, h2⟩ h1) (Ev.now _)
  by_cases c1 : (d.length : Int) > 255 - r
  · have hD : d.take (255 - r).toNat ≠ [] := fun h => by
      have := congrArg List.length h
      rw [List.length_take, List.length_nil] at this
      omega
    have hDl : ((d.take (255 - r).toNat).length : Int) + r ≤ 255 := by rw [List.length_take]; omega
    refine go _ hD hDl (Ev.congr (fun k => ?_) (enc _ hD hDl))
    rw [foghornlaw20_sent.f]
    simp only [hw0, hw1, ← hr, hw2, hw3]
    rw [B_size, if_pos c1, if_pos (by omega), if_pos (by omega), B_take, if_neg (fun h => hD (B_empty.1 h))]
  · by_cases c2 : d = []
    · have h1 : ([⟨97, by decide⟩] : List F) ≠ [] := by simp
      refine go _ h1 (by rw [List.length_singleton]; omega) (Ev.congr (fun k => ?_) (enc _ h1 (by rw [List.length_singleton]; omega)))
      rw [foghornlaw20_sent.f]
      simp only [hw0, hw1, ← hr, hw2, hw3]
      rw [B_size, if_neg c1, if_pos (B_empty.2 c2)]
      rfl
    · refine go d c2 (by omega) (Ev.congr (fun k => ?_) (enc d c2 (by omega)))
      rw [foghornlaw20_sent.f]
      simp only [hw0, hw1, ← hr, hw2, hw3]
      rw [B_size, if_neg c1, if_neg (fun h => c2 (B_empty.1 h))]
theorem numbers_l0 (l : List Int) (hl : l.length ≤ 1000) (d : Nat) : ∀ i, i + d = l.length → Ev (fun k => foghornref20_Numbers.l0 k l l (i : Int)) true := by
  induction d with
  | zero =>
    intro i hi
    exact Ev.stepTo _ (fun k _ => by rw [foghornref20_Numbers.l0, if_neg (by omega)]) (Ev.now _)
  | succ d ih =>
    intro i hi
    exact Ev.stepTo _ (fun k _ => by rw [foghornref20_Numbers.l0, if_pos (by omega), if_pos (by omega), if_pos (by omega), if_pos rfl, wrap_id _ (by omega) (by omega), show ((i : Int) + 1) = ((i + 1 : Nat) : Int) from by omega]) (ih (i + 1) (by omega))
theorem numbers_ev (l : List Int) (hl : l.length ≤ 1000) : Ev (fun k => foghornref20_Numbers.f k l l) true :=
  Ev.congr (fun k => by rw [foghornref20_Numbers.f, if_pos rfl]; rfl) (numbers_l0 l hl l.length 0 (Nat.zero_add _))
end Go.Proofs.Ytncoakokdajibaa.Sem
