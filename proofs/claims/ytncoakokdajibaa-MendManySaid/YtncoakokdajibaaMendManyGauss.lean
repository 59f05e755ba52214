import Derived.Test.YtncoakokdajibaaMendManyRTimes
import Derived.Test.YtncoakokdajibaaMendManyMendRun
import Derived.Test.YtncoakokdajibaaMendManyF1
/- The document's solving of linear equations over the field: what comes out is the one solution, or there is none of its own. -/
namespace Go.Proofs.Ytncoakokdajibaa.Sem
open Go.RowKit Go.Proofs.Ytncoakokdajibaa.Q Go.Proofs.YtncoakokdajibaaW.PrintWords Go.Proofs.YtncoakokdajibaaW.PrintLast Go.Proofs.YtncoakokdajibaaW.PrintMore Go.Proofs.Ytncoakokdajibaa.Gf
theorem Ev.stepTo2 {α : Type} {g : Nat → Option α} {r : α} (f : Nat → Option α) (h : ∀ k, 100 ≤ k → g (k + 1) = f k) (k : Ev f r) : Ev g r := by
  obtain ⟨K, k⟩ := k
  refine ⟨K + 101, fun n hn => ?_⟩
  obtain ⟨m, rfl⟩ : ∃ m, n = m + 1 := ⟨n - 1, by omega⟩
  rw [h m (by omega)]
  exact k m (by omega)
theorem Ev.after2 {α : Type} {g : Nat → Option α} {r : α} (h : ∀ k, 100 ≤ k → g k = some r) : Ev g r := ⟨100, h⟩
theorem rtimes_ev (a b : F) : Ev (fun k => foghornref18_Times.f k (I a) (I b)) (I (a * b)) := Ev.after2 (fun k hk => r18times k (by omega) a b)
theorem qover_l0 (a b : F) (hb : b ≠ 0) (d : Nat) : ∀ (x : Nat), x + d = (a * inv b).val → Ev (fun k => foghornref18_Over.l0 k (I a) (I b) (x : Int)) (I (a * inv b), 0) := by
  induction d with
  | zero =>
    intro x hx
    have hlt := (a * inv b).lt
    have e : ((x : Int)) % 256 = I (a * inv b) := by unfold I; omega
    refine Ev.stepTo2 _ (fun k hk => by rw [foghornref18_Over.l0, if_pos (by omega), e, r18times k (by omega), Option.bind_some, if_pos (by rw [mul_assoc, inv_mul b hb, mul_one])]) (Ev.now _)
  | succ d ih =>
    intro x hx
    have hlt := (a * inv b).lt
    have e : ((x : Int)) % 256 = I ⟨x, by omega⟩ := by unfold I; simp only; omega
    refine Ev.stepTo2 _ (fun k hk => by
      rw [foghornref18_Over.l0, if_pos (by omega), e, r18times k (by omega), Option.bind_some, if_neg (fun h => ?_), wrap_id' _ (by omega) (by omega), show ((x : Int) + 1) = ((x + 1 : Nat) : Int) from by omega]
      have h1 := congrArg (· * inv b) (I_inj h)
      simp only [mul_assoc, mul_inv b hb, mul_one] at h1
      have h2 := congrArg F.val h1
      simp only at h2
      omega) (ih (x + 1) (by omega))
theorem qover_ev (a b : F) (hb : b ≠ 0) : Ev (fun k => foghornref18_Over.f k (I a) (I b)) (I (a * inv b), 0) :=
  Ev.congr (fun k => by rw [foghornref18_Over.f, if_neg (fun e => hb (I_eq_zero.1 e))] <;> rfl) (qover_l0 a b hb (a * inv b).val 0 (by omega))
theorem qpow_l0 (a : F) (m : Nat) (hm : m < 255) (d : Nat) : ∀ (i : Nat), i + d = m → Ev (fun k => foghornref18_Power.l0 k (I a) (m : Int) (I (pow a i)) (i : Int)) (I (pow a m), 0) := by
  induction d with
  | zero =>
    intro i hi
    obtain rfl : i = m := by omega
    exact Ev.stepTo2 _ (fun k hk => by rw [foghornref18_Power.l0, if_neg (by omega)]) (Ev.now _)
  | succ d ih =>
    intro i hi
    exact Ev.stepTo2 _ (fun k hk => by rw [foghornref18_Power.l0, if_pos (by omega), r18times k (by omega), Option.bind_some, wrap_id' _ (by omega) (by omega), show ((i : Int) + 1) = ((i + 1 : Nat) : Int) from by omega] <;> rfl) (ih (i + 1) (by omega))
theorem qpow_ev (a : F) (n : Nat) (hn : n < 255) (ha : a ≠ 0) : Ev (fun k => foghornref18_Power.f k (I a) (n : Int)) (I (pow a n), 0) := by
  have h0 : ¬ I a = 0 := fun e => ha (I_eq_zero.1 e)
  have e : Int.tmod (n : Int) 255 = (n : Int) := by rw [Int.tmod_eq_emod_of_nonneg (by omega)]; omega
  refine Ev.congr (fun k => by rw [foghornref18_Power.f, if_neg h0, e, if_neg (by omega)]) ?_
  exact Ev.stepTo2 _ (fun k hk => by rw [foghornref18_Power.j0] <;> rfl) (qpow_l0 a n hn n 0 (by omega))
theorem rinverse_ev (a : F) (ha : a ≠ 0) : Ev (fun k => foghornref20_inverse.f k (I a)) (I (inv a)) := by
  refine Ev.congr (fun k => by rw [foghornref20_inverse.f, show (1 : Int) = I 1 from rfl]) ?_
  refine Ev.bind (qover_ev 1 a ha) ?_
  exact Ev.congr (fun k => by rw [one_mul]) (Ev.now _)
theorem rx_ev (i n : Nat) (hi : i < n) (hn : n ≤ 255) : Ev (fun k => foghornref20_x.f k (i : Int) (n : Int)) (I (plc n i)) := by
  refine Ev.congr (fun k => by rw [foghornref20_x.f, wrap_id' ((n : Int) - 1) (by omega) (by omega), wrap_id' ((n : Int) - 1 - (i : Int)) (by omega) (by omega), show ((n : Int) - 1 - (i : Int)) = ((n - 1 - i : Nat) : Int) by omega, foghornref18_Exp.f, show (2 : Int) = I two from rfl]) ?_
  refine Ev.bind (Ev.bind (qpow_ev two (n - 1 - i) (by omega) two_ne_zero) (Ev.now _)) (Ev.now _)
def Qs (n : Nat) (A : Nat → Nat → F) (y z : Nat → F) : Prop := ∀ i, i < n → sm (fun j => A i j * z j) n = y i
theorem Qs_swap {n p c : Nat} (hp : p < n) (hc : c < n) (A : Nat → Nat → F) (y z : Nat → F) : Qs n (sv_swap A p c) (sv_swap y p c) z ↔ Qs n A y z := by
  have h1 : ∀ i, ∃ j, (i < n → j < n) ∧ sv_swap A p c i = A j ∧ sv_swap y p c i = y j := fun i => by
    unfold sv_swap
    by_cases e : i = c
    · exact ⟨p, fun _ => hp, by rw [if_pos e], by rw [if_pos e]⟩
    · by_cases e2 : i = p
      · exact ⟨c, fun _ => hc, by rw [if_neg e, if_pos e2], by rw [if_neg e, if_pos e2]⟩
      · exact ⟨i, id, by rw [if_neg e, if_neg e2], by rw [if_neg e, if_neg e2]⟩
  have h2 : ∀ j, ∃ i, (j < n → i < n) ∧ sv_swap A p c i = A j ∧ sv_swap y p c i = y j := fun j => by
    unfold sv_swap
    by_cases e : j = p
    · exact ⟨c, fun _ => hc, by rw [if_pos rfl, e], by rw [if_pos rfl, e]⟩
    · by_cases e2 : j = c
      · by_cases e3 : p = c
        · exact absurd (e2.trans e3.symm) e
        · exact ⟨p, fun _ => hp, by rw [if_neg e3, if_pos rfl, e2], by rw [if_neg e3, if_pos rfl, e2]⟩
      · exact ⟨j, id, by rw [if_neg e2, if_neg e], by rw [if_neg e2, if_neg e]⟩
  constructor
  · intro h j hj
    obtain ⟨i, hi, e1, e2⟩ := h2 j
    have := h i (hi hj)
    rwa [e1, e2] at this
  · intro h i hi
    obtain ⟨j, hj, e1, e2⟩ := h1 i
    rw [e1, e2]
    exact h j (hj hi)
theorem sm_mulr (c : F) (f : Nat → F) (m : Nat) : sm (fun k => f k * c) m = sm f m * c := by
  rw [mul_comm, ← sm_mul]
  exact sm_congr m (fun k _ => mul_comm _ _)
theorem Qs_scale {n c : Nat} (_hc : c < n) {b : F} (hb : b ≠ 0) {A A' : Nat → Nat → F} {y y' : Nat → F} (hA : ∀ i, i < n → ∀ j, j < n → A' i j = if i = c then A i j * b else A i j) (hy : ∀ i, i < n → y' i = if i = c then y i * b else y i) (z : Nat → F) : Qs n A' y' z ↔ Qs n A y z := by
  have key : ∀ i, i < n → sm (fun j => A' i j * z j) n = if i = c then sm (fun j => A i j * z j) n * b else sm (fun j => A i j * z j) n := fun i hi => by
    by_cases e : i = c
    · rw [if_pos e, ← sm_mulr]
      exact sm_congr n (fun j hj => by rw [hA i hi j hj, if_pos e, mul_assoc, mul_assoc, mul_comm b])
    · rw [if_neg e]
      exact sm_congr n (fun j hj => by rw [hA i hi j hj, if_neg e])
  constructor
  · intro h i hi
    have h1 := h i hi
    rw [key i hi, hy i hi] at h1
    by_cases e : i = c
    · rw [if_pos e, if_pos e] at h1
      exact mul_right_cancel hb h1
    · rwa [if_neg e, if_neg e] at h1
  · intro h i hi
    rw [key i hi, hy i hi]
    by_cases e : i = c
    · rw [if_pos e, if_pos e, h i hi]
    · rw [if_neg e, if_neg e, h i hi]
theorem Qs_elim {n c : Nat} (hc : c < n) {A A' : Nat → Nat → F} {y y' : Nat → F} (hA : ∀ i, i < n → ∀ j, j < n → A' i j = if i = c then A i j else A i j + A i c * A c j) (hy : ∀ i, i < n → y' i = if i = c then y i else y i + A i c * y c) (z : Nat → F) : Qs n A' y' z ↔ Qs n A y z := by
  have key : ∀ i, i < n → sm (fun j => A' i j * z j) n = if i = c then sm (fun j => A i j * z j) n else sm (fun j => A i j * z j) n + A i c * sm (fun j => A c j * z j) n := fun i hi => by
    by_cases e : i = c
    · rw [if_pos e]
      exact sm_congr n (fun j hj => by rw [hA i hi j hj, if_pos e])
    · rw [if_neg e, ← sm_mul, ← sm_add]
      exact sm_congr n (fun j hj => by rw [hA i hi j hj, if_neg e, add_mul, mul_assoc])
  have hcc : ∀ h : Qs n A' y' z, sm (fun j => A c j * z j) n = y c := fun h => by
    have h1 := h c hc
    rwa [key c hc, if_pos rfl, hy c hc, if_pos rfl] at h1
  constructor
  · intro h i hi
    by_cases e : i = c
    · rw [e]; exact hcc h
    · have h1 := h i hi
      rw [key i hi, if_neg e, hy i hi, if_neg e, hcc h, add_comm, add_comm (y i)] at h1
      have h2 := congrArg (fun x => A i c * y c + x) h1
      simp only [add_cancel] at h2
      exact h2
  · intro h i hi
    rw [key i hi, hy i hi]
    by_cases e : i = c
    · rw [if_pos e, if_pos e, h i hi]
    · rw [if_neg e, if_neg e, h i hi, h c hc]
theorem scale_ev (b : F) : ∀ (d j : Nat) (row : List F), j + d ≤ row.length → ∃ row', Ev (fun k => sv_scale k (I b) d j (L row)) (L row') ∧ row'.length = row.length ∧ ∀ m, at_ row' m = if j ≤ m ∧ m < j + d then at_ row m * b else at_ row m
  | 0, j, row, _ => ⟨row, Ev.congr (fun k => by rw [sv_scale]) (Ev.now _), rfl, fun m => by rw [if_neg (by omega)]⟩
  | d + 1, j, row, h => by
    obtain ⟨r', h1, h2, h3⟩ := scale_ev b d (j + 1) (row.set j (at_ row j * b)) (by rw [List.length_set]; omega)
    refine ⟨r', ?_, by rw [h2, List.length_set], fun m => ?_⟩
    · refine Ev.congr (fun k => by rw [sv_scale, rd_L, Int.toNat_natCast]) ?_
      refine Ev.bind (rtimes_ev _ _) ?_
      exact Ev.congr (fun k => by rw [L_set]) h1
    · rw [h3 m, at_set _ _ _ _ (by omega)]
      by_cases e : m = j
      · rw [if_neg (by omega), if_pos e, if_pos (by omega), e]
      · rw [if_neg e]
        by_cases e2 : j ≤ m ∧ m < j + (d + 1)
        · rw [if_pos (by omega), if_pos e2]
        · rw [if_neg (by omega), if_neg e2]
theorem add_ev (f : F) (rc : List F) : ∀ (d j : Nat) (row : List F), j + d ≤ row.length → ∃ row', Ev (fun k => sv_add k (I f) (L rc) d j (L row)) (L row') ∧ row'.length = row.length ∧ ∀ m, at_ row' m = if j ≤ m ∧ m < j + d then at_ row m + f * at_ rc m else at_ row m
  | 0, j, row, _ => ⟨row, Ev.congr (fun k => by rw [sv_add]) (Ev.now _), rfl, fun m => by rw [if_neg (by omega)]⟩
  | d + 1, j, row, h => by
    obtain ⟨r', h1, h2, h3⟩ := add_ev f rc d (j + 1) (row.set j (at_ row j + f * at_ rc j)) (by rw [List.length_set]; omega)
    refine ⟨r', ?_, by rw [h2, List.length_set], fun m => ?_⟩
    · refine Ev.congr (fun k => by rw [sv_add, rd_L, rd_L, Int.toNat_natCast]) ?_
      refine Ev.bind (rtimes_ev _ _) ?_
      exact Ev.congr (fun k => by rw [bx, L_set]) h1
    · rw [h3 m, at_set _ _ _ _ (by omega)]
      by_cases e : m = j
      · rw [if_neg (by omega), if_pos e, if_pos (by omega), e]
      · rw [if_neg e]
        by_cases e2 : j ≤ m ∧ m < j + (d + 1)
        · rw [if_pos (by omega), if_pos e2]
        · rw [if_neg (by omega), if_neg e2]
theorem find_is (n : Nat) (R : Nat → List F) (c : Nat) : ∀ d p, p + d = n → p ≤ sv_find n (fun i => L (R i)) c d p ∧ sv_find n (fun i => L (R i)) c d p ≤ n ∧ (∀ q, p ≤ q → q < sv_find n (fun i => L (R i)) c d p → at_ (R q) c = 0) ∧ (sv_find n (fun i => L (R i)) c d p < n → at_ (R (sv_find n (fun i => L (R i)) c d p)) c ≠ 0)
  | 0, p, h => by rw [sv_find]; exact ⟨Nat.le_refl _, by omega, fun q h1 h2 => absurd h2 (by omega), fun h1 => absurd h1 (by omega)⟩
  | d + 1, p, h => by
    rw [sv_find]
    by_cases hz : at_ (R p) c = 0
    · have hz' : rd (L (R p)) (c : Int) = 0 := by rw [rd_L, Int.toNat_natCast, hz]; rfl
      rw [if_pos hz']
      obtain ⟨h1, h2, h3, h4⟩ := find_is n R c d (p + 1) (by omega)
      refine ⟨by omega, h2, fun q h5 h6 => ?_, h4⟩
      by_cases e : q = p
      · rw [e]; exact hz
      · exact h3 q (by omega) h6
    · have hz' : ¬ rd (L (R p)) (c : Int) = 0 := by rw [rd_L, Int.toNat_natCast]; exact fun h => hz (I_eq_zero.1 h)
      rw [if_neg hz']
      exact ⟨Nat.le_refl _, by omega, fun q h5 h6 => absurd h6 (by omega), fun _ => hz⟩
theorem upd_L (R : Nat → List F) (i : Nat) (r : List F) : sv_upd (fun a => L (R a)) i (L r) = fun a => L (sv_upd R i r a) := by
  funext a
  unfold sv_upd
  by_cases e : a = i
  · rw [if_pos e, if_pos e]
  · rw [if_neg e, if_neg e]
theorem swap_L (R : Nat → List F) (p c : Nat) : sv_swap (fun a => L (R a)) p c = fun a => L (sv_swap R p c a) := by
  funext a
  unfold sv_swap
  by_cases e : a = c
  · rw [if_pos e, if_pos e]
  · rw [if_neg e, if_neg e]
    by_cases e2 : a = p
    · rw [if_pos e2, if_pos e2]
    · rw [if_neg e2, if_neg e2]
theorem elim_ev (n c : Nat) (hc : c < n) : ∀ (d i : Nat) (R : Nat → List F) (y : List F), i + d = n → (∀ a, a < n → (R a).length = n) → y.length = n →
    ∃ (R' : Nat → List F) (y' : List F), Ev (fun k => sv_elim k n c d i (fun a => L (R a)) (L y)) ((fun a => L (R' a)), L y') ∧ (∀ a, a < n → (R' a).length = n) ∧ y'.length = n ∧ (∀ a, a < n → ∀ m, m < n → at_ (R' a) m = if i ≤ a ∧ a ≠ c then at_ (R a) m + at_ (R a) c * at_ (R c) m else at_ (R a) m) ∧ (∀ a, a < n → at_ y' a = if i ≤ a ∧ a ≠ c then at_ y a + at_ (R a) c * at_ y c else at_ y a)
  | 0, i, R, y, h, hR, hy => ⟨R, y, Ev.congr (fun k => by rw [sv_elim]) (Ev.now _), hR, hy, fun a ha m _ => by rw [if_neg (by omega)], fun a ha => by rw [if_neg (by omega)]⟩
  | d + 1, i, R, y, h, hR, hy => by
    have hrd : ∀ k : Nat, rd (L (R i)) (c : Int) = I (at_ (R i) c) := fun _ => by rw [rd_L, Int.toNat_natCast]
    by_cases hs : i = c ∨ at_ (R i) c = 0
    · obtain ⟨R', y', h1, h2, h3, h4, h5⟩ := elim_ev n c hc d (i + 1) R y (by omega) hR hy
      refine ⟨R', y', ?_, h2, h3, fun a ha m hm => ?_, fun a ha => ?_⟩
      · refine Ev.congr (fun k => ?_) h1
        rw [sv_elim, if_pos (hs.imp id (fun e => by rw [hrd 0, e]; rfl))]
      · rw [h4 a ha m hm]
        by_cases e : a = i
        · subst e
          rw [if_neg (by omega)]
          rcases hs with hs | hs
          · rw [if_neg (fun hh => hh.2 hs)]
          · rw [hs, zero_mul, add_zero]
            split <;> rfl
        · by_cases e2 : i ≤ a ∧ a ≠ c
          · rw [if_pos e2, if_pos ⟨by omega, e2.2⟩]
          · rw [if_neg e2, if_neg (fun hh => e2 ⟨by omega, hh.2⟩)]
      · rw [h5 a ha]
        by_cases e : a = i
        · subst e
          rw [if_neg (by omega)]
          rcases hs with hs | hs
          · rw [if_neg (fun hh => hh.2 hs)]
          · rw [hs, zero_mul, add_zero]
            split <;> rfl
        · by_cases e2 : i ≤ a ∧ a ≠ c
          · rw [if_pos e2, if_pos ⟨by omega, e2.2⟩]
          · rw [if_neg e2, if_neg (fun hh => e2 ⟨by omega, hh.2⟩)]
    · have hic : i ≠ c := fun e => hs (Or.inl e)
      have hz : at_ (R i) c ≠ 0 := fun e => hs (Or.inr e)
      obtain ⟨r, hr1, hr2, hr3⟩ := add_ev (at_ (R i) c) (R c) n 0 (R i) (by rw [hR i (by omega)]; omega)
      have hci : sv_upd R i r c = R c := by unfold sv_upd; rw [if_neg (fun e => hic e.symm)]
      obtain ⟨R', y', h1, h2, h3, h4, h5⟩ := elim_ev n c hc d (i + 1) (sv_upd R i r) (y.set i (at_ y i + at_ (R i) c * at_ y c)) (by omega) (fun a ha => by
        unfold sv_upd
        by_cases e : a = i
        · rw [if_pos e, hr2, hR i (by omega)]
        · rw [if_neg e, hR a ha]) (by rw [List.length_set]; exact hy)
      refine ⟨R', y', ?_, h2, h3, fun a ha m hm => ?_, fun a ha => ?_⟩
      · refine Ev.congr (fun k => by rw [sv_elim, if_neg (fun hh => hh.elim hic (fun e => hz (I_eq_zero.1 (by rw [hrd 0] at e; exact e)))), hrd 0]) ?_
        refine Ev.bind hr1 ?_
        refine Ev.congr (fun k => by rw [rd_L y (c : Int), Int.toNat_natCast]) ?_
        refine Ev.bind (rtimes_ev _ _) ?_
        refine Ev.congr (fun k => ?_) h1
        rw [rd_L, Int.toNat_natCast, bx, L_set, upd_L]
      · rw [h4 a ha m hm, hci]
        by_cases e : a = i
        · subst e
          rw [if_neg (by omega), if_pos ⟨Nat.le_refl _, hic⟩]
          unfold sv_upd
          rw [if_pos rfl, hr3 m, if_pos (by omega)]
        · have ha' : sv_upd R i r a = R a := by unfold sv_upd; rw [if_neg e]
          rw [ha']
          by_cases e2 : i ≤ a ∧ a ≠ c
          · rw [if_pos e2, if_pos ⟨by omega, e2.2⟩]
          · rw [if_neg e2, if_neg (fun hh => e2 ⟨by omega, hh.2⟩)]
      · have hyc : at_ (y.set i (at_ y i + at_ (R i) c * at_ y c)) c = at_ y c := by rw [at_set _ _ _ _ (by omega), if_neg (fun e => hic e.symm)]
        have hya : at_ (y.set i (at_ y i + at_ (R i) c * at_ y c)) a = if a = i then at_ y i + at_ (R i) c * at_ y c else at_ y a := at_set _ _ _ _ (by omega)
        rw [h5 a ha, hyc, hya]
        by_cases e : a = i
        · subst e
          rw [if_neg (by omega), if_pos rfl, if_pos ⟨Nat.le_refl _, hic⟩]
        · have ha' : sv_upd R i r a = R a := by unfold sv_upd; rw [if_neg e]
          rw [if_neg e, ha']
          by_cases e2 : i ≤ a ∧ a ≠ c
          · rw [if_pos e2, if_pos ⟨by omega, e2.2⟩]
          · rw [if_neg e2, if_neg (fun hh => e2 ⟨by omega, hh.2⟩)]
def Told (n : Nat) (A : Nat → Nat → F) (y : Nat → F) : Option (List F) → Prop
  | none => ∃ z : Nat → F, (∃ j, j < n ∧ z j ≠ 0) ∧ Qs n A (fun _ => 0) z
  | some x => x.length = n ∧ ∀ z, Qs n A y z ↔ ∀ i, i < n → z i = at_ x i
def mat (R : Nat → List F) : Nat → Nat → F := fun i j => at_ (R i) j
theorem yswap_at (y : List F) (p c : Nat) (hp : p < y.length) (hc : c < y.length) : ∃ y' : List F, sv_yswap (L y) p c = L y' ∧ y'.length = y.length ∧ ∀ a, at_ y' a = sv_swap (at_ y) p c a := by
  refine ⟨(y.set p (at_ y c)).set c (at_ y p), ?_, by rw [List.length_set, List.length_set], fun a => ?_⟩
  · unfold sv_yswap
    rw [rd_L, rd_L, Int.toNat_natCast, Int.toNat_natCast, L_set, L_set]
  · rw [at_set _ _ _ _ (by rw [List.length_set]; exact hc), at_set _ _ _ _ hp]
    unfold sv_swap
    by_cases e : a = c
    · rw [if_pos e]
    · rw [if_neg e]
theorem sm_two (f : Nat → F) (n a b : Nat) (ha : a < n) (hb : b < n) (hab : a ≠ b) (h : ∀ k, k < n → k ≠ a → k ≠ b → f k = 0) : sm f n = f a + f b := by
  rw [sm_congr (g := fun k => (if k = a then f a else 0) + (if k = b then f b else 0)) n (fun k hk => ?_), sm_add, sm_one _ a n ha (fun k _ e => if_neg e), sm_one _ b n hb (fun k _ e => if_neg e), if_pos rfl, if_pos rfl]
  by_cases e1 : k = a
  · rw [if_pos e1, if_neg (fun e2 => hab (e1.symm.trans e2)), add_zero, e1]
  · by_cases e2 : k = b
    · rw [if_neg e1, if_pos e2, zero_add, e2]
    · rw [if_neg e1, if_neg e2, zero_add, h k hk e1 e2]
theorem sv_main_ev (n : Nat) : ∀ (d c : Nat) (R : Nat → List F) (y : List F), c + d = n → (∀ a, a < n → (R a).length = n) → y.length = n → (∀ a, a < n → ∀ j, j < c → at_ (R a) j = if a = j then 1 else 0) →
    ∃ o : Option (List F), Ev (fun k => sv_main k n d c (fun a => L (R a)) (L y)) (o.map L) ∧ Told n (mat R) (at_ y) o
  | 0, c, R, y, hc, hR, hy, hu => ⟨some y, Ev.congr (fun k => by rw [sv_main]; rfl) (Ev.now _), hy, fun z => by
      obtain rfl : c = n := by omega
      have key : ∀ i, i < c → sm (fun j => mat R i j * z j) c = z i := fun i hi => by
        rw [sm_one _ i c hi (fun j hj e => by show at_ (R i) j * z j = 0; rw [hu i hi j hj, if_neg (fun h => e h.symm), zero_mul])]
        show at_ (R i) i * z i = z i
        rw [hu i hi i hi, if_pos rfl, one_mul]
      constructor
      · intro h i hi
        rw [← key i hi, h i hi]
      · intro h i hi
        rw [key i hi, h i hi]⟩
  | d + 1, c, R, y, hc, hR, hy, hu => by
    obtain ⟨hp1, hp2, hp3, hp4⟩ := find_is n R c (n - c) c (by omega)
    by_cases hn : sv_find n (fun i => L (R i)) c (n - c) c = n
    · refine ⟨none, Ev.congr (fun k => by rw [sv_main, if_pos hn]; rfl) (Ev.now _), fun j => if j < c then at_ (R j) c else if j = c then 1 else 0, ⟨c, by omega, ?_⟩, fun i hi => ?_⟩
      · show (if c < c then at_ (R c) c else if c = c then (1 : F) else 0) ≠ 0
        rw [if_neg (Nat.lt_irrefl c), if_pos rfl]
        exact one_ne_zero
      · have hcn : c < n := by omega
        by_cases hic : i < c
        · rw [sm_two _ n i c hi hcn (by omega) (fun k hk e1 e2 => ?_)]
          · show at_ (R i) i * (if i < c then at_ (R i) c else if i = c then 1 else 0) + at_ (R i) c * (if c < c then at_ (R c) c else if c = c then 1 else 0) = 0
            rw [hu i hi i hic, if_pos rfl, if_pos hic, if_neg (Nat.lt_irrefl c), if_pos rfl, one_mul, mul_one, add_self]
          · show at_ (R i) k * (if k < c then at_ (R k) c else if k = c then 1 else 0) = 0
            by_cases hk2 : k < c
            · rw [hu i hi k hk2, if_neg (fun h => e1 h.symm), zero_mul]
            · rw [if_neg hk2, if_neg e2, mul_zero]
        · rw [sm_one _ c n hcn (fun k hk e => ?_)]
          · show at_ (R i) c * _ = 0
            rw [hp3 i (by omega) (by omega), zero_mul]
          · show at_ (R i) k * (if k < c then at_ (R k) c else if k = c then 1 else 0) = 0
            by_cases hk2 : k < c
            · rw [hu i hi k hk2, if_neg (by omega), zero_mul]
            · rw [if_neg hk2, if_neg e, mul_zero]
    · have hpn : sv_find n (fun i => L (R i)) c (n - c) c < n := by omega
      have hpz := hp4 hpn
      generalize hpe : sv_find n (fun i => L (R i)) c (n - c) c = p at *
      have hcn : c < n := by omega
      have hz : (∀ j, j < c → at_ (R p) j = 0) := fun j hj => by rw [hu p hpn j hj, if_neg (by omega)]
      have hz2 : (∀ j, j < c → at_ (R c) j = 0) := fun j hj => by rw [hu c hcn j hj, if_neg (by omega)]
      obtain ⟨rc, s1, s2, s3⟩ := scale_ev (inv (at_ (R p) c)) n 0 (R p) (by rw [hR p hpn]; omega)
      obtain ⟨y1, t1, t2, t3⟩ := yswap_at y p c (by omega) (by omega)
      have hR2 : ∀ a, a < n → (sv_upd (sv_swap R p c) c rc a).length = n := fun a ha => by
        unfold sv_upd sv_swap
        by_cases e : a = c
        · rw [if_pos e, s2, hR p hpn]
        · rw [if_neg e, if_neg e]
          by_cases e2 : a = p
          · rw [if_pos e2, hR c hcn]
          · rw [if_neg e2, hR a ha]
      have hy2 : (y1.set c (at_ y p * inv (at_ (R p) c))).length = n := by rw [List.length_set, t2, hy]
      have hA1 : ∀ i, i < n → ∀ j, j < n → mat (sv_upd (sv_swap R p c) c rc) i j = if i = c then sv_swap (mat R) p c i j * inv (at_ (R p) c) else sv_swap (mat R) p c i j := fun i hi j hj => by
        unfold mat sv_upd sv_swap
        by_cases e : i = c
        · simp only [if_pos e]
          rw [s3 j, if_pos (by omega)]
        · simp only [if_neg e]
          by_cases e2 : i = p
          · simp only [if_pos e2]
          · simp only [if_neg e2]
      have hY1 : ∀ i, i < n → at_ (y1.set c (at_ y p * inv (at_ (R p) c))) i = if i = c then sv_swap (at_ y) p c i * inv (at_ (R p) c) else sv_swap (at_ y) p c i := fun i hi => by
        rw [at_set _ _ _ _ (by omega)]
        by_cases e : i = c
        · rw [if_pos e, if_pos e]
          unfold sv_swap
          rw [if_pos e]
        · rw [if_neg e, if_neg e, t3]
      obtain ⟨R3, y3, e1, e2, e3, e4, e5⟩ := elim_ev n c hcn n 0 (sv_upd (sv_swap R p c) c rc) (y1.set c (at_ y p * inv (at_ (R p) c))) (by omega) hR2 hy2
      have hcc : at_ (sv_upd (sv_swap R p c) c rc c) c = 1 := by
        unfold sv_upd
        rw [if_pos rfl, s3 c, if_pos (by omega), mul_inv _ hpz]
      have hcj : ∀ j, j < c → at_ (sv_upd (sv_swap R p c) c rc c) j = 0 := fun j hj => by
        unfold sv_upd
        rw [if_pos rfl, s3 j, if_pos (by omega), hz j hj, zero_mul]
      obtain ⟨o, o1, o2⟩ := sv_main_ev n d (c + 1) R3 y3 (by omega) e2 e3 (fun a ha j hj => by
        rw [e4 a ha j (by omega)]
        by_cases hjc : j = c
        · rw [hjc, hcc, mul_one]
          by_cases hac : a = c
          · rw [if_neg (fun h => h.2 hac), hac, hcc, if_pos rfl]
          · rw [if_pos ⟨Nat.zero_le _, hac⟩, add_self, if_neg hac]
        · have hj' : j < c := by omega
          rw [hcj j hj', mul_zero, add_zero, ite_self]
          by_cases hac : a = c
          · rw [hac, hcj j hj', if_neg (by omega)]
          · unfold sv_upd sv_swap
            rw [if_neg hac, if_neg hac]
            by_cases hap : a = p
            · rw [if_pos hap, hz2 j hj', if_neg (by omega)]
            · rw [if_neg hap, hu a ha j hj'])
      have hA3 : ∀ i, i < n → ∀ j, j < n → mat R3 i j = if i = c then mat (sv_upd (sv_swap R p c) c rc) i j else mat (sv_upd (sv_swap R p c) c rc) i j + mat (sv_upd (sv_swap R p c) c rc) i c * mat (sv_upd (sv_swap R p c) c rc) c j := fun i hi j hj => by
        show at_ (R3 i) j = _
        rw [e4 i hi j hj]
        by_cases e : i = c
        · rw [if_neg (fun h => h.2 e), if_pos e]; rfl
        · rw [if_pos ⟨Nat.zero_le _, e⟩, if_neg e]; rfl
      have hQ : ∀ z, Qs n (mat R3) (at_ y3) z ↔ Qs n (mat R) (at_ y) z := fun z =>
        ((Qs_elim hcn hA3 (fun i hi => by
          rw [e5 i hi]
          by_cases e : i = c
          · rw [if_neg (fun h => h.2 e), if_pos e]
          · rw [if_pos ⟨Nat.zero_le _, e⟩, if_neg e]; rfl) z).trans (Qs_scale hcn (inv_ne_zero hpz) hA1 hY1 z)).trans (Qs_swap hpn hcn (mat R) (at_ y) z)
      have hZ : ∀ z, Qs n (mat R3) (fun _ => 0) z ↔ Qs n (mat R) (fun _ => 0) z := fun z =>
        ((Qs_elim (y := fun _ => 0) hcn hA3 (fun i hi => by rw [mul_zero, add_zero, ite_self]) z).trans (Qs_scale (y := sv_swap (fun _ => 0) p c) hcn (inv_ne_zero hpz) hA1 (fun i hi => by unfold sv_swap; rw [ite_self, ite_self, zero_mul, ite_self]) z)).trans (Qs_swap hpn hcn (mat R) (fun _ => 0) z)
      refine ⟨o, ?_, ?_⟩
      · refine Ev.congr (fun k => by rw [sv_main, hpe, if_neg (by omega), rd_L, Int.toNat_natCast]) ?_
        refine Ev.bind (rinverse_ev _ hpz) ?_
        refine Ev.bind s1 ?_
        refine Ev.congr (fun k => by rw [rd_L, Int.toNat_natCast]) ?_
        refine Ev.bind (rtimes_ev _ _) ?_
        refine Ev.congr (fun k => by rw [swap_L, upd_L, t1, L_set]) ?_
        exact Ev.bind e1 o1
      · cases o with
        | none =>
          obtain ⟨z, hz1, hz3⟩ := o2
          exact ⟨z, hz1, (hZ z).1 hz3⟩
        | some x => exact ⟨o2.1, fun z => (hQ z).symm.trans (o2.2 z)⟩
theorem solve_ev (M : List (List F)) (y : List F) (hM : ∀ r ∈ M, r.length = M.length) (hy : y.length = M.length) (hn : M.length ≤ 1000) :
    ∃ o : Option (List F), Told M.length (fun i j => at_ (M.getD i []) j) (at_ y) o ∧ Ev (fun k => foghornref20_solve.f k (M.map L) (L y)) (match o with | none => (([] : List Int), false) | some x => (L x, true)) := by
  obtain ⟨o, h1, h2⟩ := sv_main_ev M.length M.length 0 (fun i => M.getD i []) y (by omega) (fun a ha => by
    rw [List.getD_eq_getElem?_getD, List.getElem?_eq_getElem ha]
    exact hM _ (List.getElem_mem ha)) hy (fun a _ j hj => absurd hj (by omega))
  refine ⟨o, h2, ?_⟩
  have e : (fun i => (M.map L).getD i []) = fun i => L (M.getD i []) := by
    funext i
    rw [List.getD_eq_getElem?_getD, List.getD_eq_getElem?_getD, List.getElem?_map]
    cases M[i]? <;> rfl
  obtain ⟨K, hK⟩ := h1
  refine ⟨K, fun k hk => ?_⟩
  show foghornref20_solve.f k (M.map L) (L y) = _
  unfold foghornref20_solve.f
  have hall : ∀ r ∈ M.map L, r.length = (M.map L).length := fun r hr => by
    obtain ⟨q, hq, rfl⟩ := List.mem_map.1 hr
    rw [L_length, List.length_map]
    exact hM q hq
  rw [if_pos ⟨hall, by rw [L_length, List.length_map]; exact hy, by rw [List.length_map]; exact hn⟩, List.length_map, e, show sv_main k M.length M.length 0 (fun i => L (M.getD i [])) (L y) = some (o.map L) from hK k hk]
  cases o <;> rfl
end Go.Proofs.Ytncoakokdajibaa.Sem
