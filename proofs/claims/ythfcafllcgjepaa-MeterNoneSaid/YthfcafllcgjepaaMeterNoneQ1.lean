-- Printed by myprint.py (ours) over the kit's printer, out of the translation.
import Derived.Test.YthfcafllcgjepaaMeterNoneK0
import Derived.Test.YthfcafllcgjepaaMeterNoneF0
import Derived.Test.YthfcafllcgjepaaMeterNoneQ0
namespace Go.Proofs.Ythfcafllcgjepaa.Q
open Go.RowKit Go.Proofs.YthfcafllcgjepaaW.PrintWords Go.Proofs.YthfcafllcgjepaaW.PrintLast Go.Proofs.YthfcafllcgjepaaW.PrintMore
attribute [local go_sem] ArrW.ptrOf_slice unary_neg_float unary_neg_complex run_store_float run_store_complex max2_int min2_int max_two min_two max_three min_three max_four min_four   -- for this text's walks alone
set_option linter.unusedVariables false
set_option linter.unusedSimpArgs false

/-! ### meter_Runs: function 34 -/
set_option maxHeartbeats 8000000 in
set_option maxRecDepth 100000 in
theorem meter_Runs.calls (k : Nat) (A0 : Option Addr) (c0 : Nat) (l0 : List Bool) (A1 : Option Addr) (c1 : Nat) (l1 : List Bool) (a2 : Int) (r1 : List (S49)) (r2 : Int) (w : World) (hr0 : Kd.C Kd.bool w A0 l0.length l0) (hc0 : l0.length ≤ c0) (hr1 : Kd.C Kd.bool w A1 l1.length l1) (hc1 : l1.length ≤ c1) (h : meter_Runs.f k l0 l1 a2 = some (r1, r2)) :
  Calls Try.prog 34 #[.slice A0 l0.length c0, .slice A1 l1.length c1, .int .i64 a2] w fun e w' => ∃ v0_ : Value, e = .returned (.tuple #[v0_, .int .i64 r2]) ∧ Kd.R k49 49 w' w.heap.size (fun _ => True) v0_ r1 ∧ Below w.heap.size w w' := by
 have hu49 := Try.underlying49
 have HR0 := Aside0.mk hr0
 have HC0 := Aside0.mk hc0
 clear hr0 hc0
 have HR1 := Aside0.mk hr1
 have HC1 := Aside0.mk hc1
 clear hr1 hc1
 have HB := Aside0.mk (Below.refl w.heap.size w)
 have H : ((meter_rows.f l0 l1).bind fun t308 => (if t308 = true then (meter_Runs.j0 k l0 l1 a2 (decide (a2 < 0))) else (meter_Runs.j0 k l0 l1 a2 true))) = some (r1, r2) := h
 clear h
 have HC4 := Aside0.mk H
 clear H
 go_enter Try.func34, Try.ntmps34
 go_upto_region 1 with (first | (with_reducible refine scope_ (fun _ _ _ h => h) ?_) | (with_reducible refine wp_label ?_; go_simp))
 repeat (go_quiet (fail); go_upto_region 1 with (first | (with_reducible refine scope_ (fun _ _ _ h => h) ?_) | (with_reducible refine wp_label ?_; go_simp)))
 go_cut [18] (fun v18 wc => ∃ (kq : Nat) (x18_3 : Bool), v18 = .bool x18_3 ∧ Aside0 (meter_Runs.j0 kq l0 l1 a2 x18_3 = some (r1, r2)) ∧ Aside0 (kq ≤ k) ∧ Aside0 (Below w.heap.size w wc))
 case first =>
  have H := HC4.out
  clear HC4
  replace H := Option.bind_eq_some_iff.mp H
  obtain ⟨t308, A50, H⟩ := H
  replace H : (if t308 = true then (meter_Runs.j0 k l0 l1 a2 (decide (a2 < 0))) else (meter_Runs.j0 k l0 l1 a2 true)) = some (r1, r2) := H
  have A5 := Aside0.mk A50
  clear A50
  by_cases c6 : t308 = true
  ·subst c6
   have H1 : (meter_Runs.j0 k l0 l1 a2 (decide (a2 < 0))) = some (r1, r2) := by rw [if_pos rfl] at H; exact H
   clear H
   have H := H1
   clear H1
   have H' := Aside0.mk H
   clear H
   go_wp2_with (first | (with_reducible refine scope_ (fun _ _ _ h => h) ?_) | (with_reducible refine wp_label ?_; go_simp) | (go_at_call 109; (with_reducible refine (meter_rows.calls _ _ l0 _ _ l1 true _ ?side1 ?side2 ?side3 ?side4 A5.out).mono ?_); (case side1 => repeat (first | exact (Kd.C_below HR0.out HB.out) | (with_reducible refine Kd.C_alloc ?_ _) | (with_reducible refine Kd.C_drewN ?_ _) | (with_reducible refine Kd.C_drew ?_))); (case side2 => exact HC0.out); (case side3 => repeat (first | exact (Kd.C_below HR1.out HB.out) | (with_reducible refine Kd.C_alloc ?_ _) | (with_reducible refine Kd.C_drewN ?_ _) | (with_reducible refine Kd.C_drew ?_))); (case side4 => exact HC1.out); rintro e w' ⟨rfl, ⟨nd, rfl⟩⟩; (try first | exact ⟨rfl, _, World.drewN_drewN _ _ _⟩ | exact ⟨rfl, _, Eq.trans (World.drewN_drewN _ _ _) (congrArg (World.drewN _) (Nat.add_assoc _ _ _))⟩)))
   repeat (go_quiet (first | (go_at_call 109; (with_reducible refine (meter_rows.calls _ _ l0 _ _ l1 true _ ?side1 ?side2 ?side3 ?side4 A5.out).mono ?_); (case side1 => repeat (first | exact (Kd.C_below HR0.out HB.out) | (with_reducible refine Kd.C_alloc ?_ _) | (with_reducible refine Kd.C_drewN ?_ _) | (with_reducible refine Kd.C_drew ?_))); (case side2 => exact HC0.out); (case side3 => repeat (first | exact (Kd.C_below HR1.out HB.out) | (with_reducible refine Kd.C_alloc ?_ _) | (with_reducible refine Kd.C_drewN ?_ _) | (with_reducible refine Kd.C_drew ?_))); (case side4 => exact HC1.out); rintro e w' ⟨rfl, ⟨nd, rfl⟩⟩; (try first | exact ⟨rfl, _, World.drewN_drewN _ _ _⟩ | exact ⟨rfl, _, Eq.trans (World.drewN_drewN _ _ _) (congrArg (World.drewN _) (Nat.add_assoc _ _ _))⟩))); try go_wp2_with (first | (with_reducible refine scope_ (fun _ _ _ h => h) ?_) | (with_reducible refine wp_label ?_; go_simp) | (go_at_call 109; (with_reducible refine (meter_rows.calls _ _ l0 _ _ l1 true _ ?side1 ?side2 ?side3 ?side4 A5.out).mono ?_); (case side1 => repeat (first | exact (Kd.C_below HR0.out HB.out) | (with_reducible refine Kd.C_alloc ?_ _) | (with_reducible refine Kd.C_drewN ?_ _) | (with_reducible refine Kd.C_drew ?_))); (case side2 => exact HC0.out); (case side3 => repeat (first | exact (Kd.C_below HR1.out HB.out) | (with_reducible refine Kd.C_alloc ?_ _) | (with_reducible refine Kd.C_drewN ?_ _) | (with_reducible refine Kd.C_drew ?_))); (case side4 => exact HC1.out); rintro e w' ⟨rfl, ⟨nd, rfl⟩⟩; (try first | exact ⟨rfl, _, World.drewN_drewN _ _ _⟩ | exact ⟨rfl, _, Eq.trans (World.drewN_drewN _ _ _) (congrArg (World.drewN _) (Nat.add_assoc _ _ _))⟩))))
   go_meet
   case rel => exact ⟨_, (decide (a2 < 0)), (by first | rfl | (simp; done) | (simp [*]; done)), H', ⟨by first | omega | exact Nat.le_refl _⟩, ⟨by repeat (first | (with_reducible first | exact HB.out | apply below_alloc | apply pw_below_drewN | apply below_drew1) | exact HB.out)⟩⟩
  ·replace c6 := Bool.eq_false_iff.mpr c6
   subst c6
   have H1 : (meter_Runs.j0 k l0 l1 a2 true) = some (r1, r2) := by rw [if_neg (show ¬ (false = true) by decide)] at H; exact H
   clear H
   have H := H1
   clear H1
   have H' := Aside0.mk H
   clear H
   go_wp2_with (first | (with_reducible refine scope_ (fun _ _ _ h => h) ?_) | (with_reducible refine wp_label ?_; go_simp) | (go_at_call 109; (with_reducible refine (meter_rows.calls _ _ l0 _ _ l1 false _ ?side1 ?side2 ?side3 ?side4 A5.out).mono ?_); (case side1 => repeat (first | exact (Kd.C_below HR0.out HB.out) | (with_reducible refine Kd.C_alloc ?_ _) | (with_reducible refine Kd.C_drewN ?_ _) | (with_reducible refine Kd.C_drew ?_))); (case side2 => exact HC0.out); (case side3 => repeat (first | exact (Kd.C_below HR1.out HB.out) | (with_reducible refine Kd.C_alloc ?_ _) | (with_reducible refine Kd.C_drewN ?_ _) | (with_reducible refine Kd.C_drew ?_))); (case side4 => exact HC1.out); rintro e w' ⟨rfl, ⟨nd, rfl⟩⟩; (try first | exact ⟨rfl, _, World.drewN_drewN _ _ _⟩ | exact ⟨rfl, _, Eq.trans (World.drewN_drewN _ _ _) (congrArg (World.drewN _) (Nat.add_assoc _ _ _))⟩)))
   repeat (go_quiet (first | (go_at_call 109; (with_reducible refine (meter_rows.calls _ _ l0 _ _ l1 false _ ?side1 ?side2 ?side3 ?side4 A5.out).mono ?_); (case side1 => repeat (first | exact (Kd.C_below HR0.out HB.out) | (with_reducible refine Kd.C_alloc ?_ _) | (with_reducible refine Kd.C_drewN ?_ _) | (with_reducible refine Kd.C_drew ?_))); (case side2 => exact HC0.out); (case side3 => repeat (first | exact (Kd.C_below HR1.out HB.out) | (with_reducible refine Kd.C_alloc ?_ _) | (with_reducible refine Kd.C_drewN ?_ _) | (with_reducible refine Kd.C_drew ?_))); (case side4 => exact HC1.out); rintro e w' ⟨rfl, ⟨nd, rfl⟩⟩; (try first | exact ⟨rfl, _, World.drewN_drewN _ _ _⟩ | exact ⟨rfl, _, Eq.trans (World.drewN_drewN _ _ _) (congrArg (World.drewN _) (Nat.add_assoc _ _ _))⟩))); try go_wp2_with (first | (with_reducible refine scope_ (fun _ _ _ h => h) ?_) | (with_reducible refine wp_label ?_; go_simp) | (go_at_call 109; (with_reducible refine (meter_rows.calls _ _ l0 _ _ l1 false _ ?side1 ?side2 ?side3 ?side4 A5.out).mono ?_); (case side1 => repeat (first | exact (Kd.C_below HR0.out HB.out) | (with_reducible refine Kd.C_alloc ?_ _) | (with_reducible refine Kd.C_drewN ?_ _) | (with_reducible refine Kd.C_drew ?_))); (case side2 => exact HC0.out); (case side3 => repeat (first | exact (Kd.C_below HR1.out HB.out) | (with_reducible refine Kd.C_alloc ?_ _) | (with_reducible refine Kd.C_drewN ?_ _) | (with_reducible refine Kd.C_drew ?_))); (case side4 => exact HC1.out); rintro e w' ⟨rfl, ⟨nd, rfl⟩⟩; (try first | exact ⟨rfl, _, World.drewN_drewN _ _ _⟩ | exact ⟨rfl, _, Eq.trans (World.drewN_drewN _ _ _) (congrArg (World.drewN _) (Nat.add_assoc _ _ _))⟩))))
   go_meet
   case rel => exact ⟨_, (true), (by first | rfl | (simp; done) | (simp [*]; done)), H', ⟨by first | omega | exact Nat.le_refl _⟩, ⟨by repeat (first | (with_reducible first | exact HB.out | apply below_alloc | apply pw_below_drewN | apply below_drew1) | exact HB.out)⟩⟩
 case rest =>
  clear HC4
  try clear c1
  try clear p2
  try clear c3
  try clear c6
  obtain ⟨kq, x18_3, rfl, HA, HJ3, HB⟩ := hcut
  cases kq with
  | zero => exact absurd HA.out (by simp [meter_Runs.j0])
  | succ kj3 =>
   have H := HA.out
   clear HA
   simp only [meter_Runs.j0] at H
   by_cases c7 : x18_3 = true
   ·subst c7
    have H1 : (some (([] : List (S49)), 1)) = some (r1, r2) := by rw [if_pos rfl] at H; exact H
    clear H
    have H := H1
    clear H1
    simp only [Option.some.injEq, Prod.mk.injEq] at H
    obtain ⟨rfl, rfl⟩ := H
    go_wp2_with (first | (with_reducible refine scope_ (fun _ _ _ h => h) ?_) | (with_reducible refine wp_label ?_; go_simp))
    repeat (go_quiet (fail); try go_wp2_with (first | (with_reducible refine scope_ (fun _ _ _ h => h) ?_) | (with_reducible refine wp_label ?_; go_simp)))
    go_ret2
    exact ⟨_, by first | rfl | (simp [errW_none, errW_some] <;> rfl) | (simp [*, errW_none, errW_some] <;> rfl), by first | exact Kd.R_nil _ _ _ _ _ | exact Kd.N_nil _ _ _ _ _ | exact Kd.V_nil _ _ _ _ _ | exact Kd.Q_nil _ _ _ _ _ | exact Kd.S_nil _ _ _ _ _, by repeat (first | (with_reducible first | exact HB.out | apply below_alloc | apply pw_below_drewN | apply below_drew1) | exact HB.out)⟩
   ·replace c7 := Bool.eq_false_iff.mpr c7
    subst c7
    have H1 : (meter_Runs.l0 kj3 l0 l1 a2 ([] : List (S49)) (l0.length : Int) 0) = some (r1, r2) := by rw [if_neg (show ¬ (false = true) by decide)] at H; exact H
    clear H
    have H := H1
    clear H1
    have H' := Aside0.mk H
    clear H
    go_wp2_with (first | (with_reducible refine scope_ (fun _ _ _ h => h) ?_) | (with_reducible refine wp_label ?_; go_simp))
    repeat (go_quiet (fail); try go_wp2_with (first | (with_reducible refine scope_ (fun _ _ _ h => h) ?_) | (with_reducible refine wp_label ?_; go_simp)))
    go_loopg [8, 21] kj3 (fun kq v8 v21 w' => ∃ (x8_2 : List (S49)) (x21_2 : Int), v21 = .int .i64 x21_2 ∧ Aside0 (meter_Runs.l0 kq l0 l1 a2 x8_2 (l0.length : Int) x21_2 = some (r1, r2)) ∧ Aside0 (kq ≤ kj3) ∧ Aside0 (Kd.R k49 49 w' w.heap.size (fun _ => True) v8 x8_2) ∧ Aside0 (Below w.heap.size w w'))
    case atStart => exact ⟨(([] : List (S49))), (0), (by first | rfl | (simp; done) | (simp [*]; done)), H', ⟨Nat.le_refl _⟩, ⟨by first | exact Kd.R_nil _ _ _ _ _ | exact Kd.N_nil _ _ _ _ _ | exact Kd.V_nil _ _ _ _ _ | exact Kd.Q_nil _ _ _ _ _ | exact Kd.S_nil _ _ _ _ _⟩, ⟨by repeat (first | (with_reducible first | exact HB.out | apply below_alloc | apply pw_below_drewN | apply below_drew1) | exact HB.out)⟩⟩
    case round =>
     clear H'
     try clear c1
     try clear p2
     try clear c3
     try clear c6
     try clear c7
     try clear p2
     obtain ⟨x8_2, x21_2, rfl, HA, HK2, HO_8, HB⟩ := hrel
     cases gk with
     | zero => exact absurd HA.out (by simp [meter_Runs.l0])
     | succ k2 =>
      have H := HA.out
      clear HA
      simp only [meter_Runs.l0] at H
      by_cases c8 : x21_2 < (l0.length : Int)
      ·rw [if_pos c8] at H
       have c8b0 : decide (x21_2 < (l0.length : Int)) = true := decide_eq_true c8
       clear c8
       by_cases c9 : 0 ≤ x21_2
       ·rw [if_pos c9] at H
        have c9b0 : decide (0 ≤ x21_2) = true := decide_eq_true c9
        clear c9
        by_cases c10 : x21_2 < (l0.length : Int)
        ·rw [if_pos c10] at H
         have c10b0 : decide (x21_2 < (l0.length : Int)) = true := decide_eq_true c10
         clear c10
         by_cases c11 : x21_2 < (l1.length : Int)
         ·rw [if_pos c11] at H
          have c11b0 : decide (x21_2 < (l1.length : Int)) = true := decide_eq_true c11
          clear c11
          by_cases c12 : ((rdOf false l0 x21_2) == (rdOf false l1 x21_2)) = true
          ·rw [if_pos c12] at H
           have c12b0 : ((rdOf false l0 x21_2) == (rdOf false l1 x21_2)) = true := c12
           (try (have c12b1 : decide ((rdOf false l0 x21_2) = (rdOf false l1 x21_2)) = true := by simpa using c12))
           (try (have c12b2 : ((rdOf false l0 x21_2) == (rdOf false l1 x21_2)) = true := by simpa using c12))
           clear c12
           have H' := Aside0.mk H
           clear H
           have p309 : 0 ≤ (x21_2 : Int) := of_decide_eq_true (by first | (with_reducible assumption) | assumption)
           have q309 : x21_2 < (l0.length : Int) := of_decide_eq_true (by first | (with_reducible assumption) | assumption)
           obtain ⟨ad309, e309, hx309_0⟩ := Kd.at_bool HR0.out x21_2 p309 q309
           cases e309
           replace hx309_0 := (HB.out.cell (World.block_lt_of_cell? w _ hx309_0)).trans hx309_0
           replace p309 := eq_true p309
           replace q309 := eq_true q309
           have p310 : 0 ≤ (x21_2 : Int) := of_decide_eq_true (by first | (with_reducible assumption) | assumption)
           have q310 : x21_2 < (l1.length : Int) := of_decide_eq_true (by first | (with_reducible assumption) | assumption)
           obtain ⟨ad310, e310, hx310_0⟩ := Kd.at_bool HR1.out x21_2 p310 q310
           cases e310
           replace hx310_0 := (HB.out.cell (World.block_lt_of_cell? w _ hx310_0)).trans hx310_0
           replace p310 := eq_true p310
           replace q310 := eq_true q310
           go_wp2_with (first | (with_reducible refine scope_ (fun _ _ _ h => h) ?_) | (with_reducible refine wp_label ?_; go_simp))
           repeat (go_quiet (fail); try go_wp2_with (first | (with_reducible refine scope_ (fun _ _ _ h => h) ?_) | (with_reducible refine wp_label ?_; go_simp)))
           first | go_roundg k2 | (simp only [add_plain] at *; go_roundg k2)
           case measure => have := HJ3.out; have := HK2.out; omega
           case rel => exact ⟨(x8_2), (wrap64 (x21_2 + 1)), (by first | rfl | (simp; done) | (simp [*]; done)), H', ⟨by have := HJ3.out; have := HK2.out; omega⟩, ⟨by (with_reducible repeat (first | apply Kd.R_alloc | apply Kd.R_drewN | apply Kd.R_drew)); exact HO_8.out⟩, ⟨by repeat (first | (with_reducible first | exact HB.out | apply below_alloc | apply pw_below_drewN | apply below_drew1) | exact HB.out)⟩⟩
          ·rw [if_neg c12] at H
           have c12b0 : ((rdOf false l0 x21_2) == (rdOf false l1 x21_2)) = false := by simpa using c12
           (try (have c12b1 : decide ((rdOf false l0 x21_2) = (rdOf false l1 x21_2)) = false := by simpa using c12))
           (try (have c12b2 : ((rdOf false l0 x21_2) == (rdOf false l1 x21_2)) = false := by simpa using c12))
           (try (have c12b3 : ¬ ((rdOf false l0 x21_2) = (rdOf false l1 x21_2)) := by simpa using c12))
           clear c12
           by_cases c13 : (wrap64 ((x8_2.length : Int) - 1)) ≥ 0
           ·rw [if_pos c13] at H
            have c13b0 : decide (0 ≤ (wrap64 ((x8_2.length : Int) - 1))) = true := decide_eq_true c13
            clear c13
            obtain ⟨ji14, hji14⟩ : ∃ j_ : Int, (wrap64 ((x8_2.length : Int) - 1)) = j_ := ⟨_, rfl⟩
            replace H : (if 0 ≤ (ji14) then (if (ji14) < (x8_2.length : Int) then (if (wrap64 ((wrap64 (x21_2 - ((rd_T49 x8_2 (ji14)).f0))) - ((rd_T49 x8_2 (ji14)).f1))) ≤ a2 then ((some (x8_2.set ((ji14) : Int).toNat (⟨(rd_T49 x8_2 (ji14)).f0, wrap64 ((wrap64 (x21_2 - ((rd_T49 x8_2 (ji14)).f0))) + 1), (rd_T49 x8_2 (ji14)).f2⟩ : S49) : List (S49))).bind fun y314 => (meter_Runs.l0 k2 l0 l1 a2 (y314.set ((ji14) : Int).toNat (⟨(rd_T49 y314 (ji14)).f0, (rd_T49 y314 (ji14)).f1, wrap64 (((rd_T49 y314 (ji14)).f2) + 1)⟩ : S49)) (l0.length : Int) (wrap64 (x21_2 + 1)))) else (if x8_2.length < 5864062014805 then (meter_Runs.l0 k2 l0 l1 a2 (x8_2 ++ [(⟨x21_2, 1, 1⟩ : S49)]) (l0.length : Int) (wrap64 (x21_2 + 1))) else (none))) else (none)) else (none)) = some (r1, r2) := by first | (rw [hji14] at H; exact H) | (simp only [hji14] at H ⊢; exact H)
            (try rw [hji14] at c13b0)
            have hji14w : (IntKind.i64.wrap ((x8_2.length : Int) - 1)) = ji14 := (i64_w _).trans hji14
            by_cases c15 : 0 ≤ (ji14)
            ·rw [if_pos c15] at H
             have c15b0 : decide (0 ≤ (ji14)) = true := decide_eq_true c15
             clear c15
             by_cases c16 : (ji14) < (x8_2.length : Int)
             ·rw [if_pos c16] at H
              have c16b0 : decide ((ji14) < (x8_2.length : Int)) = true := decide_eq_true c16
              clear c16
              by_cases c17 : (wrap64 ((wrap64 (x21_2 - ((rd_T49 x8_2 (ji14)).f0))) - ((rd_T49 x8_2 (ji14)).f1))) ≤ a2
              ·rw [if_pos c17] at H
               have c17b0 : decide ((wrap64 ((wrap64 (x21_2 - ((rd_T49 x8_2 (ji14)).f0))) - ((rd_T49 x8_2 (ji14)).f1))) ≤ a2) = true := decide_eq_true c17
               clear c17
               obtain ⟨y314, hy314⟩ : ∃ y_ : List (S49), y_ = (x8_2.set ((ji14) : Int).toNat (⟨(rd_T49 x8_2 (ji14)).f0, wrap64 ((wrap64 (x21_2 - ((rd_T49 x8_2 (ji14)).f0))) + 1), (rd_T49 x8_2 (ji14)).f2⟩ : S49)) := ⟨_, rfl⟩
               replace H : (meter_Runs.l0 k2 l0 l1 a2 (y314.set ((ji14) : Int).toNat (⟨(rd_T49 y314 (ji14)).f0, (rd_T49 y314 (ji14)).f1, wrap64 (((rd_T49 y314 (ji14)).f2) + 1)⟩ : S49)) (l0.length : Int) (wrap64 (x21_2 + 1))) = some (r1, r2) := by first | (rw [hy314]; with_reducible exact H) | (have H2_ := (Option.bind_some _ _).symm.trans H; rw [hy314]; with_reducible exact H2_) | (have H2_ := (Option.bind_some _ _).symm.trans H; with_reducible exact H2_) | with_reducible exact H | (rw [hy314]; exact H) | exact H
               have Ny314 := Aside0.mk hy314
               clear hy314
               obtain ⟨y316, hy316⟩ : ∃ y_ : List (S49), y_ = (y314.set ((ji14) : Int).toNat (⟨(rd_T49 y314 (ji14)).f0, (rd_T49 y314 (ji14)).f1, wrap64 (((rd_T49 y314 (ji14)).f2) + 1)⟩ : S49)) := ⟨_, rfl⟩
               replace H : (meter_Runs.l0 k2 l0 l1 a2 y316 (l0.length : Int) (wrap64 (x21_2 + 1))) = some (r1, r2) := by first | (rw [hy316]; with_reducible exact H) | (have H2_ := (Option.bind_some _ _).symm.trans H; rw [hy316]; with_reducible exact H2_) | (have H2_ := (Option.bind_some _ _).symm.trans H; with_reducible exact H2_) | with_reducible exact H | (rw [hy316]; exact H) | exact H
               have Ny316 := Aside0.mk hy316
               clear hy316
               have H' := Aside0.mk H
               clear H
               have p309 : 0 ≤ (x21_2 : Int) := of_decide_eq_true (by first | (with_reducible assumption) | assumption)
               have q309 : x21_2 < (l0.length : Int) := of_decide_eq_true (by first | (with_reducible assumption) | assumption)
               obtain ⟨ad309, e309, hx309_0⟩ := Kd.at_bool HR0.out x21_2 p309 q309
               cases e309
               replace hx309_0 := (HB.out.cell (World.block_lt_of_cell? w _ hx309_0)).trans hx309_0
               replace p309 := eq_true p309
               replace q309 := eq_true q309
               have p310 : 0 ≤ (x21_2 : Int) := of_decide_eq_true (by first | (with_reducible assumption) | assumption)
               have q310 : x21_2 < (l1.length : Int) := of_decide_eq_true (by first | (with_reducible assumption) | assumption)
               obtain ⟨ad310, e310, hx310_0⟩ := Kd.at_bool HR1.out x21_2 p310 q310
               cases e310
               replace hx310_0 := (HB.out.cell (World.block_lt_of_cell? w _ hx310_0)).trans hx310_0
               replace p310 := eq_true p310
               replace q310 := eq_true q310
               obtain ⟨Ao20, co20, eo20⟩ := Kd.R_slice HO_8.out
               subst eo20
               have p311 : 0 ≤ ((ji14) : Int) := of_decide_eq_true (by first | (with_reducible assumption) | assumption)
               have q311 : (ji14) < (x8_2.length : Int) := of_decide_eq_true (by first | (with_reducible assumption) | assumption)
               obtain ⟨ad311, e311, hx311_0, hx311_1, hx311_2⟩ := at_T49 (Kd.R_reads' HO_8.out).2.2 (ji14) p311 q311
               cases e311
               replace p311 := eq_true p311
               replace q311 := eq_true q311
               have p312 : 0 ≤ ((ji14) : Int) := of_decide_eq_true (by first | (with_reducible assumption) | assumption)
               have q312 : (ji14) < (x8_2.length : Int) := of_decide_eq_true (by first | (with_reducible assumption) | assumption)
               obtain ⟨ad312, e312, hx312_0, hx312_1, hx312_2⟩ := at_T49 (Kd.R_reads' HO_8.out).2.2 (ji14) p312 q312
               obtain rfl : ad311 = ad312 := (by injection e312)
               replace p312 := eq_true p312
               replace q312 := eq_true q312
               have p313 : 0 ≤ ((ji14) : Int) := of_decide_eq_true (by first | (with_reducible assumption) | assumption)
               have q313 : (ji14) < (x8_2.length : Int) := of_decide_eq_true (by first | (with_reducible assumption) | assumption)
               obtain ⟨ad313, e313, hx313_0, hx313_1, hx313_2⟩ := at_T49 (Kd.R_reads' HO_8.out).2.2 (ji14) p313 q313
               obtain rfl : ad311 = ad313 := (by injection e313)
               replace p313 := eq_true p313
               replace q313 := eq_true q313
               have p18 : 0 ≤ ((ji14) : Int) := of_decide_eq_true (by first | (with_reducible assumption) | assumption)
               have q18 : ((ji14) : Int) < ((x8_2.length : Int) : Int) := of_decide_eq_true (by first | (with_reducible assumption) | assumption)
               obtain ⟨go18, co18, eo18, gb18, gl18, cl18, HG18⟩ := Kd.R_form HO_8.out (by omega)
               (first | cases eo18 | (injection eo18 with ea_ en_ ec_; (first | subst ea_ | (injection ea_ with ea_; subst ea_)); subst ec_; clear en_))
               have GB18 := Aside0.mk gb18
               have GG18 := Aside0.mk HG18
               clear gb18 gl18 HG18
               (first | simp only [add_plain] at hx311_0 | skip)
               (first | simp only [add_plain] at hx311_1 | skip)
               (first | simp only [add_plain] at hx311_2 | skip)
               (first | simp only [add_plain] at hx312_0 | skip)
               (first | simp only [add_plain] at hx312_1 | skip)
               (first | simp only [add_plain] at hx312_2 | skip)
               (first | simp only [add_plain] at hx313_0 | skip)
               (first | simp only [add_plain] at hx313_1 | skip)
               (first | simp only [add_plain] at hx313_2 | skip)
               obtain ⟨ce18, hcl18, hM18, hcc18, hfr18⟩ := Kd.R_elem HO_8.out z49 ((ji14) : Int) p18 q18
               obtain rfl := k49_openM hM18
               have hx18_0 : wr.cell? ⟨go18, ((ji14) : Int).toNat * 3, none⟩ = some (.int .i64 ((rd_T49 x8_2 (ji14)).f0)) := hcc18 0 _ rfl
               have hx18_1 : wr.cell? ⟨go18, ((ji14) : Int).toNat * 3 + 1, none⟩ = some (.int .i64 ((rd_T49 x8_2 (ji14)).f1)) := hcc18 1 _ rfl
               have hx18_2 : wr.cell? ⟨go18, ((ji14) : Int).toNat * 3 + 2, none⟩ = some (.int .i64 ((rd_T49 x8_2 (ji14)).f2)) := hcc18 2 _ rfl
               have hf18_0 : wr.frozen? ⟨go18, ((ji14) : Int).toNat * 3, none⟩ = false := hfr18 0
               have hf18_1 : wr.frozen? ⟨go18, ((ji14) : Int).toNat * 3 + 1, none⟩ = false := hfr18 1
               have hf18_2 : wr.frozen? ⟨go18, ((ji14) : Int).toNat * 3 + 2, none⟩ = false := hfr18 2
               clear hcl18 hcc18 hfr18 hM18
               replace p18 := eq_true p18
               replace q18 := eq_true q18
               have HX21 := Aside0.mk (show Kd.R k49 49 wr w.heap.size (fun _ => True) (.slice (some ⟨go18, 0, none⟩) x8_2.length co20) x8_2 from (by (with_reducible repeat (first | apply Kd.R_alloc | apply Kd.R_drewN | apply Kd.R_drew)); exact HO_8.out))
               obtain ⟨ce21, hcl21, hM21, hcc21, hfr21⟩ := Kd.R_elem HX21.out z49 ((ji14) : Int) (of_decide_eq_true (by first | (with_reducible assumption) | assumption)) (by have h_ : ((ji14) : Int) < ((x8_2.length : Int) : Int) := of_decide_eq_true (by first | (with_reducible assumption) | assumption); first | exact h_ | (have e_ := (Kd.R_reads' HO_8.out).1; omega) | simpa using h_)
               obtain rfl := k49_openM hM21
               have HP21 := Kd.R_seg HX21.out ((ji14) : Int) (of_decide_eq_true (by first | (with_reducible assumption) | assumption)) (by have h_ : ((ji14) : Int) < ((x8_2.length : Int) : Int) := of_decide_eq_true (by first | (with_reducible assumption) | assumption); first | exact h_ | (have e_ := (Kd.R_reads' HO_8.out).1; omega) | simpa using h_) (seg := [.int .i64 (wrap64 ((wrap64 (x21_2 - ((rd_T49 x8_2 (ji14)).f0))) + 1))]) (j := 1) hcl21 hcc21 (show 2 ≤ 3 from by decide) (x' := (⟨(rd_T49 x8_2 (ji14)).f0, wrap64 ((wrap64 (x21_2 - ((rd_T49 x8_2 (ji14)).f0))) + 1), (rd_T49 x8_2 (ji14)).f2⟩ : S49)) (k49_mkM _ _ _ (⟨(rd_T49 x8_2 (ji14)).f0, wrap64 ((wrap64 (x21_2 - ((rd_T49 x8_2 (ji14)).f0))) + 1), (rd_T49 x8_2 (ji14)).f2⟩ : S49) ) (fun _ hk => hk)
               have hx21_1 := hcc21 1 _ rfl
               (try simp only [show (k49).sz = 3 from rfl, Nat.mul_one, Nat.add_zero] at hx21_1)
               have hf21_1 := hfr21 1
               (try simp only [show (k49).sz = 3 from rfl, Nat.mul_one, Nat.add_zero] at hf21_1)
               clear hcl21 hcc21 hfr21 hM21
               go_wp2_with (first | (with_reducible refine scope_ (fun _ _ _ h => h) ?_) | (with_reducible refine wp_label ?_; go_simp) | ((with_reducible refine gate_store (t := 3) (p := 66) rfl ?_); (try (rw [drewN_self wr]; generalize hq_ : World.drewN wr _ = wr; have n0_ := Aside0.mk (Kd.R_at hq_ HO_8.out); have n1_ := Aside0.mk (below_at hq_ HB.out); clear hq_ HO_8 HB; have HO_8 := n0_; have HB := n1_; clear n0_ n1_; (try (have HX21 := Aside0.mk (show Kd.R k49 49 wr w.heap.size (fun _ => True) (.slice (some ⟨go18, 0, none⟩) x8_2.length co20) x8_2 from (by (with_reducible repeat (first | apply Kd.R_alloc | apply Kd.R_drewN | apply Kd.R_drew)); exact HO_8.out)))); (try (obtain ⟨ce21, hcl21, hM21, hcc21, hfr21⟩ := Kd.R_elem HX21.out z49 ((ji14) : Int) (of_decide_eq_true (by first | (with_reducible assumption) | assumption)) (by have h_ : ((ji14) : Int) < ((x8_2.length : Int) : Int) := of_decide_eq_true (by first | (with_reducible assumption) | assumption); first | exact h_ | (have e_ := (Kd.R_reads' HO_8.out).1; omega) | simpa using h_))); (try (obtain rfl := k49_openM hM21)); (try (have HP21 := Kd.R_seg HX21.out ((ji14) : Int) (of_decide_eq_true (by first | (with_reducible assumption) | assumption)) (by have h_ : ((ji14) : Int) < ((x8_2.length : Int) : Int) := of_decide_eq_true (by first | (with_reducible assumption) | assumption); first | exact h_ | (have e_ := (Kd.R_reads' HO_8.out).1; omega) | simpa using h_) (seg := [.int .i64 (wrap64 ((wrap64 (x21_2 - ((rd_T49 x8_2 (ji14)).f0))) + 1))]) (j := 1) hcl21 hcc21 (show 2 ≤ 3 from by decide) (x' := (⟨(rd_T49 x8_2 (ji14)).f0, wrap64 ((wrap64 (x21_2 - ((rd_T49 x8_2 (ji14)).f0))) + 1), (rd_T49 x8_2 (ji14)).f2⟩ : S49)) (k49_mkM _ _ _ (⟨(rd_T49 x8_2 (ji14)).f0, wrap64 ((wrap64 (x21_2 - ((rd_T49 x8_2 (ji14)).f0))) + 1), (rd_T49 x8_2 (ji14)).f2⟩ : S49) ) (fun _ hk => hk))); (try (have hx21_1 := hcc21 1 _ rfl)); (try (try simp only [show (k49).sz = 3 from rfl, Nat.mul_one, Nat.add_zero] at hx21_1)); (try (have hf21_1 := hfr21 1)); (try (try simp only [show (k49).sz = 3 from rfl, Nat.mul_one, Nat.add_zero] at hf21_1)); (try (clear hcl21 hcc21 hfr21 hM21)))); refine store_event (t := 3) (p := 66) (v := ?vo_w22) (w1 := (wr.setCell ⟨go18, ((ji14) : Int).toNat * 3 + 1, none⟩ (.int .i64 (wrap64 ((wrap64 (x21_2 - ((rd_T49 x8_2 (ji14)).f0))) + 1))))) ?hg ?ho ?hn ?hr ?_; (case ho => rfl); (case hg => rfl); (case hn => rfl); (case hr => first | (go_simp; done) | (go_simp; rfl)); intro w22 hw; have hg : wr.grownBy w22 (some go18) := (by rw [hw]; exact HP21.2); have hp_ : Kd.R k49 49 w22 w.heap.size (fun _ => True) (.slice (some ⟨go18, 0, none⟩) x8_2.length co20) y314 := (by rw [hw, Ny314.out]; exact HP21.1); clear HP21; have n0_ := Aside0.mk (hp_); have n1_ := Aside0.mk ((by rw [hw]; exact below_set (HB.out) GB18.out : Below w.heap.size w w22)); clear HO_8; clear HB; have HO_8 := n0_; have HB := n1_; clear n0_ n1_; clear hg hw hp_; have p315 : 0 ≤ ((ji14) : Int) := of_decide_eq_true (by first | (with_reducible assumption) | assumption); have q315 : (ji14) < (y314.length : Int) := (by have h_ : ((ji14) : Int) < ((x8_2.length : Int) : Int) := of_decide_eq_true (by first | (with_reducible assumption) | assumption); first | (have e_ := (Kd.R_reads' HO_8.out).1; omega) | simpa only [Ny314.out, List.length_set] using h_); have ql315 : (((ji14) : Int) < ((x8_2.length : Int) : Int)) = True := eq_true (of_decide_eq_true (by first | (with_reducible assumption) | assumption)); obtain ⟨ad315, e315, hx315_0, hx315_1, hx315_2⟩ := at_T49 (Kd.R_reads' HO_8.out).2.2 (ji14) p315 q315; obtain rfl : (⟨go18, 0, none⟩ : Addr) = ad315 := (by injection e315); (first | simp only [add_plain] at hx315_0 | simp only [add_at] at hx315_0 | simp only [Addr.add, Nat.zero_add] at hx315_0 | skip); (first | simp only [add_plain] at hx315_1 | simp only [add_at] at hx315_1 | simp only [Addr.add, Nat.zero_add] at hx315_1 | skip); (first | simp only [add_plain] at hx315_2 | simp only [add_at] at hx315_2 | simp only [Addr.add, Nat.zero_add] at hx315_2 | skip); replace p315 := eq_true p315; replace q315 := eq_true q315; have p19 : 0 ≤ ((ji14) : Int) := of_decide_eq_true (by first | (with_reducible assumption) | assumption); have q19 : ((ji14) : Int) < ((x8_2.length : Int) : Int) := of_decide_eq_true (by first | (with_reducible assumption) | assumption); obtain ⟨ce19, hcl19, hM19, hcc19, hfr19⟩ := Kd.R_elem HO_8.out z49 ((ji14) : Int) p19 q19; obtain rfl := k49_openM hM19; have hx19_0 : w22.cell? ⟨go18, ((ji14) : Int).toNat * 3, none⟩ = some (.int .i64 ((rd_T49 y314 (ji14)).f0)) := hcc19 0 _ rfl; have hx19_1 : w22.cell? ⟨go18, ((ji14) : Int).toNat * 3 + 1, none⟩ = some (.int .i64 ((rd_T49 y314 (ji14)).f1)) := hcc19 1 _ rfl; have hx19_2 : w22.cell? ⟨go18, ((ji14) : Int).toNat * 3 + 2, none⟩ = some (.int .i64 ((rd_T49 y314 (ji14)).f2)) := hcc19 2 _ rfl; have hf19_0 : w22.frozen? ⟨go18, ((ji14) : Int).toNat * 3, none⟩ = false := hfr19 0; have hf19_1 : w22.frozen? ⟨go18, ((ji14) : Int).toNat * 3 + 1, none⟩ = false := hfr19 1; have hf19_2 : w22.frozen? ⟨go18, ((ji14) : Int).toNat * 3 + 2, none⟩ = false := hfr19 2; clear hcl19 hcc19 hfr19 hM19; replace p19 := eq_true p19; replace q19 := eq_true q19; have HX23 := Aside0.mk (show Kd.R k49 49 w22 w.heap.size (fun _ => True) (.slice (some ⟨go18, 0, none⟩) x8_2.length co20) y314 from (by (with_reducible repeat (first | apply Kd.R_alloc | apply Kd.R_drewN | apply Kd.R_drew)); exact HO_8.out)); obtain ⟨ce23, hcl23, hM23, hcc23, hfr23⟩ := Kd.R_elem HX23.out z49 ((ji14) : Int) (of_decide_eq_true (by first | (with_reducible assumption) | assumption)) (by have h_ : ((ji14) : Int) < ((x8_2.length : Int) : Int) := of_decide_eq_true (by first | (with_reducible assumption) | assumption); first | exact h_ | (have e_ := (Kd.R_reads' HO_8.out).1; omega) | simpa using h_); obtain rfl := k49_openM hM23; have HP23 := Kd.R_seg HX23.out ((ji14) : Int) (of_decide_eq_true (by first | (with_reducible assumption) | assumption)) (by have h_ : ((ji14) : Int) < ((x8_2.length : Int) : Int) := of_decide_eq_true (by first | (with_reducible assumption) | assumption); first | exact h_ | (have e_ := (Kd.R_reads' HO_8.out).1; omega) | simpa using h_) (seg := [.int .i64 (wrap64 (((rd_T49 y314 (ji14)).f2) + 1))]) (j := 2) hcl23 hcc23 (show 3 ≤ 3 from by decide) (x' := (⟨(rd_T49 y314 (ji14)).f0, (rd_T49 y314 (ji14)).f1, wrap64 (((rd_T49 y314 (ji14)).f2) + 1)⟩ : S49)) (k49_mkM _ _ _ (⟨(rd_T49 y314 (ji14)).f0, (rd_T49 y314 (ji14)).f1, wrap64 (((rd_T49 y314 (ji14)).f2) + 1)⟩ : S49) ) (fun _ hk => hk); have hx23_2 := hcc23 2 _ rfl; (try simp only [show (k49).sz = 3 from rfl, Nat.mul_one, Nat.add_zero] at hx23_2); have hf23_2 := hfr23 2; (try simp only [show (k49).sz = 3 from rfl, Nat.mul_one, Nat.add_zero] at hf23_2); clear hcl23 hcc23 hfr23 hM23) | ((with_reducible refine gate_store (t := 3) (p := 74) rfl ?_); (try (rw [drewN_self w22]; generalize hq_ : World.drewN w22 _ = w22; have n0_ := Aside0.mk (Kd.R_at hq_ HO_8.out); have n1_ := Aside0.mk (below_at hq_ HB.out); clear hq_ HO_8 HB; have HO_8 := n0_; have HB := n1_; clear n0_ n1_; (try (have HX23 := Aside0.mk (show Kd.R k49 49 w22 w.heap.size (fun _ => True) (.slice (some ⟨go18, 0, none⟩) x8_2.length co20) y314 from (by (with_reducible repeat (first | apply Kd.R_alloc | apply Kd.R_drewN | apply Kd.R_drew)); exact HO_8.out)))); (try (obtain ⟨ce23, hcl23, hM23, hcc23, hfr23⟩ := Kd.R_elem HX23.out z49 ((ji14) : Int) (of_decide_eq_true (by first | (with_reducible assumption) | assumption)) (by have h_ : ((ji14) : Int) < ((x8_2.length : Int) : Int) := of_decide_eq_true (by first | (with_reducible assumption) | assumption); first | exact h_ | (have e_ := (Kd.R_reads' HO_8.out).1; omega) | simpa using h_))); (try (obtain rfl := k49_openM hM23)); (try (have HP23 := Kd.R_seg HX23.out ((ji14) : Int) (of_decide_eq_true (by first | (with_reducible assumption) | assumption)) (by have h_ : ((ji14) : Int) < ((x8_2.length : Int) : Int) := of_decide_eq_true (by first | (with_reducible assumption) | assumption); first | exact h_ | (have e_ := (Kd.R_reads' HO_8.out).1; omega) | simpa using h_) (seg := [.int .i64 (wrap64 (((rd_T49 y314 (ji14)).f2) + 1))]) (j := 2) hcl23 hcc23 (show 3 ≤ 3 from by decide) (x' := (⟨(rd_T49 y314 (ji14)).f0, (rd_T49 y314 (ji14)).f1, wrap64 (((rd_T49 y314 (ji14)).f2) + 1)⟩ : S49)) (k49_mkM _ _ _ (⟨(rd_T49 y314 (ji14)).f0, (rd_T49 y314 (ji14)).f1, wrap64 (((rd_T49 y314 (ji14)).f2) + 1)⟩ : S49) ) (fun _ hk => hk))); (try (have hx23_2 := hcc23 2 _ rfl)); (try (try simp only [show (k49).sz = 3 from rfl, Nat.mul_one, Nat.add_zero] at hx23_2)); (try (have hf23_2 := hfr23 2)); (try (try simp only [show (k49).sz = 3 from rfl, Nat.mul_one, Nat.add_zero] at hf23_2)); (try (clear hcl23 hcc23 hfr23 hM23)))); refine store_event (t := 3) (p := 74) (v := ?vo_w24) (w1 := (w22.setCell ⟨go18, ((ji14) : Int).toNat * 3 + 2, none⟩ (.int .i64 (wrap64 (((rd_T49 y314 (ji14)).f2) + 1))))) ?hg ?ho ?hn ?hr ?_; (case ho => rfl); (case hg => rfl); (case hn => rfl); (case hr => first | (go_simp; done) | (go_simp; rfl)); intro w24 hw; have hg : w22.grownBy w24 (some go18) := (by rw [hw]; exact HP23.2); have hp_ : Kd.R k49 49 w24 w.heap.size (fun _ => True) (.slice (some ⟨go18, 0, none⟩) x8_2.length co20) y316 := (by rw [hw, Ny316.out]; exact HP23.1); clear HP23; have n0_ := Aside0.mk (hp_); have n1_ := Aside0.mk ((by rw [hw]; exact below_set (HB.out) GB18.out : Below w.heap.size w w24)); clear HO_8; clear HB; have HO_8 := n0_; have HB := n1_; clear n0_ n1_; clear hg hw hp_))
               repeat (go_quiet (first | ((with_reducible refine gate_store (t := 3) (p := 66) rfl ?_); (try (rw [drewN_self wr]; generalize hq_ : World.drewN wr _ = wr; have n0_ := Aside0.mk (Kd.R_at hq_ HO_8.out); have n1_ := Aside0.mk (below_at hq_ HB.out); clear hq_ HO_8 HB; have HO_8 := n0_; have HB := n1_; clear n0_ n1_; (try (have HX21 := Aside0.mk (show Kd.R k49 49 wr w.heap.size (fun _ => True) (.slice (some ⟨go18, 0, none⟩) x8_2.length co20) x8_2 from (by (with_reducible repeat (first | apply Kd.R_alloc | apply Kd.R_drewN | apply Kd.R_drew)); exact HO_8.out)))); (try (obtain ⟨ce21, hcl21, hM21, hcc21, hfr21⟩ := Kd.R_elem HX21.out z49 ((ji14) : Int) (of_decide_eq_true (by first | (with_reducible assumption) | assumption)) (by have h_ : ((ji14) : Int) < ((x8_2.length : Int) : Int) := of_decide_eq_true (by first | (with_reducible assumption) | assumption); first | exact h_ | (have e_ := (Kd.R_reads' HO_8.out).1; omega) | simpa using h_))); (try (obtain rfl := k49_openM hM21)); (try (have HP21 := Kd.R_seg HX21.out ((ji14) : Int) (of_decide_eq_true (by first | (with_reducible assumption) | assumption)) (by have h_ : ((ji14) : Int) < ((x8_2.length : Int) : Int) := of_decide_eq_true (by first | (with_reducible assumption) | assumption); first | exact h_ | (have e_ := (Kd.R_reads' HO_8.out).1; omega) | simpa using h_) (seg := [.int .i64 (wrap64 ((wrap64 (x21_2 - ((rd_T49 x8_2 (ji14)).f0))) + 1))]) (j := 1) hcl21 hcc21 (show 2 ≤ 3 from by decide) (x' := (⟨(rd_T49 x8_2 (ji14)).f0, wrap64 ((wrap64 (x21_2 - ((rd_T49 x8_2 (ji14)).f0))) + 1), (rd_T49 x8_2 (ji14)).f2⟩ : S49)) (k49_mkM _ _ _ (⟨(rd_T49 x8_2 (ji14)).f0, wrap64 ((wrap64 (x21_2 - ((rd_T49 x8_2 (ji14)).f0))) + 1), (rd_T49 x8_2 (ji14)).f2⟩ : S49) ) (fun _ hk => hk))); (try (have hx21_1 := hcc21 1 _ rfl)); (try (try simp only [show (k49).sz = 3 from rfl, Nat.mul_one, Nat.add_zero] at hx21_1)); (try (have hf21_1 := hfr21 1)); (try (try simp only [show (k49).sz = 3 from rfl, Nat.mul_one, Nat.add_zero] at hf21_1)); (try (clear hcl21 hcc21 hfr21 hM21)))); refine store_event (t := 3) (p := 66) (v := ?vo_w22) (w1 := (wr.setCell ⟨go18, ((ji14) : Int).toNat * 3 + 1, none⟩ (.int .i64 (wrap64 ((wrap64 (x21_2 - ((rd_T49 x8_2 (ji14)).f0))) + 1))))) ?hg ?ho ?hn ?hr ?_; (case ho => rfl); (case hg => rfl); (case hn => rfl); (case hr => first | (go_simp; done) | (go_simp; rfl)); intro w22 hw; have hg : wr.grownBy w22 (some go18) := (by rw [hw]; exact HP21.2); have hp_ : Kd.R k49 49 w22 w.heap.size (fun _ => True) (.slice (some ⟨go18, 0, none⟩) x8_2.length co20) y314 := (by rw [hw, Ny314.out]; exact HP21.1); clear HP21; have n0_ := Aside0.mk (hp_); have n1_ := Aside0.mk ((by rw [hw]; exact below_set (HB.out) GB18.out : Below w.heap.size w w22)); clear HO_8; clear HB; have HO_8 := n0_; have HB := n1_; clear n0_ n1_; clear hg hw hp_; have p315 : 0 ≤ ((ji14) : Int) := of_decide_eq_true (by first | (with_reducible assumption) | assumption); have q315 : (ji14) < (y314.length : Int) := (by have h_ : ((ji14) : Int) < ((x8_2.length : Int) : Int) := of_decide_eq_true (by first | (with_reducible assumption) | assumption); first | (have e_ := (Kd.R_reads' HO_8.out).1; omega) | simpa only [Ny314.out, List.length_set] using h_); have ql315 : (((ji14) : Int) < ((x8_2.length : Int) : Int)) = True := eq_true (of_decide_eq_true (by first | (with_reducible assumption) | assumption)); obtain ⟨ad315, e315, hx315_0, hx315_1, hx315_2⟩ := at_T49 (Kd.R_reads' HO_8.out).2.2 (ji14) p315 q315; obtain rfl : (⟨go18, 0, none⟩ : Addr) = ad315 := (by injection e315); (first | simp only [add_plain] at hx315_0 | simp only [add_at] at hx315_0 | simp only [Addr.add, Nat.zero_add] at hx315_0 | skip); (first | simp only [add_plain] at hx315_1 | simp only [add_at] at hx315_1 | simp only [Addr.add, Nat.zero_add] at hx315_1 | skip); (first | simp only [add_plain] at hx315_2 | simp only [add_at] at hx315_2 | simp only [Addr.add, Nat.zero_add] at hx315_2 | skip); replace p315 := eq_true p315; replace q315 := eq_true q315; have p19 : 0 ≤ ((ji14) : Int) := of_decide_eq_true (by first | (with_reducible assumption) | assumption); have q19 : ((ji14) : Int) < ((x8_2.length : Int) : Int) := of_decide_eq_true (by first | (with_reducible assumption) | assumption); obtain ⟨ce19, hcl19, hM19, hcc19, hfr19⟩ := Kd.R_elem HO_8.out z49 ((ji14) : Int) p19 q19; obtain rfl := k49_openM hM19; have hx19_0 : w22.cell? ⟨go18, ((ji14) : Int).toNat * 3, none⟩ = some (.int .i64 ((rd_T49 y314 (ji14)).f0)) := hcc19 0 _ rfl; have hx19_1 : w22.cell? ⟨go18, ((ji14) : Int).toNat * 3 + 1, none⟩ = some (.int .i64 ((rd_T49 y314 (ji14)).f1)) := hcc19 1 _ rfl; have hx19_2 : w22.cell? ⟨go18, ((ji14) : Int).toNat * 3 + 2, none⟩ = some (.int .i64 ((rd_T49 y314 (ji14)).f2)) := hcc19 2 _ rfl; have hf19_0 : w22.frozen? ⟨go18, ((ji14) : Int).toNat * 3, none⟩ = false := hfr19 0; have hf19_1 : w22.frozen? ⟨go18, ((ji14) : Int).toNat * 3 + 1, none⟩ = false := hfr19 1; have hf19_2 : w22.frozen? ⟨go18, ((ji14) : Int).toNat * 3 + 2, none⟩ = false := hfr19 2; clear hcl19 hcc19 hfr19 hM19; replace p19 := eq_true p19; replace q19 := eq_true q19; have HX23 := Aside0.mk (show Kd.R k49 49 w22 w.heap.size (fun _ => True) (.slice (some ⟨go18, 0, none⟩) x8_2.length co20) y314 from (by (with_reducible repeat (first | apply Kd.R_alloc | apply Kd.R_drewN | apply Kd.R_drew)); exact HO_8.out)); obtain ⟨ce23, hcl23, hM23, hcc23, hfr23⟩ := Kd.R_elem HX23.out z49 ((ji14) : Int) (of_decide_eq_true (by first | (with_reducible assumption) | assumption)) (by have h_ : ((ji14) : Int) < ((x8_2.length : Int) : Int) := of_decide_eq_true (by first | (with_reducible assumption) | assumption); first | exact h_ | (have e_ := (Kd.R_reads' HO_8.out).1; omega) | simpa using h_); obtain rfl := k49_openM hM23; have HP23 := Kd.R_seg HX23.out ((ji14) : Int) (of_decide_eq_true (by first | (with_reducible assumption) | assumption)) (by have h_ : ((ji14) : Int) < ((x8_2.length : Int) : Int) := of_decide_eq_true (by first | (with_reducible assumption) | assumption); first | exact h_ | (have e_ := (Kd.R_reads' HO_8.out).1; omega) | simpa using h_) (seg := [.int .i64 (wrap64 (((rd_T49 y314 (ji14)).f2) + 1))]) (j := 2) hcl23 hcc23 (show 3 ≤ 3 from by decide) (x' := (⟨(rd_T49 y314 (ji14)).f0, (rd_T49 y314 (ji14)).f1, wrap64 (((rd_T49 y314 (ji14)).f2) + 1)⟩ : S49)) (k49_mkM _ _ _ (⟨(rd_T49 y314 (ji14)).f0, (rd_T49 y314 (ji14)).f1, wrap64 (((rd_T49 y314 (ji14)).f2) + 1)⟩ : S49) ) (fun _ hk => hk); have hx23_2 := hcc23 2 _ rfl; (try simp only [show (k49).sz = 3 from rfl, Nat.mul_one, Nat.add_zero] at hx23_2); have hf23_2 := hfr23 2; (try simp only [show (k49).sz = 3 from rfl, Nat.mul_one, Nat.add_zero] at hf23_2); clear hcl23 hcc23 hfr23 hM23) | ((with_reducible refine gate_store (t := 3) (p := 74) rfl ?_); (try (rw [drewN_self w22]; generalize hq_ : World.drewN w22 _ = w22; have n0_ := Aside0.mk (Kd.R_at hq_ HO_8.out); have n1_ := Aside0.mk (below_at hq_ HB.out); clear hq_ HO_8 HB; have HO_8 := n0_; have HB := n1_; clear n0_ n1_; (try (have HX23 := Aside0.mk (show Kd.R k49 49 w22 w.heap.size (fun _ => True) (.slice (some ⟨go18, 0, none⟩) x8_2.length co20) y314 from (by (with_reducible repeat (first | apply Kd.R_alloc | apply Kd.R_drewN | apply Kd.R_drew)); exact HO_8.out)))); (try (obtain ⟨ce23, hcl23, hM23, hcc23, hfr23⟩ := Kd.R_elem HX23.out z49 ((ji14) : Int) (of_decide_eq_true (by first | (with_reducible assumption) | assumption)) (by have h_ : ((ji14) : Int) < ((x8_2.length : Int) : Int) := of_decide_eq_true (by first | (with_reducible assumption) | assumption); first | exact h_ | (have e_ := (Kd.R_reads' HO_8.out).1; omega) | simpa using h_))); (try (obtain rfl := k49_openM hM23)); (try (have HP23 := Kd.R_seg HX23.out ((ji14) : Int) (of_decide_eq_true (by first | (with_reducible assumption) | assumption)) (by have h_ : ((ji14) : Int) < ((x8_2.length : Int) : Int) := of_decide_eq_true (by first | (with_reducible assumption) | assumption); first | exact h_ | (have e_ := (Kd.R_reads' HO_8.out).1; omega) | simpa using h_) (seg := [.int .i64 (wrap64 (((rd_T49 y314 (ji14)).f2) + 1))]) (j := 2) hcl23 hcc23 (show 3 ≤ 3 from by decide) (x' := (⟨(rd_T49 y314 (ji14)).f0, (rd_T49 y314 (ji14)).f1, wrap64 (((rd_T49 y314 (ji14)).f2) + 1)⟩ : S49)) (k49_mkM _ _ _ (⟨(rd_T49 y314 (ji14)).f0, (rd_T49 y314 (ji14)).f1, wrap64 (((rd_T49 y314 (ji14)).f2) + 1)⟩ : S49) ) (fun _ hk => hk))); (try (have hx23_2 := hcc23 2 _ rfl)); (try (try simp only [show (k49).sz = 3 from rfl, Nat.mul_one, Nat.add_zero] at hx23_2)); (try (have hf23_2 := hfr23 2)); (try (try simp only [show (k49).sz = 3 from rfl, Nat.mul_one, Nat.add_zero] at hf23_2)); (try (clear hcl23 hcc23 hfr23 hM23)))); refine store_event (t := 3) (p := 74) (v := ?vo_w24) (w1 := (w22.setCell ⟨go18, ((ji14) : Int).toNat * 3 + 2, none⟩ (.int .i64 (wrap64 (((rd_T49 y314 (ji14)).f2) + 1))))) ?hg ?ho ?hn ?hr ?_; (case ho => rfl); (case hg => rfl); (case hn => rfl); (case hr => first | (go_simp; done) | (go_simp; rfl)); intro w24 hw; have hg : w22.grownBy w24 (some go18) := (by rw [hw]; exact HP23.2); have hp_ : Kd.R k49 49 w24 w.heap.size (fun _ => True) (.slice (some ⟨go18, 0, none⟩) x8_2.length co20) y316 := (by rw [hw, Ny316.out]; exact HP23.1); clear HP23; have n0_ := Aside0.mk (hp_); have n1_ := Aside0.mk ((by rw [hw]; exact below_set (HB.out) GB18.out : Below w.heap.size w w24)); clear HO_8; clear HB; have HO_8 := n0_; have HB := n1_; clear n0_ n1_; clear hg hw hp_)); try go_wp2_with (first | (with_reducible refine scope_ (fun _ _ _ h => h) ?_) | (with_reducible refine wp_label ?_; go_simp) | ((with_reducible refine gate_store (t := 3) (p := 66) rfl ?_); (try (rw [drewN_self wr]; generalize hq_ : World.drewN wr _ = wr; have n0_ := Aside0.mk (Kd.R_at hq_ HO_8.out); have n1_ := Aside0.mk (below_at hq_ HB.out); clear hq_ HO_8 HB; have HO_8 := n0_; have HB := n1_; clear n0_ n1_; (try (have HX21 := Aside0.mk (show Kd.R k49 49 wr w.heap.size (fun _ => True) (.slice (some ⟨go18, 0, none⟩) x8_2.length co20) x8_2 from (by (with_reducible repeat (first | apply Kd.R_alloc | apply Kd.R_drewN | apply Kd.R_drew)); exact HO_8.out)))); (try (obtain ⟨ce21, hcl21, hM21, hcc21, hfr21⟩ := Kd.R_elem HX21.out z49 ((ji14) : Int) (of_decide_eq_true (by first | (with_reducible assumption) | assumption)) (by have h_ : ((ji14) : Int) < ((x8_2.length : Int) : Int) := of_decide_eq_true (by first | (with_reducible assumption) | assumption); first | exact h_ | (have e_ := (Kd.R_reads' HO_8.out).1; omega) | simpa using h_))); (try (obtain rfl := k49_openM hM21)); (try (have HP21 := Kd.R_seg HX21.out ((ji14) : Int) (of_decide_eq_true (by first | (with_reducible assumption) | assumption)) (by have h_ : ((ji14) : Int) < ((x8_2.length : Int) : Int) := of_decide_eq_true (by first | (with_reducible assumption) | assumption); first | exact h_ | (have e_ := (Kd.R_reads' HO_8.out).1; omega) | simpa using h_) (seg := [.int .i64 (wrap64 ((wrap64 (x21_2 - ((rd_T49 x8_2 (ji14)).f0))) + 1))]) (j := 1) hcl21 hcc21 (show 2 ≤ 3 from by decide) (x' := (⟨(rd_T49 x8_2 (ji14)).f0, wrap64 ((wrap64 (x21_2 - ((rd_T49 x8_2 (ji14)).f0))) + 1), (rd_T49 x8_2 (ji14)).f2⟩ : S49)) (k49_mkM _ _ _ (⟨(rd_T49 x8_2 (ji14)).f0, wrap64 ((wrap64 (x21_2 - ((rd_T49 x8_2 (ji14)).f0))) + 1), (rd_T49 x8_2 (ji14)).f2⟩ : S49) ) (fun _ hk => hk))); (try (have hx21_1 := hcc21 1 _ rfl)); (try (try simp only [show (k49).sz = 3 from rfl, Nat.mul_one, Nat.add_zero] at hx21_1)); (try (have hf21_1 := hfr21 1)); (try (try simp only [show (k49).sz = 3 from rfl, Nat.mul_one, Nat.add_zero] at hf21_1)); (try (clear hcl21 hcc21 hfr21 hM21)))); refine store_event (t := 3) (p := 66) (v := ?vo_w22) (w1 := (wr.setCell ⟨go18, ((ji14) : Int).toNat * 3 + 1, none⟩ (.int .i64 (wrap64 ((wrap64 (x21_2 - ((rd_T49 x8_2 (ji14)).f0))) + 1))))) ?hg ?ho ?hn ?hr ?_; (case ho => rfl); (case hg => rfl); (case hn => rfl); (case hr => first | (go_simp; done) | (go_simp; rfl)); intro w22 hw; have hg : wr.grownBy w22 (some go18) := (by rw [hw]; exact HP21.2); have hp_ : Kd.R k49 49 w22 w.heap.size (fun _ => True) (.slice (some ⟨go18, 0, none⟩) x8_2.length co20) y314 := (by rw [hw, Ny314.out]; exact HP21.1); clear HP21; have n0_ := Aside0.mk (hp_); have n1_ := Aside0.mk ((by rw [hw]; exact below_set (HB.out) GB18.out : Below w.heap.size w w22)); clear HO_8; clear HB; have HO_8 := n0_; have HB := n1_; clear n0_ n1_; clear hg hw hp_; have p315 : 0 ≤ ((ji14) : Int) := of_decide_eq_true (by first | (with_reducible assumption) | assumption); have q315 : (ji14) < (y314.length : Int) := (by have h_ : ((ji14) : Int) < ((x8_2.length : Int) : Int) := of_decide_eq_true (by first | (with_reducible assumption) | assumption); first | (have e_ := (Kd.R_reads' HO_8.out).1; omega) | simpa only [Ny314.out, List.length_set] using h_); have ql315 : (((ji14) : Int) < ((x8_2.length : Int) : Int)) = True := eq_true (of_decide_eq_true (by first | (with_reducible assumption) | assumption)); obtain ⟨ad315, e315, hx315_0, hx315_1, hx315_2⟩ := at_T49 (Kd.R_reads' HO_8.out).2.2 (ji14) p315 q315; obtain rfl : (⟨go18, 0, none⟩ : Addr) = ad315 := (by injection e315); (first | simp only [add_plain] at hx315_0 | simp only [add_at] at hx315_0 | simp only [Addr.add, Nat.zero_add] at hx315_0 | skip); (first | simp only [add_plain] at hx315_1 | simp only [add_at] at hx315_1 | simp only [Addr.add, Nat.zero_add] at hx315_1 | skip); (first | simp only [add_plain] at hx315_2 | simp only [add_at] at hx315_2 | simp only [Addr.add, Nat.zero_add] at hx315_2 | skip); replace p315 := eq_true p315; replace q315 := eq_true q315; have p19 : 0 ≤ ((ji14) : Int) := of_decide_eq_true (by first | (with_reducible assumption) | assumption); have q19 : ((ji14) : Int) < ((x8_2.length : Int) : Int) := of_decide_eq_true (by first | (with_reducible assumption) | assumption); obtain ⟨ce19, hcl19, hM19, hcc19, hfr19⟩ := Kd.R_elem HO_8.out z49 ((ji14) : Int) p19 q19; obtain rfl := k49_openM hM19; have hx19_0 : w22.cell? ⟨go18, ((ji14) : Int).toNat * 3, none⟩ = some (.int .i64 ((rd_T49 y314 (ji14)).f0)) := hcc19 0 _ rfl; have hx19_1 : w22.cell? ⟨go18, ((ji14) : Int).toNat * 3 + 1, none⟩ = some (.int .i64 ((rd_T49 y314 (ji14)).f1)) := hcc19 1 _ rfl; have hx19_2 : w22.cell? ⟨go18, ((ji14) : Int).toNat * 3 + 2, none⟩ = some (.int .i64 ((rd_T49 y314 (ji14)).f2)) := hcc19 2 _ rfl; have hf19_0 : w22.frozen? ⟨go18, ((ji14) : Int).toNat * 3, none⟩ = false := hfr19 0; have hf19_1 : w22.frozen? ⟨go18, ((ji14) : Int).toNat * 3 + 1, none⟩ = false := hfr19 1; have hf19_2 : w22.frozen? ⟨go18, ((ji14) : Int).toNat * 3 + 2, none⟩ = false := hfr19 2; clear hcl19 hcc19 hfr19 hM19; replace p19 := eq_true p19; replace q19 := eq_true q19; have HX23 := Aside0.mk (show Kd.R k49 49 w22 w.heap.size (fun _ => True) (.slice (some ⟨go18, 0, none⟩) x8_2.length co20) y314 from (by (with_reducible repeat (first | apply Kd.R_alloc | apply Kd.R_drewN | apply Kd.R_drew)); exact HO_8.out)); obtain ⟨ce23, hcl23, hM23, hcc23, hfr23⟩ := Kd.R_elem HX23.out z49 ((ji14) : Int) (of_decide_eq_true (by first | (with_reducible assumption) | assumption)) (by have h_ : ((ji14) : Int) < ((x8_2.length : Int) : Int) := of_decide_eq_true (by first | (with_reducible assumption) | assumption); first | exact h_ | (have e_ := (Kd.R_reads' HO_8.out).1; omega) | simpa using h_); obtain rfl := k49_openM hM23; have HP23 := Kd.R_seg HX23.out ((ji14) : Int) (of_decide_eq_true (by first | (with_reducible assumption) | assumption)) (by have h_ : ((ji14) : Int) < ((x8_2.length : Int) : Int) := of_decide_eq_true (by first | (with_reducible assumption) | assumption); first | exact h_ | (have e_ := (Kd.R_reads' HO_8.out).1; omega) | simpa using h_) (seg := [.int .i64 (wrap64 (((rd_T49 y314 (ji14)).f2) + 1))]) (j := 2) hcl23 hcc23 (show 3 ≤ 3 from by decide) (x' := (⟨(rd_T49 y314 (ji14)).f0, (rd_T49 y314 (ji14)).f1, wrap64 (((rd_T49 y314 (ji14)).f2) + 1)⟩ : S49)) (k49_mkM _ _ _ (⟨(rd_T49 y314 (ji14)).f0, (rd_T49 y314 (ji14)).f1, wrap64 (((rd_T49 y314 (ji14)).f2) + 1)⟩ : S49) ) (fun _ hk => hk); have hx23_2 := hcc23 2 _ rfl; (try simp only [show (k49).sz = 3 from rfl, Nat.mul_one, Nat.add_zero] at hx23_2); have hf23_2 := hfr23 2; (try simp only [show (k49).sz = 3 from rfl, Nat.mul_one, Nat.add_zero] at hf23_2); clear hcl23 hcc23 hfr23 hM23) | ((with_reducible refine gate_store (t := 3) (p := 74) rfl ?_); (try (rw [drewN_self w22]; generalize hq_ : World.drewN w22 _ = w22; have n0_ := Aside0.mk (Kd.R_at hq_ HO_8.out); have n1_ := Aside0.mk (below_at hq_ HB.out); clear hq_ HO_8 HB; have HO_8 := n0_; have HB := n1_; clear n0_ n1_; (try (have HX23 := Aside0.mk (show Kd.R k49 49 w22 w.heap.size (fun _ => True) (.slice (some ⟨go18, 0, none⟩) x8_2.length co20) y314 from (by (with_reducible repeat (first | apply Kd.R_alloc | apply Kd.R_drewN | apply Kd.R_drew)); exact HO_8.out)))); (try (obtain ⟨ce23, hcl23, hM23, hcc23, hfr23⟩ := Kd.R_elem HX23.out z49 ((ji14) : Int) (of_decide_eq_true (by first | (with_reducible assumption) | assumption)) (by have h_ : ((ji14) : Int) < ((x8_2.length : Int) : Int) := of_decide_eq_true (by first | (with_reducible assumption) | assumption); first | exact h_ | (have e_ := (Kd.R_reads' HO_8.out).1; omega) | simpa using h_))); (try (obtain rfl := k49_openM hM23)); (try (have HP23 := Kd.R_seg HX23.out ((ji14) : Int) (of_decide_eq_true (by first | (with_reducible assumption) | assumption)) (by have h_ : ((ji14) : Int) < ((x8_2.length : Int) : Int) := of_decide_eq_true (by first | (with_reducible assumption) | assumption); first | exact h_ | (have e_ := (Kd.R_reads' HO_8.out).1; omega) | simpa using h_) (seg := [.int .i64 (wrap64 (((rd_T49 y314 (ji14)).f2) + 1))]) (j := 2) hcl23 hcc23 (show 3 ≤ 3 from by decide) (x' := (⟨(rd_T49 y314 (ji14)).f0, (rd_T49 y314 (ji14)).f1, wrap64 (((rd_T49 y314 (ji14)).f2) + 1)⟩ : S49)) (k49_mkM _ _ _ (⟨(rd_T49 y314 (ji14)).f0, (rd_T49 y314 (ji14)).f1, wrap64 (((rd_T49 y314 (ji14)).f2) + 1)⟩ : S49) ) (fun _ hk => hk))); (try (have hx23_2 := hcc23 2 _ rfl)); (try (try simp only [show (k49).sz = 3 from rfl, Nat.mul_one, Nat.add_zero] at hx23_2)); (try (have hf23_2 := hfr23 2)); (try (try simp only [show (k49).sz = 3 from rfl, Nat.mul_one, Nat.add_zero] at hf23_2)); (try (clear hcl23 hcc23 hfr23 hM23)))); refine store_event (t := 3) (p := 74) (v := ?vo_w24) (w1 := (w22.setCell ⟨go18, ((ji14) : Int).toNat * 3 + 2, none⟩ (.int .i64 (wrap64 (((rd_T49 y314 (ji14)).f2) + 1))))) ?hg ?ho ?hn ?hr ?_; (case ho => rfl); (case hg => rfl); (case hn => rfl); (case hr => first | (go_simp; done) | (go_simp; rfl)); intro w24 hw; have hg : w22.grownBy w24 (some go18) := (by rw [hw]; exact HP23.2); have hp_ : Kd.R k49 49 w24 w.heap.size (fun _ => True) (.slice (some ⟨go18, 0, none⟩) x8_2.length co20) y316 := (by rw [hw, Ny316.out]; exact HP23.1); clear HP23; have n0_ := Aside0.mk (hp_); have n1_ := Aside0.mk ((by rw [hw]; exact below_set (HB.out) GB18.out : Below w.heap.size w w24)); clear HO_8; clear HB; have HO_8 := n0_; have HB := n1_; clear n0_ n1_; clear hg hw hp_)))
               first | go_roundg k2 | (simp only [add_plain] at *; go_roundg k2)
               case measure => have := HJ3.out; have := HK2.out; omega
               case rel => exact ⟨(y316), (wrap64 (x21_2 + 1)), (by first | rfl | (simp; done) | (simp [*]; done)), H', ⟨by have := HJ3.out; have := HK2.out; omega⟩, ⟨by (with_reducible repeat (first | apply Kd.R_alloc | apply Kd.R_drewN | apply Kd.R_drew)); exact HO_8.out⟩, ⟨by repeat (first | (with_reducible first | exact HB.out | apply below_alloc | apply pw_below_drewN | apply below_drew1) | exact HB.out)⟩⟩
              ·rw [if_neg c17] at H
               have c17b0 : decide ((wrap64 ((wrap64 (x21_2 - ((rd_T49 x8_2 (ji14)).f0))) - ((rd_T49 x8_2 (ji14)).f1))) ≤ a2) = false := decide_eq_false c17
               clear c17
               by_cases c25 : x8_2.length < 5864062014805
               ·rw [if_pos c25] at H
                have LMc25 := Aside0.mk c25
                clear c25
                obtain ⟨y317, hy317⟩ : ∃ y_ : List (S49), y_ = (x8_2 ++ [(⟨x21_2, 1, 1⟩ : S49)]) := ⟨_, rfl⟩
                replace H : (meter_Runs.l0 k2 l0 l1 a2 y317 (l0.length : Int) (wrap64 (x21_2 + 1))) = some (r1, r2) := by first | (rw [hy317]; with_reducible exact H) | (have H2_ := (Option.bind_some _ _).symm.trans H; rw [hy317]; with_reducible exact H2_) | (have H2_ := (Option.bind_some _ _).symm.trans H; with_reducible exact H2_) | with_reducible exact H | (rw [hy317]; exact H) | exact H
                have Ny317 := Aside0.mk hy317
                clear hy317
                have H' := Aside0.mk H
                clear H
                have p309 : 0 ≤ (x21_2 : Int) := of_decide_eq_true (by first | (with_reducible assumption) | assumption)
                have q309 : x21_2 < (l0.length : Int) := of_decide_eq_true (by first | (with_reducible assumption) | assumption)
                obtain ⟨ad309, e309, hx309_0⟩ := Kd.at_bool HR0.out x21_2 p309 q309
                cases e309
                replace hx309_0 := (HB.out.cell (World.block_lt_of_cell? w _ hx309_0)).trans hx309_0
                replace p309 := eq_true p309
                replace q309 := eq_true q309
                have p310 : 0 ≤ (x21_2 : Int) := of_decide_eq_true (by first | (with_reducible assumption) | assumption)
                have q310 : x21_2 < (l1.length : Int) := of_decide_eq_true (by first | (with_reducible assumption) | assumption)
                obtain ⟨ad310, e310, hx310_0⟩ := Kd.at_bool HR1.out x21_2 p310 q310
                cases e310
                replace hx310_0 := (HB.out.cell (World.block_lt_of_cell? w _ hx310_0)).trans hx310_0
                replace p310 := eq_true p310
                replace q310 := eq_true q310
                obtain ⟨Ao26, co26, eo26⟩ := Kd.R_slice HO_8.out
                subst eo26
                have p311 : 0 ≤ ((ji14) : Int) := of_decide_eq_true (by first | (with_reducible assumption) | assumption)
                have q311 : (ji14) < (x8_2.length : Int) := of_decide_eq_true (by first | (with_reducible assumption) | assumption)
                obtain ⟨ad311, e311, hx311_0, hx311_1, hx311_2⟩ := at_T49 (Kd.R_reads' HO_8.out).2.2 (ji14) p311 q311
                cases e311
                replace p311 := eq_true p311
                replace q311 := eq_true q311
                have p312 : 0 ≤ ((ji14) : Int) := of_decide_eq_true (by first | (with_reducible assumption) | assumption)
                have q312 : (ji14) < (x8_2.length : Int) := of_decide_eq_true (by first | (with_reducible assumption) | assumption)
                obtain ⟨ad312, e312, hx312_0, hx312_1, hx312_2⟩ := at_T49 (Kd.R_reads' HO_8.out).2.2 (ji14) p312 q312
                obtain rfl : ad311 = ad312 := (by injection e312)
                replace p312 := eq_true p312
                replace q312 := eq_true q312
                go_wp2_with (first | (with_reducible refine scope_ (fun _ _ _ h => h) ?_) | (with_reducible refine wp_label ?_; go_simp) | ((with_reducible refine gate_builtin (b := .append) (xs := #[.tmp 75, .tmp 78]) rfl ?_); at_builtin; refine Kd.R_append k49 (w0 := w) w.heap.size rfl (.tmp 75) (.tmp 78) 40 49 (.agg #[(.int .i64 0), (.int .i64 0), (.int .i64 0)]) 24 rfl Try.underlying40 info49 rfl (by decide) (by omega) (.slice (some ad311) x8_2.length co26) x8_2 (⟨x21_2, 1, 1⟩ : S49) [.int .i64 x21_2, .int .i64 1, .int .i64 1] (fun _ => True) (fun _ => False) rfl rfl ?aP (fun _ hk => hk.elim) ?aF ?aO ?aB ?aS ?aL ?_; (case aP => exact k49_mkM _ _ _ (⟨x21_2, 1, 1⟩ : S49)); (case aB => exact (by repeat (first | (with_reducible first | exact HB.out | apply below_alloc | apply pw_below_drewN | apply below_drew1) | exact HB.out))); (case aF => exact (fun _ _ => trivial)); (case aO => exact (by (with_reducible repeat (first | apply Kd.R_alloc | apply Kd.R_drewN | apply Kd.R_drew)); exact HO_8.out)); (case aS => exact (below_size (by repeat (first | (with_reducible first | exact HB.out | apply below_alloc | apply pw_below_drewN | apply below_drew1) | exact HB.out)))); (case aL => have := LMc25.out; omega); intro v318 w27 ho hb hg hat; rw [← Ny317.out] at ho; have n0_ := Aside0.mk (hb); have n1_ := Aside0.mk (ho); clear HB; clear HO_8; have HB := n0_; have HO319 := n1_; clear n0_ n1_; clear ho hb hg hat))
                repeat (go_quiet (first | ((with_reducible refine gate_builtin (b := .append) (xs := #[.tmp 75, .tmp 78]) rfl ?_); at_builtin; refine Kd.R_append k49 (w0 := w) w.heap.size rfl (.tmp 75) (.tmp 78) 40 49 (.agg #[(.int .i64 0), (.int .i64 0), (.int .i64 0)]) 24 rfl Try.underlying40 info49 rfl (by decide) (by omega) (.slice (some ad311) x8_2.length co26) x8_2 (⟨x21_2, 1, 1⟩ : S49) [.int .i64 x21_2, .int .i64 1, .int .i64 1] (fun _ => True) (fun _ => False) rfl rfl ?aP (fun _ hk => hk.elim) ?aF ?aO ?aB ?aS ?aL ?_; (case aP => exact k49_mkM _ _ _ (⟨x21_2, 1, 1⟩ : S49)); (case aB => exact (by repeat (first | (with_reducible first | exact HB.out | apply below_alloc | apply pw_below_drewN | apply below_drew1) | exact HB.out))); (case aF => exact (fun _ _ => trivial)); (case aO => exact (by (with_reducible repeat (first | apply Kd.R_alloc | apply Kd.R_drewN | apply Kd.R_drew)); exact HO_8.out)); (case aS => exact (below_size (by repeat (first | (with_reducible first | exact HB.out | apply below_alloc | apply pw_below_drewN | apply below_drew1) | exact HB.out)))); (case aL => have := LMc25.out; omega); intro v318 w27 ho hb hg hat; rw [← Ny317.out] at ho; have n0_ := Aside0.mk (hb); have n1_ := Aside0.mk (ho); clear HB; clear HO_8; have HB := n0_; have HO319 := n1_; clear n0_ n1_; clear ho hb hg hat)); try go_wp2_with (first | (with_reducible refine scope_ (fun _ _ _ h => h) ?_) | (with_reducible refine wp_label ?_; go_simp) | ((with_reducible refine gate_builtin (b := .append) (xs := #[.tmp 75, .tmp 78]) rfl ?_); at_builtin; refine Kd.R_append k49 (w0 := w) w.heap.size rfl (.tmp 75) (.tmp 78) 40 49 (.agg #[(.int .i64 0), (.int .i64 0), (.int .i64 0)]) 24 rfl Try.underlying40 info49 rfl (by decide) (by omega) (.slice (some ad311) x8_2.length co26) x8_2 (⟨x21_2, 1, 1⟩ : S49) [.int .i64 x21_2, .int .i64 1, .int .i64 1] (fun _ => True) (fun _ => False) rfl rfl ?aP (fun _ hk => hk.elim) ?aF ?aO ?aB ?aS ?aL ?_; (case aP => exact k49_mkM _ _ _ (⟨x21_2, 1, 1⟩ : S49)); (case aB => exact (by repeat (first | (with_reducible first | exact HB.out | apply below_alloc | apply pw_below_drewN | apply below_drew1) | exact HB.out))); (case aF => exact (fun _ _ => trivial)); (case aO => exact (by (with_reducible repeat (first | apply Kd.R_alloc | apply Kd.R_drewN | apply Kd.R_drew)); exact HO_8.out)); (case aS => exact (below_size (by repeat (first | (with_reducible first | exact HB.out | apply below_alloc | apply pw_below_drewN | apply below_drew1) | exact HB.out)))); (case aL => have := LMc25.out; omega); intro v318 w27 ho hb hg hat; rw [← Ny317.out] at ho; have n0_ := Aside0.mk (hb); have n1_ := Aside0.mk (ho); clear HB; clear HO_8; have HB := n0_; have HO319 := n1_; clear n0_ n1_; clear ho hb hg hat)))
                first | go_roundg k2 | (simp only [add_plain] at *; go_roundg k2)
                case measure => have := HJ3.out; have := HK2.out; omega
                case rel => exact ⟨(y317), (wrap64 (x21_2 + 1)), (by first | rfl | (simp; done) | (simp [*]; done)), H', ⟨by have := HJ3.out; have := HK2.out; omega⟩, ⟨by (with_reducible repeat (first | apply Kd.R_alloc | apply Kd.R_drewN | apply Kd.R_drew)); exact HO319.out⟩, ⟨by repeat (first | (with_reducible first | exact HB.out | apply below_alloc | apply pw_below_drewN | apply below_drew1) | exact HB.out)⟩⟩
               ·rw [if_neg c25] at H
                exact absurd H (by simp)
             ·rw [if_neg c16] at H
              exact absurd H (by simp)
            ·rw [if_neg c15] at H
             exact absurd H (by simp)
           ·rw [if_neg c13] at H
            have c13b0 : decide (0 ≤ (wrap64 ((x8_2.length : Int) - 1))) = false := decide_eq_false c13
            clear c13
            by_cases c28 : x8_2.length < 5864062014805
            ·rw [if_pos c28] at H
             have LMc28 := Aside0.mk c28
             clear c28
             obtain ⟨y320, hy320⟩ : ∃ y_ : List (S49), y_ = (x8_2 ++ [(⟨x21_2, 1, 1⟩ : S49)]) := ⟨_, rfl⟩
             replace H : (meter_Runs.l0 k2 l0 l1 a2 y320 (l0.length : Int) (wrap64 (x21_2 + 1))) = some (r1, r2) := by first | (rw [hy320]; with_reducible exact H) | (have H2_ := (Option.bind_some _ _).symm.trans H; rw [hy320]; with_reducible exact H2_) | (have H2_ := (Option.bind_some _ _).symm.trans H; with_reducible exact H2_) | with_reducible exact H | (rw [hy320]; exact H) | exact H
             have Ny320 := Aside0.mk hy320
             clear hy320
             have H' := Aside0.mk H
             clear H
             have p309 : 0 ≤ (x21_2 : Int) := of_decide_eq_true (by first | (with_reducible assumption) | assumption)
             have q309 : x21_2 < (l0.length : Int) := of_decide_eq_true (by first | (with_reducible assumption) | assumption)
             obtain ⟨ad309, e309, hx309_0⟩ := Kd.at_bool HR0.out x21_2 p309 q309
             cases e309
             replace hx309_0 := (HB.out.cell (World.block_lt_of_cell? w _ hx309_0)).trans hx309_0
             replace p309 := eq_true p309
             replace q309 := eq_true q309
             have p310 : 0 ≤ (x21_2 : Int) := of_decide_eq_true (by first | (with_reducible assumption) | assumption)
             have q310 : x21_2 < (l1.length : Int) := of_decide_eq_true (by first | (with_reducible assumption) | assumption)
             obtain ⟨ad310, e310, hx310_0⟩ := Kd.at_bool HR1.out x21_2 p310 q310
             cases e310
             replace hx310_0 := (HB.out.cell (World.block_lt_of_cell? w _ hx310_0)).trans hx310_0
             replace p310 := eq_true p310
             replace q310 := eq_true q310
             obtain ⟨Ao29, co29, eo29⟩ := Kd.R_slice HO_8.out
             subst eo29
             go_wp2_with (first | (with_reducible refine scope_ (fun _ _ _ h => h) ?_) | (with_reducible refine wp_label ?_; go_simp) | ((with_reducible refine gate_builtin (b := .append) (xs := #[.tmp 75, .tmp 78]) rfl ?_); at_builtin; refine Kd.R_append k49 (w0 := w) w.heap.size rfl (.tmp 75) (.tmp 78) 40 49 (.agg #[(.int .i64 0), (.int .i64 0), (.int .i64 0)]) 24 rfl Try.underlying40 info49 rfl (by decide) (by omega) (.slice Ao29 x8_2.length co29) x8_2 (⟨x21_2, 1, 1⟩ : S49) [.int .i64 x21_2, .int .i64 1, .int .i64 1] (fun _ => True) (fun _ => False) rfl rfl ?aP (fun _ hk => hk.elim) ?aF ?aO ?aB ?aS ?aL ?_; (case aP => exact k49_mkM _ _ _ (⟨x21_2, 1, 1⟩ : S49)); (case aB => exact (by repeat (first | (with_reducible first | exact HB.out | apply below_alloc | apply pw_below_drewN | apply below_drew1) | exact HB.out))); (case aF => exact (fun _ _ => trivial)); (case aO => exact (by (with_reducible repeat (first | apply Kd.R_alloc | apply Kd.R_drewN | apply Kd.R_drew)); exact HO_8.out)); (case aS => exact (below_size (by repeat (first | (with_reducible first | exact HB.out | apply below_alloc | apply pw_below_drewN | apply below_drew1) | exact HB.out)))); (case aL => have := LMc28.out; omega); intro v321 w30 ho hb hg hat; rw [← Ny320.out] at ho; have n0_ := Aside0.mk (hb); have n1_ := Aside0.mk (ho); clear HB; clear HO_8; have HB := n0_; have HO322 := n1_; clear n0_ n1_; clear ho hb hg hat))
             repeat (go_quiet (first | ((with_reducible refine gate_builtin (b := .append) (xs := #[.tmp 75, .tmp 78]) rfl ?_); at_builtin; refine Kd.R_append k49 (w0 := w) w.heap.size rfl (.tmp 75) (.tmp 78) 40 49 (.agg #[(.int .i64 0), (.int .i64 0), (.int .i64 0)]) 24 rfl Try.underlying40 info49 rfl (by decide) (by omega) (.slice Ao29 x8_2.length co29) x8_2 (⟨x21_2, 1, 1⟩ : S49) [.int .i64 x21_2, .int .i64 1, .int .i64 1] (fun _ => True) (fun _ => False) rfl rfl ?aP (fun _ hk => hk.elim) ?aF ?aO ?aB ?aS ?aL ?_; (case aP => exact k49_mkM _ _ _ (⟨x21_2, 1, 1⟩ : S49)); (case aB => exact (by repeat (first | (with_reducible first | exact HB.out | apply below_alloc | apply pw_below_drewN | apply below_drew1) | exact HB.out))); (case aF => exact (fun _ _ => trivial)); (case aO => exact (by (with_reducible repeat (first | apply Kd.R_alloc | apply Kd.R_drewN | apply Kd.R_drew)); exact HO_8.out)); (case aS => exact (below_size (by repeat (first | (with_reducible first | exact HB.out | apply below_alloc | apply pw_below_drewN | apply below_drew1) | exact HB.out)))); (case aL => have := LMc28.out; omega); intro v321 w30 ho hb hg hat; rw [← Ny320.out] at ho; have n0_ := Aside0.mk (hb); have n1_ := Aside0.mk (ho); clear HB; clear HO_8; have HB := n0_; have HO322 := n1_; clear n0_ n1_; clear ho hb hg hat)); try go_wp2_with (first | (with_reducible refine scope_ (fun _ _ _ h => h) ?_) | (with_reducible refine wp_label ?_; go_simp) | ((with_reducible refine gate_builtin (b := .append) (xs := #[.tmp 75, .tmp 78]) rfl ?_); at_builtin; refine Kd.R_append k49 (w0 := w) w.heap.size rfl (.tmp 75) (.tmp 78) 40 49 (.agg #[(.int .i64 0), (.int .i64 0), (.int .i64 0)]) 24 rfl Try.underlying40 info49 rfl (by decide) (by omega) (.slice Ao29 x8_2.length co29) x8_2 (⟨x21_2, 1, 1⟩ : S49) [.int .i64 x21_2, .int .i64 1, .int .i64 1] (fun _ => True) (fun _ => False) rfl rfl ?aP (fun _ hk => hk.elim) ?aF ?aO ?aB ?aS ?aL ?_; (case aP => exact k49_mkM _ _ _ (⟨x21_2, 1, 1⟩ : S49)); (case aB => exact (by repeat (first | (with_reducible first | exact HB.out | apply below_alloc | apply pw_below_drewN | apply below_drew1) | exact HB.out))); (case aF => exact (fun _ _ => trivial)); (case aO => exact (by (with_reducible repeat (first | apply Kd.R_alloc | apply Kd.R_drewN | apply Kd.R_drew)); exact HO_8.out)); (case aS => exact (below_size (by repeat (first | (with_reducible first | exact HB.out | apply below_alloc | apply pw_below_drewN | apply below_drew1) | exact HB.out)))); (case aL => have := LMc28.out; omega); intro v321 w30 ho hb hg hat; rw [← Ny320.out] at ho; have n0_ := Aside0.mk (hb); have n1_ := Aside0.mk (ho); clear HB; clear HO_8; have HB := n0_; have HO322 := n1_; clear n0_ n1_; clear ho hb hg hat)))
             first | go_roundg k2 | (simp only [add_plain] at *; go_roundg k2)
             case measure => have := HJ3.out; have := HK2.out; omega
             case rel => exact ⟨(y320), (wrap64 (x21_2 + 1)), (by first | rfl | (simp; done) | (simp [*]; done)), H', ⟨by have := HJ3.out; have := HK2.out; omega⟩, ⟨by (with_reducible repeat (first | apply Kd.R_alloc | apply Kd.R_drewN | apply Kd.R_drew)); exact HO322.out⟩, ⟨by repeat (first | (with_reducible first | exact HB.out | apply below_alloc | apply pw_below_drewN | apply below_drew1) | exact HB.out)⟩⟩
            ·rw [if_neg c28] at H
             exact absurd H (by simp)
         ·rw [if_neg c11] at H
          exact absurd H (by simp)
        ·rw [if_neg c10] at H
         exact absurd H (by simp)
       ·rw [if_neg c9] at H
        exact absurd H (by simp)
      ·rw [if_neg c8] at H
       have c8b0 : decide (x21_2 < (l0.length : Int)) = false := decide_eq_false c8
       clear c8
       simp only [Option.some.injEq, Prod.mk.injEq] at H
       obtain ⟨rfl, rfl⟩ := H
       go_wp2_with (first | (with_reducible refine scope_ (fun _ _ _ h => h) ?_) | (with_reducible refine wp_label ?_; go_simp))
       repeat (go_quiet (fail); try go_wp2_with (first | (with_reducible refine scope_ (fun _ _ _ h => h) ?_) | (with_reducible refine wp_label ?_; go_simp)))
       go_ret2
       exact ⟨_, by first | rfl | (simp [errW_none, errW_some] <;> rfl) | (simp [*, errW_none, errW_some] <;> rfl), by (with_reducible repeat (first | apply Kd.R_alloc | apply Kd.R_drewN | apply Kd.R_drew)); exact HO_8.out, by repeat (first | (with_reducible first | exact HB.out | apply below_alloc | apply pw_below_drewN | apply below_drew1) | exact HB.out)⟩

/-! ### math_Floor: function 146 -/
set_option maxHeartbeats 8000000 in
set_option maxRecDepth 100000 in
theorem math_Floor.calls (a0 : Nat) (r : Nat) (w : World) (h : math_Floor.f a0 = some r) :
  Calls Try.prog 146 #[.float .f64 a0] w fun e w' => e = .returned (.float .f64 r) ∧ Drawn0 w w' := by
 have H : ((integF .down a0).bind fun t183 => (some t183)) = some r := h
 clear h
 replace H := Option.bind_eq_some_iff.mp H
 obtain ⟨t183, A20, H⟩ := H
 replace H : (some t183) = some r := H
 have A2 := Aside0.mk A20
 clear A20
 obtain rfl := Option.some.inj H
 have hfoA2_ := ext163 a0 t183 A2.out
 go_enter Try.func146, Try.ntmps146
 go_wp2
 go_ret
 exact ⟨by first | rfl | (simp; done) | (simp [*]; done), by repeat (first | exact Drawn0.refl _ | apply Drawn0.step)⟩

/-! ### grid_within: function 145 -/
set_option maxHeartbeats 8000000 in
set_option maxRecDepth 100000 in
theorem grid_within.calls (a0 : Nat) (r : Bool) (w : World) (h : grid_within.f a0 = some r) :
  Calls Try.prog 145 #[.float .f64 a0] w fun e w' => e = .returned (.bool r) ∧ Drawn0 w w' := by
 have H : (if (FloatKind.f64.format.order a0 13875590451928498176 == some .gt || FloatKind.f64.format.order a0 13875590451928498176 == some .eq) = true then (some (FloatKind.f64.format.order a0 4652218415073722368 == some .lt || FloatKind.f64.format.order a0 4652218415073722368 == some .eq)) else (some false)) = some r := h
 clear h
 by_cases c2 : (FloatKind.f64.format.order a0 13875590451928498176 == some .gt || FloatKind.f64.format.order a0 13875590451928498176 == some .eq) = true
 ·rw [if_pos c2] at H
  have c2b0 : (FloatKind.f64.format.order a0 13875590451928498176 == some .gt || FloatKind.f64.format.order a0 13875590451928498176 == some .eq) = true := c2
  (try (have c2b1 : decide (FloatKind.f64.format.order a0 13875590451928498176 = some .gt || FloatKind.f64.format.order a0 13875590451928498176 == some .eq) = true := by simpa using c2))
  (try (have c2b2 : (FloatKind.f64.format.order a0 13875590451928498176 == some .gt || FloatKind.f64.format.order a0 13875590451928498176 == some .eq) = true := by simpa using c2))
  clear c2
  obtain rfl := Option.some.inj H
  go_enter Try.func145, Try.ntmps145
  go_wp2
  go_ret
  exact ⟨by first | rfl | (simp; done) | (simp [*]; done), by repeat (first | exact Drawn0.refl _ | apply Drawn0.step)⟩
 ·rw [if_neg c2] at H
  have c2b0 : (FloatKind.f64.format.order a0 13875590451928498176 == some .gt || FloatKind.f64.format.order a0 13875590451928498176 == some .eq) = false := by simpa using c2
  (try (have c2b1 : decide (FloatKind.f64.format.order a0 13875590451928498176 = some .gt || FloatKind.f64.format.order a0 13875590451928498176 == some .eq) = false := by simpa using c2))
  (try (have c2b2 : (FloatKind.f64.format.order a0 13875590451928498176 == some .gt || FloatKind.f64.format.order a0 13875590451928498176 == some .eq) = false := by simpa using c2))
  (try (have c2b3 : ¬ (FloatKind.f64.format.order a0 13875590451928498176 = some .gt || FloatKind.f64.format.order a0 13875590451928498176 == some .eq) := by simpa using c2))
  clear c2
  obtain rfl := Option.some.inj H
  go_enter Try.func145, Try.ntmps145
  go_wp2
  go_ret
  exact ⟨by first | rfl | (simp; done) | (simp [*]; done), by repeat (first | exact Drawn0.refl _ | apply Drawn0.step)⟩

/-! ### grid_On: function 106 -/
set_option maxHeartbeats 8000000 in
set_option maxRecDepth 100000 in
theorem grid_On.calls (a0 : Nat) (r : Bool) (w : World) (h : grid_On.f a0 = some r) :
  Calls Try.prog 106 #[.float .f64 a0] w fun e w' => e = .returned (.bool r) ∧ Drawn0 w w' := by
 have H : ((grid_within.f a0).bind fun t194 => (if t194 = true then ((floatBits .mul .f64 a0 4661225614328463360).bind fun t195 => ((math_Floor.f t195).bind fun t196 => (some (FloatKind.f64.format.order t196 t195 == some .eq)))) else (some false))) = some r := h
 clear h
 replace H := Option.bind_eq_some_iff.mp H
 obtain ⟨t194, A20, H⟩ := H
 replace H : (if t194 = true then ((floatBits .mul .f64 a0 4661225614328463360).bind fun t195 => ((math_Floor.f t195).bind fun t196 => (some (FloatKind.f64.format.order t196 t195 == some .eq)))) else (some false)) = some r := H
 have A2 := Aside0.mk A20
 clear A20
 by_cases c3 : t194 = true
 ·subst c3
  have H1 : ((floatBits .mul .f64 a0 4661225614328463360).bind fun t195 => ((math_Floor.f t195).bind fun t196 => (some (FloatKind.f64.format.order t196 t195 == some .eq)))) = some r := by rw [if_pos rfl] at H; exact H
  clear H
  have H := H1
  clear H1
  replace H := Option.bind_eq_some_iff.mp H
  obtain ⟨t195, A40, H⟩ := H
  replace H : ((math_Floor.f t195).bind fun t196 => (some (FloatKind.f64.format.order t196 t195 == some .eq))) = some r := H
  have A4 := Aside0.mk A40
  clear A40
  replace H := Option.bind_eq_some_iff.mp H
  obtain ⟨t196, A50, H⟩ := H
  replace H : (some (FloatKind.f64.format.order t196 t195 == some .eq)) = some r := H
  have A5 := Aside0.mk A50
  clear A50
  obtain rfl := Option.some.inj H
  go_enter Try.func106, Try.ntmps106
  go_wp2_with (first | ((with_reducible refine gate_callee (f := 145) rfl ?_); refine goesL_ (some 4) rfl rfl Try.func145 (by kernel_rfl) rfl #[.float .f64 a0] rfl (by (try simp only [List.map_toArray, List.map_cons, List.map_nil]); first | done | rfl | (simp only [List.length_drop, List.length_take]; rfl)) ?_; (with_reducible refine (grid_within.calls a0 true _ A2.out).mono ?_); rintro e w' ⟨rfl, ⟨nd, rfl⟩⟩; refine ⟨_, rfl, ?_⟩; have hfoA4_ := fun (t_ : TypeId) (w_ : World) => run_float_arith (P := Try.prog) w_ .mul t_ .f64 a0 4661225614328463360 t195 A4.out) | (go_at_call 146; (with_reducible refine (math_Floor.calls t195 t196 _ A5.out).mono ?_); rintro e w' ⟨rfl, ⟨nd, rfl⟩⟩))
  go_ret
  exact ⟨by first | rfl | (simp; done) | (simp [*]; done), by repeat (first | exact Drawn0.refl _ | apply Drawn0.step)⟩
 ·replace c3 := Bool.eq_false_iff.mpr c3
  subst c3
  have H1 : (some false) = some r := by rw [if_neg (show ¬ (false = true) by decide)] at H; exact H
  clear H
  have H := H1
  clear H1
  obtain rfl := Option.some.inj H
  go_enter Try.func106, Try.ntmps106
  go_wp2_with (first | ((with_reducible refine gate_callee (f := 145) rfl ?_); refine goesL_ (some 4) rfl rfl Try.func145 (by kernel_rfl) rfl #[.float .f64 a0] rfl (by (try simp only [List.map_toArray, List.map_cons, List.map_nil]); first | done | rfl | (simp only [List.length_drop, List.length_take]; rfl)) ?_; (with_reducible refine (grid_within.calls a0 false _ A2.out).mono ?_); rintro e w' ⟨rfl, ⟨nd, rfl⟩⟩; refine ⟨_, rfl, ?_⟩))
  go_ret
  exact ⟨by first | rfl | (simp; done) | (simp [*]; done), by repeat (first | exact Drawn0.refl _ | apply Drawn0.step)⟩

/-! ### bits_Ungray: function 169 -/
set_option maxHeartbeats 8000000 in
set_option maxRecDepth 100000 in
theorem bits_Ungray.calls (k : Nat) (a0 : Int) (r1 : Int) (r2 : Int) (w : World) (h : bits_Ungray.f k a0 = some (r1, r2)) :
  Calls Try.prog 169 #[.int .i64 a0] w fun e w' => e = .returned (.tuple #[.int .i64 r1, .int .i64 r2]) ∧ Drawn0 w w' := by
 have H : (if a0 < 0 then (bits_Ungray.j0 k a0 true) else (bits_Ungray.j0 k a0 (decide (a0 ≥ 65536)))) = some (r1, r2) := h
 clear h
 have HC2 := Aside0.mk H
 clear H
 go_enter Try.func169, Try.ntmps169
 go_upto_region 1 with (fail)
 go_cut [10] (fun v10 wc => ∃ (kq : Nat) (x10_1 : Bool), v10 = .bool x10_1 ∧ Aside0 (bits_Ungray.j0 kq a0 x10_1 = some (r1, r2)) ∧ Aside0 (kq ≤ k) ∧ Drawn0 w wc)
 case first =>
  have H := HC2.out
  clear HC2
  by_cases c3 : a0 < 0
  ·rw [if_pos c3] at H
   have c3b0 : decide (a0 < 0) = true := decide_eq_true c3
   clear c3
   (first | rw [c3b0] | (simp only [i64_w, i32_w]; rw [c3b0]) | skip)
   have H' := Aside0.mk H
   clear H
   go_wp2
   go_meet
   case rel => exact ⟨_, (true), (by first | rfl | (simp; done) | (simp [*]; done)), H', ⟨by first | omega | exact Nat.le_refl _⟩, by repeat (first | exact Drawn0.refl _ | apply Drawn0.step)⟩
  ·rw [if_neg c3] at H
   have c3b0 : decide (a0 < 0) = false := decide_eq_false c3
   clear c3
   (first | rw [c3b0] | (simp only [i64_w, i32_w]; rw [c3b0]) | skip)
   have H' := Aside0.mk H
   clear H
   go_wp2
   go_meet
   case rel => exact ⟨_, (decide (a0 ≥ 65536)), (by first | rfl | (simp; done) | (simp [*]; done)), H', ⟨by first | omega | exact Nat.le_refl _⟩, by repeat (first | exact Drawn0.refl _ | apply Drawn0.step)⟩
 case rest =>
  clear HC2
  try clear c1
  try clear p2
  try clear c3
  try clear c3b0
  obtain ⟨kq, x10_1, rfl, HA, HJ1, ⟨mc1, rfl⟩⟩ := hcut
  cases kq with
  | zero => exact absurd HA.out (by simp [bits_Ungray.j0])
  | succ kj1 =>
   have H := HA.out
   clear HA
   simp only [bits_Ungray.j0] at H
   by_cases c4 : x10_1 = true
   ·subst c4
    have H1 : (some (0, 1)) = some (r1, r2) := by rw [if_pos rfl] at H; exact H
    clear H
    have H := H1
    clear H1
    simp only [Option.some.injEq, Prod.mk.injEq] at H
    obtain ⟨rfl, rfl⟩ := H
    go_wp2
    go_ret2
    exact ⟨by first | rfl | (simp; done) | (simp [*]; done), by repeat (first | exact Drawn0.refl _ | apply Drawn0.step)⟩
   ·replace c4 := Bool.eq_false_iff.mpr c4
    subst c4
    have H1 : (bits_Ungray.l0 kj1 a0 1) = some (r1, r2) := by rw [if_neg (show ¬ (false = true) by decide)] at H; exact H
    clear H
    have H := H1
    clear H1
    have H' := Aside0.mk H
    clear H
    go_wp2
    go_loopg [0, 4] kj1 (fun kq v0 v4 w' => ∃ (x0_2 : Int) (x4_2 : Int), v0 = .int .i64 x0_2 ∧ v4 = .int .i64 x4_2 ∧ Aside0 (bits_Ungray.l0 kq x0_2 x4_2 = some (r1, r2)) ∧ Aside0 (kq ≤ kj1) ∧ Drawn0 w w')
    case atStart => exact ⟨(a0), (1), (by first | rfl | (simp; done) | (simp [*]; done)), (by first | rfl | (simp; done) | (simp [*]; done)), H', ⟨Nat.le_refl _⟩, by repeat (first | exact Drawn0.refl _ | apply Drawn0.step)⟩
    case round =>
     clear H'
     try clear c1
     try clear p2
     try clear c3
     try clear c3b0
     try clear c4
     try clear p2
     obtain ⟨x0_2, x4_2, rfl, rfl, HA, HK2, ⟨m2, rfl⟩⟩ := hrel
     cases gk with
     | zero => exact absurd HA.out (by simp [bits_Ungray.l0])
     | succ k2 =>
      have H := HA.out
      clear HA
      simp only [bits_Ungray.l0] at H
      by_cases c5 : x4_2 < 16
      ·rw [if_pos c5] at H
       have c5b0 : decide (x4_2 < 16) = true := decide_eq_true c5
       clear c5
       by_cases c6 : 0 ≤ x4_2
       ·rw [if_pos c6] at H
        have c6b0 := eq_true c6
        have c6b1 : decide (0 ≤ x4_2) = true := decide_eq_true c6
        clear c6
        obtain ⟨ji7, hji7⟩ : ∃ j_ : Int, (shr .i64 x0_2 x4_2) = j_ := ⟨_, rfl⟩
        replace H : (bits_Ungray.l0 k2 (Go.bits .xor .i64 x0_2 (ji7)) (wrap64 (x4_2 * 2))) = some (r1, r2) := by first | (rw [hji7] at H; exact H) | (simp only [hji7] at H ⊢; exact H)
        have hji7_ : (x0_2 / 2 ^ min x4_2.toNat 64) = ji7 := hji7
        have hji7z : x4_2 ≤ 64 → (x0_2 / 2 ^ x4_2.toNat) = ji7 := shr_small hji7
        have H' := Aside0.mk H
        clear H
        go_wp2
        first | go_roundg k2 | (simp only [add_plain] at *; go_roundg k2)
        case measure => have := HJ1.out; have := HK2.out; omega
        case rel => exact ⟨(Go.bits .xor .i64 x0_2 (ji7)), (wrap64 (x4_2 * 2)), (by first | rfl | (simp; done) | (simp only [← hji7] <;> (first | rfl | simp)) | (simp [*]; done)), (by first | rfl | (simp; done) | (simp [*]; done)), H', ⟨by have := HJ1.out; have := HK2.out; omega⟩, by repeat (first | exact Drawn0.refl _ | apply Drawn0.step)⟩
       ·rw [if_neg c6] at H
        exact absurd H (by simp)
      ·rw [if_neg c5] at H
       have c5b0 : decide (x4_2 < 16) = false := decide_eq_false c5
       clear c5
       simp only [Option.some.injEq, Prod.mk.injEq] at H
       obtain ⟨rfl, rfl⟩ := H
       go_wp2
       go_ret2
       exact ⟨by first | rfl | (simp; done) | (simp [*]; done), by repeat (first | exact Drawn0.refl _ | apply Drawn0.step)⟩

end Go.Proofs.Ythfcafllcgjepaa.Q
