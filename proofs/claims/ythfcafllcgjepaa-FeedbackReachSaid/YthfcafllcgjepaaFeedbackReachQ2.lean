import Derived.Test.YthfcafllcgjepaaFeedbackReachK0
import Derived.Test.YthfcafllcgjepaaFeedbackReachF1
import Derived.Test.YthfcafllcgjepaaFeedbackReachQ0
import Derived.Test.YthfcafllcgjepaaFeedbackReachQ1
-- Printed by myprint.py (ours) over the kit's printer, out of the translation.
namespace Go.Proofs.Ythfcafllcgjepaa.Q
open Go.RowKit Go.Proofs.YthfcafllcgjepaaW.PrintWords Go.Proofs.YthfcafllcgjepaaW.PrintLast Go.Proofs.YthfcafllcgjepaaW.PrintMore
attribute [local go_sem] ArrW.ptrOf_slice unary_neg_float unary_neg_complex run_store_float run_store_complex max2_int min2_int max_two min_two max_three min_three max_four min_four   -- for this text's walks alone
set_option linter.unusedVariables false
set_option linter.unusedSimpArgs false
set_option maxHeartbeats 8000000 in
set_option maxRecDepth 100000 in
theorem slice_Axis.calls (k : Nat) (a0 : Nat) (a1 : Int) (r1 : Int) (r2 : Int) (w : World) (h : slice_Axis.f k a0 a1 = some (r1, r2)) :
  Calls Try.prog 47 #[.float .f64 a0, .int .i64 a1] w fun e w' => e = .returned (.tuple #[.int .i64 r1, .int .i64 r2]) ∧ Below w.heap.size w w' := by
 have HB := Aside0.mk (Below.refl w.heap.size w)
 have H : (if a1 < 1 then (slice_Axis.j0 k a0 a1 true) else (if a1 > 15 then (slice_Axis.j0 k a0 a1 true) else (if (Int.tmod a1 2) = 0 then (slice_Axis.j0 k a0 a1 true) else ((math_IsNaN.f a0).bind fun t488 => (slice_Axis.j0 k a0 a1 t488))))) = some (r1, r2) := h
 clear h
 have HC3 := Aside0.mk H
 clear H
 go_enter Try.func47, Try.ntmps47
 go_upto_region 1 with (fail)
 go_cut [21] (fun v21 wc => ∃ (kq : Nat) (x21_2 : Bool), v21 = .bool x21_2 ∧ Aside0 (slice_Axis.j0 kq a0 a1 x21_2 = some (r1, r2)) ∧ Aside0 (kq ≤ k) ∧ Aside0 (Below w.heap.size w wc))
 case first =>
  have H := HC3.out
  clear HC3
  by_cases c4 : a1 < 1
  ·rw [if_pos c4] at H
   have c4b0 : decide (a1 < 1) = true := decide_eq_true c4
   clear c4
   (first | rw [c4b0] | (simp only [i64_w, i32_w]; rw [c4b0]) | skip)
   have H' := Aside0.mk H
   clear H
   go_wp2
   go_meet
   case rel => exact ⟨_, (true), (by first | rfl | (simp; done) | (simp [*]; done)), H', ⟨by first | omega | exact Nat.le_refl _⟩, ⟨by repeat (first | (with_reducible first | exact HB.out | apply below_alloc | apply pw_below_drewN | apply below_drew1) | exact HB.out)⟩⟩
  ·rw [if_neg c4] at H
   have c4b0 : decide (a1 < 1) = false := decide_eq_false c4
   clear c4
   (first | rw [c4b0] | (simp only [i64_w, i32_w]; rw [c4b0]) | skip)
   by_cases c5 : a1 > 15
   ·rw [if_pos c5] at H
    have c5b0 : decide (15 < a1) = true := decide_eq_true c5
    clear c5
    have H' := Aside0.mk H
    clear H
    go_wp2
    go_meet
    case rel => exact ⟨_, (true), (by first | rfl | (simp; done) | (simp [*]; done)), H', ⟨by first | omega | exact Nat.le_refl _⟩, ⟨by repeat (first | (with_reducible first | exact HB.out | apply below_alloc | apply pw_below_drewN | apply below_drew1) | exact HB.out)⟩⟩
   ·rw [if_neg c5] at H
    have c5b0 : decide (15 < a1) = false := decide_eq_false c5
    clear c5
    by_cases c6 : (Int.tmod a1 2) = 0
    ·rw [if_pos c6] at H
     have c6b0 : ((Int.tmod a1 2) == 0) = true := beq_iff_eq.mpr c6
     have c6b1 : ((Int.tmod a1 2) != 0) = false := bne_eq_false_iff_eq.mpr c6
     clear c6
     have H' := Aside0.mk H
     clear H
     go_wp2
     go_meet
     case rel => exact ⟨_, (true), (by first | rfl | (simp; done) | (simp [*]; done)), H', ⟨by first | omega | exact Nat.le_refl _⟩, ⟨by repeat (first | (with_reducible first | exact HB.out | apply below_alloc | apply pw_below_drewN | apply below_drew1) | exact HB.out)⟩⟩
    ·rw [if_neg c6] at H
     have c6b0 : ((Int.tmod a1 2) == 0) = false := beq_eq_false_iff_ne.mpr c6
     have c6b1 : ((Int.tmod a1 2) != 0) = true := bne_iff_ne.mpr c6
     replace H := Option.bind_eq_some_iff.mp H
     obtain ⟨t488, A70, H⟩ := H
     replace H : (slice_Axis.j0 k a0 a1 t488) = some (r1, r2) := H
     have A7 := Aside0.mk A70
     clear A70
     have H' := Aside0.mk H
     clear H
     go_wp2_with (go_at_call 113; (with_reducible refine (math_IsNaN.calls a0 t488 _ A7.out).mono ?_); rintro e w' ⟨rfl, ⟨nd, rfl⟩⟩)
     go_meet
     case rel => exact ⟨_, (t488), (by first | rfl | (simp; done) | (simp [*]; done)), H', ⟨by first | omega | exact Nat.le_refl _⟩, ⟨by repeat (first | (with_reducible first | exact HB.out | apply below_alloc | apply pw_below_drewN | apply below_drew1) | exact HB.out)⟩⟩
 case rest =>
  clear HC3
  try clear p2
  try clear c4
  try clear c4b0
  try clear c5
  try clear c5b0
  try clear c6
  try clear c6b0
  try clear c6b1
  obtain ⟨kq, x21_2, rfl, HA, HJ2, HB⟩ := hcut
  cases kq with
  | zero => exact absurd HA.out (by simp [slice_Axis.j0])
  | succ kj2 =>
   have H := HA.out
   clear HA
   simp only [slice_Axis.j0] at H
   by_cases c8 : x21_2 = true
   ·subst c8
    have H1 : (some (0, 1)) = some (r1, r2) := by rw [if_pos rfl] at H; exact H
    clear H
    have H := H1
    clear H1
    simp only [Option.some.injEq, Prod.mk.injEq] at H
    obtain ⟨rfl, rfl⟩ := H
    go_wp2
    go_ret2
    exact ⟨by first | rfl | (simp [errW_none, errW_some] <;> rfl) | (simp [*, errW_none, errW_some] <;> rfl), by repeat (first | (with_reducible first | exact HB.out | apply below_alloc | apply pw_below_drewN | apply below_drew1) | exact HB.out)⟩
   ·replace c8 := Bool.eq_false_iff.mpr c8
    subst c8
    have H1 : ((math_Min.f a0 (floatOfInt .f64 a1)).bind fun t489 => ((math_Max.f (Op.negFloat .f64 (floatOfInt .f64 a1)) t489).bind fun t490 => ((math_Ceil.f t490).bind fun t491 => ((floatToIntVal .f64 t491 .i64).bind fun t492 => (if (Int.tmod t492 2) = 0 then (some (mx (wrap64 (t492 - 1)) (wrap64 (-a1)), 0)) else (some (mx t492 (wrap64 (-a1)), 0))))))) = some (r1, r2) := by rw [if_neg (show ¬ (false = true) by decide)] at H; exact H
    clear H
    have H := H1
    clear H1
    replace H := Option.bind_eq_some_iff.mp H
    obtain ⟨t489, A90, H⟩ := H
    replace H : ((math_Max.f (Op.negFloat .f64 (floatOfInt .f64 a1)) t489).bind fun t490 => ((math_Ceil.f t490).bind fun t491 => ((floatToIntVal .f64 t491 .i64).bind fun t492 => (if (Int.tmod t492 2) = 0 then (some (mx (wrap64 (t492 - 1)) (wrap64 (-a1)), 0)) else (some (mx t492 (wrap64 (-a1)), 0)))))) = some (r1, r2) := H
    have A9 := Aside0.mk A90
    clear A90
    replace H := Option.bind_eq_some_iff.mp H
    obtain ⟨t490, A100, H⟩ := H
    replace H : ((math_Ceil.f t490).bind fun t491 => ((floatToIntVal .f64 t491 .i64).bind fun t492 => (if (Int.tmod t492 2) = 0 then (some (mx (wrap64 (t492 - 1)) (wrap64 (-a1)), 0)) else (some (mx t492 (wrap64 (-a1)), 0))))) = some (r1, r2) := H
    have A10 := Aside0.mk A100
    clear A100
    replace H := Option.bind_eq_some_iff.mp H
    obtain ⟨t491, A110, H⟩ := H
    replace H : ((floatToIntVal .f64 t491 .i64).bind fun t492 => (if (Int.tmod t492 2) = 0 then (some (mx (wrap64 (t492 - 1)) (wrap64 (-a1)), 0)) else (some (mx t492 (wrap64 (-a1)), 0)))) = some (r1, r2) := H
    have A11 := Aside0.mk A110
    clear A110
    replace H := Option.bind_eq_some_iff.mp H
    obtain ⟨t492, A120, H⟩ := H
    replace H : (if (Int.tmod t492 2) = 0 then (some (mx (wrap64 (t492 - 1)) (wrap64 (-a1)), 0)) else (some (mx t492 (wrap64 (-a1)), 0))) = some (r1, r2) := H
    have A12 := Aside0.mk A120
    clear A120
    by_cases c13 : (Int.tmod t492 2) = 0
    ·rw [if_pos c13] at H
     have c13b0 : ((Int.tmod t492 2) == 0) = true := beq_iff_eq.mpr c13
     have c13b1 : ((Int.tmod t492 2) != 0) = false := bne_eq_false_iff_eq.mpr c13
     clear c13
     obtain ⟨ji14, hji14⟩ : ∃ j_ : Int, (mx (wrap64 (t492 - 1)) (wrap64 (-a1))) = j_ := ⟨_, rfl⟩
     replace H : (some (ji14, 0)) = some (r1, r2) := by first | (rw [hji14] at H; exact H) | (simp only [hji14] at H ⊢; exact H)
     (try rw [hji14] at A9)
     (try rw [hji14] at A10)
     (try rw [hji14] at A11)
     have hji14_ : (if (wrap64 (t492 - 1)) < (wrap64 (-a1)) then (wrap64 (-a1)) else (wrap64 (t492 - 1))) = ji14 := hji14
     simp only [Option.some.injEq, Prod.mk.injEq] at H
     obtain ⟨rfl, rfl⟩ := H
     go_wp2_with (first | ((with_reducible refine gate_callee (f := 115) rfl ?_); refine goesL_ (some 28) rfl rfl Try.func115 (by kernel_rfl) rfl #[.float .f64 a0, .float .f64 (floatOfInt .f64 a1)] rfl (by (try simp only [List.map_toArray, List.map_cons, List.map_nil]); first | done | rfl | (simp only [List.length_drop, List.length_take]; rfl)) ?_; (with_reducible refine (math_Min.calls a0 (floatOfInt .f64 a1) t489 _ A9.out).mono ?_); rintro e w' ⟨rfl, ⟨nd, rfl⟩⟩; refine ⟨_, rfl, ?_⟩) | ((with_reducible refine gate_callee (f := 114) rfl ?_); refine goesL_ (some 29) rfl rfl Try.func114 (by kernel_rfl) rfl #[.float .f64 (Op.negFloat .f64 (floatOfInt .f64 a1)), .float .f64 t489] rfl (by (try simp only [List.map_toArray, List.map_cons, List.map_nil]); first | done | rfl | (simp only [List.length_drop, List.length_take]; rfl)) ?_; (with_reducible refine (math_Max.calls (Op.negFloat .f64 (floatOfInt .f64 a1)) t489 t490 _ A10.out).mono ?_); rintro e w' ⟨rfl, ⟨nd, rfl⟩⟩; refine ⟨_, rfl, ?_⟩) | ((with_reducible refine gate_callee (f := 116) rfl ?_); refine goesL_ (some 31) rfl rfl Try.func116 (by kernel_rfl) rfl #[.float .f64 t490] rfl (by (try simp only [List.map_toArray, List.map_cons, List.map_nil]); first | done | rfl | (simp only [List.length_drop, List.length_take]; rfl)) ?_; (with_reducible refine (math_Ceil.calls t490 t491 _ A11.out).mono ?_); rintro e w' ⟨rfl, ⟨nd, rfl⟩⟩; refine ⟨_, rfl, ?_⟩; have hfoA12_ := fun (w_ : World) => run_convert_float_int (P := Try.prog) w_ 34 3 .f64 .i64 t491 t492 (by rw [Try.underlying34]; rfl) Try.underlying3 A12.out))
     go_ret2
     exact ⟨by first | rfl | (simp [errW_none, errW_some] <;> rfl) | (simp only [← hji14]; first | rfl | (simp [errW_none, errW_some] <;> rfl)) | (simp [*, errW_none, errW_some] <;> rfl), by repeat (first | (with_reducible first | exact HB.out | apply below_alloc | apply pw_below_drewN | apply below_drew1) | exact HB.out)⟩
    ·rw [if_neg c13] at H
     have c13b0 : ((Int.tmod t492 2) == 0) = false := beq_eq_false_iff_ne.mpr c13
     have c13b1 : ((Int.tmod t492 2) != 0) = true := bne_iff_ne.mpr c13
     obtain ⟨ji15, hji15⟩ : ∃ j_ : Int, (mx t492 (wrap64 (-a1))) = j_ := ⟨_, rfl⟩
     replace H : (some (ji15, 0)) = some (r1, r2) := by first | (rw [hji15] at H; exact H) | (simp only [hji15] at H ⊢; exact H)
     (try rw [hji15] at A9)
     (try rw [hji15] at A10)
     (try rw [hji15] at A11)
     have hji15_ : (if t492 < (wrap64 (-a1)) then (wrap64 (-a1)) else t492) = ji15 := hji15
     simp only [Option.some.injEq, Prod.mk.injEq] at H
     obtain ⟨rfl, rfl⟩ := H
     go_wp2_with (first | ((with_reducible refine gate_callee (f := 115) rfl ?_); refine goesL_ (some 28) rfl rfl Try.func115 (by kernel_rfl) rfl #[.float .f64 a0, .float .f64 (floatOfInt .f64 a1)] rfl (by (try simp only [List.map_toArray, List.map_cons, List.map_nil]); first | done | rfl | (simp only [List.length_drop, List.length_take]; rfl)) ?_; (with_reducible refine (math_Min.calls a0 (floatOfInt .f64 a1) t489 _ A9.out).mono ?_); rintro e w' ⟨rfl, ⟨nd, rfl⟩⟩; refine ⟨_, rfl, ?_⟩) | ((with_reducible refine gate_callee (f := 114) rfl ?_); refine goesL_ (some 29) rfl rfl Try.func114 (by kernel_rfl) rfl #[.float .f64 (Op.negFloat .f64 (floatOfInt .f64 a1)), .float .f64 t489] rfl (by (try simp only [List.map_toArray, List.map_cons, List.map_nil]); first | done | rfl | (simp only [List.length_drop, List.length_take]; rfl)) ?_; (with_reducible refine (math_Max.calls (Op.negFloat .f64 (floatOfInt .f64 a1)) t489 t490 _ A10.out).mono ?_); rintro e w' ⟨rfl, ⟨nd, rfl⟩⟩; refine ⟨_, rfl, ?_⟩) | ((with_reducible refine gate_callee (f := 116) rfl ?_); refine goesL_ (some 31) rfl rfl Try.func116 (by kernel_rfl) rfl #[.float .f64 t490] rfl (by (try simp only [List.map_toArray, List.map_cons, List.map_nil]); first | done | rfl | (simp only [List.length_drop, List.length_take]; rfl)) ?_; (with_reducible refine (math_Ceil.calls t490 t491 _ A11.out).mono ?_); rintro e w' ⟨rfl, ⟨nd, rfl⟩⟩; refine ⟨_, rfl, ?_⟩; have hfoA12_ := fun (w_ : World) => run_convert_float_int (P := Try.prog) w_ 34 3 .f64 .i64 t491 t492 (by rw [Try.underlying34]; rfl) Try.underlying3 A12.out))
     go_ret2
     exact ⟨by first | rfl | (simp [errW_none, errW_some] <;> rfl) | (simp only [← hji15]; first | rfl | (simp [errW_none, errW_some] <;> rfl)) | (simp [*, errW_none, errW_some] <;> rfl), by repeat (first | (with_reducible first | exact HB.out | apply below_alloc | apply pw_below_drewN | apply below_drew1) | exact HB.out)⟩
set_option maxHeartbeats 8000000 in
set_option maxRecDepth 100000 in
theorem foghornref04_Edge.calls (a0 : Int) (r1 : Int) (r2 : Int) (w : World) (h : foghornref04_Edge.f a0 = some (r1, r2)) :
  Calls Try.prog 65 #[.int .i64 a0] w fun e w' => e = .returned (.tuple #[.int .i64 r1, .int .i64 r2]) ∧ Drawn0 w w' := by
 have H : (if a0 = 4 then (some (1, 0)) else (if a0 = 16 then (some (3, 0)) else (if a0 = 32 then (some (5, 0)) else (if a0 = 64 then (some (7, 0)) else (if a0 = 128 then (some (11, 0)) else (if a0 = 256 then (some (15, 0)) else (some (0, 1)))))))) = some (r1, r2) := h
 clear h
 by_cases c2 : a0 = 4
 ·rw [if_pos c2] at H
  have c2b0 : (a0 == 4) = true := beq_iff_eq.mpr c2
  have c2b1 : (a0 != 4) = false := bne_eq_false_iff_eq.mpr c2
  clear c2
  simp only [Option.some.injEq, Prod.mk.injEq] at H
  obtain ⟨rfl, rfl⟩ := H
  go_enter Try.func65, Try.ntmps65
  go_wp2
  go_ret2
  exact ⟨by first | rfl | (simp; done) | (simp [*]; done), by repeat (first | exact Drawn0.refl _ | apply Drawn0.step)⟩
 ·rw [if_neg c2] at H
  have c2b0 : (a0 == 4) = false := beq_eq_false_iff_ne.mpr c2
  have c2b1 : (a0 != 4) = true := bne_iff_ne.mpr c2
  by_cases c3 : a0 = 16
  ·rw [if_pos c3] at H
   have c3b0 : (a0 == 16) = true := beq_iff_eq.mpr c3
   have c3b1 : (a0 != 16) = false := bne_eq_false_iff_eq.mpr c3
   clear c3
   simp only [Option.some.injEq, Prod.mk.injEq] at H
   obtain ⟨rfl, rfl⟩ := H
   go_enter Try.func65, Try.ntmps65
   go_wp2
   go_ret2
   exact ⟨by first | rfl | (simp; done) | (simp [*]; done), by repeat (first | exact Drawn0.refl _ | apply Drawn0.step)⟩
  ·rw [if_neg c3] at H
   have c3b0 : (a0 == 16) = false := beq_eq_false_iff_ne.mpr c3
   have c3b1 : (a0 != 16) = true := bne_iff_ne.mpr c3
   by_cases c4 : a0 = 32
   ·rw [if_pos c4] at H
    have c4b0 : (a0 == 32) = true := beq_iff_eq.mpr c4
    have c4b1 : (a0 != 32) = false := bne_eq_false_iff_eq.mpr c4
    clear c4
    simp only [Option.some.injEq, Prod.mk.injEq] at H
    obtain ⟨rfl, rfl⟩ := H
    go_enter Try.func65, Try.ntmps65
    go_wp2
    go_ret2
    exact ⟨by first | rfl | (simp; done) | (simp [*]; done), by repeat (first | exact Drawn0.refl _ | apply Drawn0.step)⟩
   ·rw [if_neg c4] at H
    have c4b0 : (a0 == 32) = false := beq_eq_false_iff_ne.mpr c4
    have c4b1 : (a0 != 32) = true := bne_iff_ne.mpr c4
    by_cases c5 : a0 = 64
    ·rw [if_pos c5] at H
     have c5b0 : (a0 == 64) = true := beq_iff_eq.mpr c5
     have c5b1 : (a0 != 64) = false := bne_eq_false_iff_eq.mpr c5
     clear c5
     simp only [Option.some.injEq, Prod.mk.injEq] at H
     obtain ⟨rfl, rfl⟩ := H
     go_enter Try.func65, Try.ntmps65
     go_wp2
     go_ret2
     exact ⟨by first | rfl | (simp; done) | (simp [*]; done), by repeat (first | exact Drawn0.refl _ | apply Drawn0.step)⟩
    ·rw [if_neg c5] at H
     have c5b0 : (a0 == 64) = false := beq_eq_false_iff_ne.mpr c5
     have c5b1 : (a0 != 64) = true := bne_iff_ne.mpr c5
     by_cases c6 : a0 = 128
     ·rw [if_pos c6] at H
      have c6b0 : (a0 == 128) = true := beq_iff_eq.mpr c6
      have c6b1 : (a0 != 128) = false := bne_eq_false_iff_eq.mpr c6
      clear c6
      simp only [Option.some.injEq, Prod.mk.injEq] at H
      obtain ⟨rfl, rfl⟩ := H
      go_enter Try.func65, Try.ntmps65
      go_wp2
      go_ret2
      exact ⟨by first | rfl | (simp; done) | (simp [*]; done), by repeat (first | exact Drawn0.refl _ | apply Drawn0.step)⟩
     ·rw [if_neg c6] at H
      have c6b0 : (a0 == 128) = false := beq_eq_false_iff_ne.mpr c6
      have c6b1 : (a0 != 128) = true := bne_iff_ne.mpr c6
      by_cases c7 : a0 = 256
      ·rw [if_pos c7] at H
       have c7b0 : (a0 == 256) = true := beq_iff_eq.mpr c7
       have c7b1 : (a0 != 256) = false := bne_eq_false_iff_eq.mpr c7
       clear c7
       simp only [Option.some.injEq, Prod.mk.injEq] at H
       obtain ⟨rfl, rfl⟩ := H
       go_enter Try.func65, Try.ntmps65
       go_wp2
       go_ret2
       exact ⟨by first | rfl | (simp; done) | (simp [*]; done), by repeat (first | exact Drawn0.refl _ | apply Drawn0.step)⟩
      ·rw [if_neg c7] at H
       have c7b0 : (a0 == 256) = false := beq_eq_false_iff_ne.mpr c7
       have c7b1 : (a0 != 256) = true := bne_iff_ne.mpr c7
       simp only [Option.some.injEq, Prod.mk.injEq] at H
       obtain ⟨rfl, rfl⟩ := H
       go_enter Try.func65, Try.ntmps65
       go_wp2
       go_ret2
       exact ⟨by first | rfl | (simp; done) | (simp [*]; done), by repeat (first | exact Drawn0.refl _ | apply Drawn0.step)⟩
--WALK
attribute [local go_sem] pts_run_store_func pts_run_store_nilFunc
theorem pts_edge_yes (size b ed : Int) (F : Int → Option (Nat × Nat)) (h : pts_spec size = some (b, ed, F)) (w : World) :
  Calls Try.prog 118 #[.int .i64 size] w fun e w' => e = .returned (.tuple #[.int .i64 ed, .int .i64 0]) ∧ Below w.heap.size w w' := by
 have H := Aside0.mk h
 clear h
 go_enter Try.func118, Try.ntmps118
 go_wp2_with (go_at_call 127; refine (pts_of_yes _ _ _ _ H.out _).mono ?_; rintro e w1 ⟨fn, cap, rfl, hF, hb⟩; have HB := Aside0.mk hb; have HF := Aside0.mk hF; clear hb hF)
 go_ret2
 exact ⟨by first | rfl | (simp [go_sem]; done), by repeat (first | exact HB.out | apply below_alloc)⟩
theorem pts_edge_no (size : Int) (h : pts_spec size = none) (w : World) :
  Calls Try.prog 118 #[.int .i64 size] w fun e w' => e = .returned (.tuple #[.int .i64 0, .int .i64 1]) ∧ Below w.heap.size w w' := by
 have H := Aside0.mk h
 clear h
 go_enter Try.func118, Try.ntmps118
 go_wp2_with (go_at_call 127; refine (pts_of_none _ H.out _).mono ?_; rintro e w1 ⟨rfl, hb⟩; have HB := Aside0.mk hb; clear hb)
 go_ret2
 exact ⟨by first | rfl | (simp [go_sem]; done), by repeat (first | exact HB.out | apply below_alloc)⟩
theorem points_Edge.calls (a0 : Int) (r1 : Int) (r2 : Int) (w : World) (h : points_Edge.f a0 = some (r1, r2)) :
  Calls Try.prog 118 #[.int .i64 a0] w fun e w' => e = .returned (.tuple #[.int .i64 r1, .int .i64 r2]) ∧ Below w.heap.size w w' := by
 unfold points_Edge.f at h
 cases hs : pts_spec a0 with
 | none =>
  rw [hs] at h
  obtain ⟨rfl, rfl⟩ := Prod.mk.inj (Option.some.inj h)
  exact pts_edge_no a0 hs w
 | some x =>
  obtain ⟨b, ed, F⟩ := x
  rw [hs] at h
  obtain ⟨rfl, rfl⟩ := Prod.mk.inj (Option.some.inj h)
  exact pts_edge_yes a0 b _ F hs w
set_option maxHeartbeats 8000000 in
set_option maxRecDepth 100000 in
theorem slice_nan.calls (a0 : (Nat × Nat)) (r : Bool) (w : World) (h : slice_nan.f a0 = some r) :
  Calls Try.prog 119 #[.complex .f64 a0.1 a0.2] w fun e w' => e = .returned (.bool r) ∧ Below w.heap.size w w' := by
 have HB := Aside0.mk (Below.refl w.heap.size w)
 have H : ((math_IsNaN.f a0.1).bind fun t497 => (if t497 = true then (some true) else ((math_IsNaN.f a0.2).bind fun t498 => (some t498)))) = some r := h
 clear h
 replace H := Option.bind_eq_some_iff.mp H
 obtain ⟨t497, A20, H⟩ := H
 replace H : (if t497 = true then (some true) else ((math_IsNaN.f a0.2).bind fun t498 => (some t498))) = some r := H
 have A2 := Aside0.mk A20
 clear A20
 by_cases c3 : t497 = true
 ·subst c3
  have H1 : (some true) = some r := by rw [if_pos rfl] at H; exact H
  clear H
  have H := H1
  clear H1
  obtain rfl := Option.some.inj H
  go_enter Try.func119, Try.ntmps119
  go_wp2_with ((with_reducible refine gate_callee (f := 113) rfl ?_); refine goesL_ (some 5) rfl rfl Try.func113 (by kernel_rfl) rfl #[.float .f64 a0.1] rfl (by (try simp only [List.map_toArray, List.map_cons, List.map_nil]); first | done | rfl | (simp only [List.length_drop, List.length_take]; rfl)) ?_; (with_reducible refine (math_IsNaN.calls a0.1 true _ A2.out).mono ?_); rintro e w' ⟨rfl, ⟨nd, rfl⟩⟩; refine ⟨_, rfl, ?_⟩)
  go_ret
  exact ⟨by first | rfl | (simp [errW_none, errW_some] <;> rfl) | (simp [*, errW_none, errW_some] <;> rfl), by repeat (first | (with_reducible first | exact HB.out | apply below_alloc | apply pw_below_drewN | apply below_drew1) | exact HB.out)⟩
 ·replace c3 := Bool.eq_false_iff.mpr c3
  subst c3
  have H1 : ((math_IsNaN.f a0.2).bind fun t498 => (some t498)) = some r := by rw [if_neg (show ¬ (false = true) by decide)] at H; exact H
  clear H
  have H := H1
  clear H1
  replace H := Option.bind_eq_some_iff.mp H
  obtain ⟨t498, A40, H⟩ := H
  replace H : (some t498) = some r := H
  have A4 := Aside0.mk A40
  clear A40
  obtain rfl := Option.some.inj H
  go_enter Try.func119, Try.ntmps119
  go_wp2_with (first | ((with_reducible refine gate_callee (f := 113) rfl ?_); refine goesL_ (some 5) rfl rfl Try.func113 (by kernel_rfl) rfl #[.float .f64 a0.1] rfl (by (try simp only [List.map_toArray, List.map_cons, List.map_nil]); first | done | rfl | (simp only [List.length_drop, List.length_take]; rfl)) ?_; (with_reducible refine (math_IsNaN.calls a0.1 false _ A2.out).mono ?_); rintro e w' ⟨rfl, ⟨nd, rfl⟩⟩; refine ⟨_, rfl, ?_⟩) | (go_at_call 113; (with_reducible refine (math_IsNaN.calls a0.2 t498 _ A4.out).mono ?_); rintro e w' ⟨rfl, ⟨nd, rfl⟩⟩))
  go_ret
  exact ⟨by first | rfl | (simp [errW_none, errW_some] <;> rfl) | (simp [*, errW_none, errW_some] <;> rfl), by repeat (first | (with_reducible first | exact HB.out | apply below_alloc | apply pw_below_drewN | apply below_drew1) | exact HB.out)⟩
set_option maxHeartbeats 8000000 in
set_option maxRecDepth 100000 in
theorem slice_cut.calls (a0 : (Nat × Nat)) (a1 : Int) (r : (Nat × Nat)) (w : World) (h : slice_cut.f a0 a1 = some r) :
  Calls Try.prog 120 #[.complex .f64 a0.1 a0.2, .int .i64 a1] w fun e w' => e = .returned (.complex .f64 r.1 r.2) ∧ Below w.heap.size w w' := by
 have HB := Aside0.mk (Below.refl w.heap.size w)
 have H : ((math_Min.f a0.1 (floatOfInt .f64 a1)).bind fun t499 => ((math_Max.f (Op.negFloat .f64 (floatOfInt .f64 a1)) t499).bind fun t500 => ((math_Min.f a0.2 (floatOfInt .f64 a1)).bind fun t501 => ((math_Max.f (Op.negFloat .f64 (floatOfInt .f64 a1)) t501).bind fun t502 => (some (t500, t502)))))) = some r := h
 clear h
 replace H := Option.bind_eq_some_iff.mp H
 obtain ⟨t499, A30, H⟩ := H
 replace H : ((math_Max.f (Op.negFloat .f64 (floatOfInt .f64 a1)) t499).bind fun t500 => ((math_Min.f a0.2 (floatOfInt .f64 a1)).bind fun t501 => ((math_Max.f (Op.negFloat .f64 (floatOfInt .f64 a1)) t501).bind fun t502 => (some (t500, t502))))) = some r := H
 have A3 := Aside0.mk A30
 clear A30
 replace H := Option.bind_eq_some_iff.mp H
 obtain ⟨t500, A40, H⟩ := H
 replace H : ((math_Min.f a0.2 (floatOfInt .f64 a1)).bind fun t501 => ((math_Max.f (Op.negFloat .f64 (floatOfInt .f64 a1)) t501).bind fun t502 => (some (t500, t502)))) = some r := H
 have A4 := Aside0.mk A40
 clear A40
 replace H := Option.bind_eq_some_iff.mp H
 obtain ⟨t501, A50, H⟩ := H
 replace H : ((math_Max.f (Op.negFloat .f64 (floatOfInt .f64 a1)) t501).bind fun t502 => (some (t500, t502))) = some r := H
 have A5 := Aside0.mk A50
 clear A50
 replace H := Option.bind_eq_some_iff.mp H
 obtain ⟨t502, A60, H⟩ := H
 replace H : (some (t500, t502)) = some r := H
 have A6 := Aside0.mk A60
 clear A60
 obtain rfl := Option.some.inj H
 go_enter Try.func120, Try.ntmps120
 go_wp2_with (first | ((with_reducible refine gate_callee (f := 115) rfl ?_); refine goesL_ (some 13) rfl rfl Try.func115 (by kernel_rfl) rfl #[.float .f64 a0.1, .float .f64 (floatOfInt .f64 a1)] rfl (by (try simp only [List.map_toArray, List.map_cons, List.map_nil]); first | done | rfl | (simp only [List.length_drop, List.length_take]; rfl)) ?_; (with_reducible refine (math_Min.calls a0.1 (floatOfInt .f64 a1) t499 _ A3.out).mono ?_); rintro e w' ⟨rfl, ⟨nd, rfl⟩⟩; refine ⟨_, rfl, ?_⟩) | ((with_reducible refine gate_callee (f := 114) rfl ?_); refine goesL_ (some 14) rfl rfl Try.func114 (by kernel_rfl) rfl #[.float .f64 (Op.negFloat .f64 (floatOfInt .f64 a1)), .float .f64 t499] rfl (by (try simp only [List.map_toArray, List.map_cons, List.map_nil]); first | done | rfl | (simp only [List.length_drop, List.length_take]; rfl)) ?_; (with_reducible refine (math_Max.calls (Op.negFloat .f64 (floatOfInt .f64 a1)) t499 t500 _ A4.out).mono ?_); rintro e w' ⟨rfl, ⟨nd, rfl⟩⟩; refine ⟨_, rfl, ?_⟩) | ((with_reducible refine gate_callee (f := 115) rfl ?_); refine goesL_ (some 20) rfl rfl Try.func115 (by kernel_rfl) rfl #[.float .f64 a0.2, .float .f64 (floatOfInt .f64 a1)] rfl (by (try simp only [List.map_toArray, List.map_cons, List.map_nil]); first | done | rfl | (simp only [List.length_drop, List.length_take]; rfl)) ?_; (with_reducible refine (math_Min.calls a0.2 (floatOfInt .f64 a1) t501 _ A5.out).mono ?_); rintro e w' ⟨rfl, ⟨nd, rfl⟩⟩; refine ⟨_, rfl, ?_⟩) | ((with_reducible refine gate_callee (f := 114) rfl ?_); refine goesL_ (some 21) rfl rfl Try.func114 (by kernel_rfl) rfl #[.float .f64 (Op.negFloat .f64 (floatOfInt .f64 a1)), .float .f64 t501] rfl (by (try simp only [List.map_toArray, List.map_cons, List.map_nil]); first | done | rfl | (simp only [List.length_drop, List.length_take]; rfl)) ?_; (with_reducible refine (math_Max.calls (Op.negFloat .f64 (floatOfInt .f64 a1)) t501 t502 _ A6.out).mono ?_); rintro e w' ⟨rfl, ⟨nd, rfl⟩⟩; refine ⟨_, rfl, ?_⟩))
 go_ret
 exact ⟨by first | rfl | (simp [errW_none, errW_some] <;> rfl) | (simp [*, errW_none, errW_some] <;> rfl), by repeat (first | (with_reducible first | exact HB.out | apply below_alloc | apply pw_below_drewN | apply below_drew1) | exact HB.out)⟩
set_option maxHeartbeats 8000000 in
set_option maxRecDepth 100000 in
theorem foghornref04_size.calls (a0 : Int) (r : Int) (w : World) (h : foghornref04_size.f a0 = some r) :
  Calls Try.prog 172 #[.int .i64 a0] w fun e w' => e = .returned (.int .i64 r) ∧ Drawn0 w w' := by
 have H : (if a0 < 0 then (some (wrap64 (-a0))) else (some a0)) = some r := h
 clear h
 by_cases c2 : a0 < 0
 ·rw [if_pos c2] at H
  have c2b0 : decide (a0 < 0) = true := decide_eq_true c2
  clear c2
  obtain rfl := Option.some.inj H
  go_enter Try.func172, Try.ntmps172
  go_wp2
  go_ret
  exact ⟨by first | rfl | (simp; done) | (simp [*]; done), by repeat (first | exact Drawn0.refl _ | apply Drawn0.step)⟩
 ·rw [if_neg c2] at H
  have c2b0 : decide (a0 < 0) = false := decide_eq_false c2
  clear c2
  obtain rfl := Option.some.inj H
  go_enter Try.func172, Try.ntmps172
  go_wp2
  go_ret
  exact ⟨by first | rfl | (simp; done) | (simp [*]; done), by repeat (first | exact Drawn0.refl _ | apply Drawn0.step)⟩
set_option maxHeartbeats 8000000 in
set_option maxRecDepth 100000 in
theorem foghornref04_in.calls (k : Nat) (a0 : Int) (a1_0 : Int) (a1_1 : Int) (r : Bool) (w : World) (h : foghornref04_in.f k a0 a1_0 a1_1 = some r) :
  Calls Try.prog 161 #[.int .i64 a0, .agg #[.int .i64 a1_0, .int .i64 a1_1]] w fun e w' => e = .returned (.bool r) ∧ Below w.heap.size w w' := by
 have hu220 := Try.underlying220
 have HB := Aside0.mk (Below.refl w.heap.size w)
 have H : ((foghornref04_Edge.f a0).bind fun bt508 => (if bt508.2 = 0 then (if (Int.tmod a1_0 2) = 0 then (foghornref04_in.j0 k a0 true a1_0 a1_1) else (if (Int.tmod a1_1 2) = 0 then (foghornref04_in.j0 k a0 true a1_0 a1_1) else ((foghornref04_size.f a1_0).bind fun t510 => (if t510 > bt508.1 then (foghornref04_in.j0 k a0 true a1_0 a1_1) else ((foghornref04_size.f a1_1).bind fun t511 => (foghornref04_in.j0 k a0 (decide (t511 > bt508.1)) a1_0 a1_1)))))) else (foghornref04_in.j0 k a0 true a1_0 a1_1))) = some r := h
 clear h
 replace H := Option.bind_eq_some_iff.mp H
 obtain ⟨⟨t508, t509⟩, A30, H⟩ := H
 replace H : (if t509 = 0 then (if (Int.tmod a1_0 2) = 0 then (foghornref04_in.j0 k a0 true a1_0 a1_1) else (if (Int.tmod a1_1 2) = 0 then (foghornref04_in.j0 k a0 true a1_0 a1_1) else ((foghornref04_size.f a1_0).bind fun t510 => (if t510 > t508 then (foghornref04_in.j0 k a0 true a1_0 a1_1) else ((foghornref04_size.f a1_1).bind fun t511 => (foghornref04_in.j0 k a0 (decide (t511 > t508)) a1_0 a1_1)))))) else (foghornref04_in.j0 k a0 true a1_0 a1_1)) = some r := H
 have A3 := Aside0.mk A30
 clear A30
 have HC4 := Aside0.mk H
 clear H
 go_enter Try.func161, Try.ntmps161
 go_upto_region 2 with (first | ((with_reducible refine gate_dst (N := 3) rfl ?_); refine box_event ?hg (N := 3) ?hd (cs := #[.int .i64 a1_0, .int .i64 a1_1]) (t := 220) ?hr ?_; (case hd => rfl); (case hg => rfl); (case hr => first | (go_simp; done) | (go_simp; rfl)); intro gb507 hg w5 hbox hb; have n0_ := Aside0.mk (below_step (by repeat (first | (with_reducible first | exact HB.out | apply below_alloc | apply pw_below_drewN | apply below_drew1) | exact HB.out)) hb); have n1_ := Aside0.mk (hbox); have n2_ := Aside0.mk ((by rw [hg]; exact (below_size (by repeat (first | (with_reducible first | exact HB.out | apply below_alloc | apply pw_below_drewN | apply below_drew1) | exact HB.out))) : w.heap.size ≤ gb507)); have n3_ := Aside0.mk ((by rw [hg]; exact (below_size (by repeat (first | (with_reducible first | exact HB.out | apply below_alloc | apply pw_below_drewN | apply below_drew1) | exact HB.out))) : w.heap.size ≤ gb507)); clear HB; have HB := n0_; have BK507 := n1_; have GW507 := n2_; have GE507 := n3_; clear n0_ n1_ n2_ n3_; clear hb hbox hg) | ((with_reducible refine gate_callee (f := 65) rfl ?_); refine goesL_ (some 9) rfl rfl Try.func65 (by kernel_rfl) rfl #[.int .i64 a0] rfl (by (try simp only [List.map_toArray, List.map_cons, List.map_nil]); first | done | rfl | (simp only [List.length_drop, List.length_take]; rfl)) ?_; (with_reducible refine (foghornref04_Edge.calls a0 t508 t509 _ A3.out).mono ?_); rintro e w' ⟨rfl, ⟨nd, rfl⟩⟩; refine ⟨_, rfl, ?_⟩))
 (try simp only [Act.put, List.setIfInBounds_toArray, List.set_cons_zero, List.set_cons_succ])
 go_cut [39] (fun v39 wc => ∃ (kq : Nat) (x39_3 : Bool), v39 = .bool x39_3 ∧ Aside0 (foghornref04_in.j0 kq a0 x39_3 a1_0 a1_1 = some r) ∧ Aside0 (kq ≤ k) ∧ Aside0 (wc.heap[gb507]? = some (.cells #[.int .i64 a1_0, .int .i64 a1_1] 220 (0, 0))) ∧ Aside0 (Below w.heap.size w wc))
 case first =>
  have H := HC4.out
  clear HC4
  by_cases c6 : t509 = 0
  ·rw [if_pos c6] at H
   have c6b0 : (t509 == 0) = true := beq_iff_eq.mpr c6
   have c6b1 : (t509 != 0) = false := bne_eq_false_iff_eq.mpr c6
   clear c6
   (first | rw [c6b0] | (simp only [i64_w, i32_w]; rw [c6b0]) | skip)
   by_cases c7 : (Int.tmod a1_0 2) = 0
   ·rw [if_pos c7] at H
    have c7b0 : ((Int.tmod a1_0 2) == 0) = true := beq_iff_eq.mpr c7
    have c7b1 : ((Int.tmod a1_0 2) != 0) = false := bne_eq_false_iff_eq.mpr c7
    clear c7
    have H' := Aside0.mk H
    clear H
    have hcz8_0 : w5.cell? ⟨gb507, 0, none⟩ = some (.int .i64 a1_0) := (blk_cell BK507.out 0).trans rfl
    have hcz8_1 : w5.cell? ⟨gb507, 1, none⟩ = some (.int .i64 a1_1) := (blk_cell BK507.out 1).trans rfl
    have hfz8_0 := blk_frozen BK507.out 0
    have hfz8_1 := blk_frozen BK507.out 1
    go_wp2
    go_meet
    case rel => exact ⟨_, (true), (by first | rfl | (simp; done) | (simp [*]; done)), H', ⟨by first | omega | exact Nat.le_refl _⟩, ⟨by (with_reducible repeat (first | refine blk_drewN ?_ _ | refine blk_drew ?_ | refine blk_alloc ?_ _)); exact BK507.out⟩, ⟨by repeat (first | (with_reducible first | exact HB.out | apply below_alloc | apply pw_below_drewN | apply below_drew1 | refine below_set ?_ GE507.out) | exact HB.out)⟩⟩
   ·rw [if_neg c7] at H
    have c7b0 : ((Int.tmod a1_0 2) == 0) = false := beq_eq_false_iff_ne.mpr c7
    have c7b1 : ((Int.tmod a1_0 2) != 0) = true := bne_iff_ne.mpr c7
    by_cases c9 : (Int.tmod a1_1 2) = 0
    ·rw [if_pos c9] at H
     have c9b0 : ((Int.tmod a1_1 2) == 0) = true := beq_iff_eq.mpr c9
     have c9b1 : ((Int.tmod a1_1 2) != 0) = false := bne_eq_false_iff_eq.mpr c9
     clear c9
     have H' := Aside0.mk H
     clear H
     have hcz10_0 : w5.cell? ⟨gb507, 0, none⟩ = some (.int .i64 a1_0) := (blk_cell BK507.out 0).trans rfl
     have hcz10_1 : w5.cell? ⟨gb507, 1, none⟩ = some (.int .i64 a1_1) := (blk_cell BK507.out 1).trans rfl
     have hfz10_0 := blk_frozen BK507.out 0
     have hfz10_1 := blk_frozen BK507.out 1
     go_wp2
     go_meet
     case rel => exact ⟨_, (true), (by first | rfl | (simp; done) | (simp [*]; done)), H', ⟨by first | omega | exact Nat.le_refl _⟩, ⟨by (with_reducible repeat (first | refine blk_drewN ?_ _ | refine blk_drew ?_ | refine blk_alloc ?_ _)); exact BK507.out⟩, ⟨by repeat (first | (with_reducible first | exact HB.out | apply below_alloc | apply pw_below_drewN | apply below_drew1 | refine below_set ?_ GE507.out) | exact HB.out)⟩⟩
    ·rw [if_neg c9] at H
     have c9b0 : ((Int.tmod a1_1 2) == 0) = false := beq_eq_false_iff_ne.mpr c9
     have c9b1 : ((Int.tmod a1_1 2) != 0) = true := bne_iff_ne.mpr c9
     replace H := Option.bind_eq_some_iff.mp H
     obtain ⟨t510, A110, H⟩ := H
     replace H : (if t510 > t508 then (foghornref04_in.j0 k a0 true a1_0 a1_1) else ((foghornref04_size.f a1_1).bind fun t511 => (foghornref04_in.j0 k a0 (decide (t511 > t508)) a1_0 a1_1))) = some r := H
     have A11 := Aside0.mk A110
     clear A110
     by_cases c12 : t510 > t508
     ·rw [if_pos c12] at H
      have c12b0 : decide (t508 < t510) = true := decide_eq_true c12
      clear c12
      have H' := Aside0.mk H
      clear H
      have hcz13_0 : w5.cell? ⟨gb507, 0, none⟩ = some (.int .i64 a1_0) := (blk_cell BK507.out 0).trans rfl
      have hcz13_1 : w5.cell? ⟨gb507, 1, none⟩ = some (.int .i64 a1_1) := (blk_cell BK507.out 1).trans rfl
      have hfz13_0 := blk_frozen BK507.out 0
      have hfz13_1 := blk_frozen BK507.out 1
      go_wp2_with (go_at_call 172; (with_reducible refine (foghornref04_size.calls a1_0 t510 _ A11.out).mono ?_); rintro e w' ⟨rfl, ⟨nd, rfl⟩⟩)
      go_meet
      case rel => exact ⟨_, (true), (by first | rfl | (simp; done) | (simp [*]; done)), H', ⟨by first | omega | exact Nat.le_refl _⟩, ⟨by (with_reducible repeat (first | refine blk_drewN ?_ _ | refine blk_drew ?_ | refine blk_alloc ?_ _)); exact BK507.out⟩, ⟨by repeat (first | (with_reducible first | exact HB.out | apply below_alloc | apply pw_below_drewN | apply below_drew1 | refine below_set ?_ GE507.out) | exact HB.out)⟩⟩
     ·rw [if_neg c12] at H
      have c12b0 : decide (t508 < t510) = false := decide_eq_false c12
      clear c12
      replace H := Option.bind_eq_some_iff.mp H
      obtain ⟨t511, A140, H⟩ := H
      replace H : (foghornref04_in.j0 k a0 (decide (t511 > t508)) a1_0 a1_1) = some r := H
      have A14 := Aside0.mk A140
      clear A140
      have H' := Aside0.mk H
      clear H
      have hcz15_0 : w5.cell? ⟨gb507, 0, none⟩ = some (.int .i64 a1_0) := (blk_cell BK507.out 0).trans rfl
      have hcz15_1 : w5.cell? ⟨gb507, 1, none⟩ = some (.int .i64 a1_1) := (blk_cell BK507.out 1).trans rfl
      have hfz15_0 := blk_frozen BK507.out 0
      have hfz15_1 := blk_frozen BK507.out 1
      go_wp2_with (first | (go_at_call 172; (with_reducible refine (foghornref04_size.calls a1_0 t510 _ A11.out).mono ?_); rintro e w' ⟨rfl, ⟨nd, rfl⟩⟩) | (go_at_call 172; (with_reducible refine (foghornref04_size.calls a1_1 t511 _ A14.out).mono ?_); rintro e w' ⟨rfl, ⟨nd, rfl⟩⟩))
      go_meet
      case rel => exact ⟨_, (decide (t511 > t508)), (by first | rfl | (simp; done) | (simp [*]; done)), H', ⟨by first | omega | exact Nat.le_refl _⟩, ⟨by (with_reducible repeat (first | refine blk_drewN ?_ _ | refine blk_drew ?_ | refine blk_alloc ?_ _)); exact BK507.out⟩, ⟨by repeat (first | (with_reducible first | exact HB.out | apply below_alloc | apply pw_below_drewN | apply below_drew1 | refine below_set ?_ GE507.out) | exact HB.out)⟩⟩
  ·rw [if_neg c6] at H
   have c6b0 : (t509 == 0) = false := beq_eq_false_iff_ne.mpr c6
   have c6b1 : (t509 != 0) = true := bne_iff_ne.mpr c6
   (first | rw [c6b0] | (simp only [i64_w, i32_w]; rw [c6b0]) | skip)
   have H' := Aside0.mk H
   clear H
   go_wp2
   go_meet
   case rel => exact ⟨_, (true), (by first | rfl | (simp; done) | (simp [*]; done)), H', ⟨by first | omega | exact Nat.le_refl _⟩, ⟨by (with_reducible repeat (first | refine blk_drewN ?_ _ | refine blk_drew ?_ | refine blk_alloc ?_ _)); exact BK507.out⟩, ⟨by repeat (first | (with_reducible first | exact HB.out | apply below_alloc | apply pw_below_drewN | apply below_drew1 | refine below_set ?_ GE507.out) | exact HB.out)⟩⟩
 case rest =>
  clear HC4
  try clear c1
  try clear p2
  try clear c6
  try clear c6b0
  try clear c6b1
  try clear c7
  try clear c7b0
  try clear c7b1
  try clear c9
  try clear c9b0
  try clear c9b1
  try clear c12
  try clear c12b0
  try clear hcz10_0
  try clear hcz10_1
  try clear hcz13_0
  try clear hcz13_1
  try clear hcz15_0
  try clear hcz15_1
  try clear hcz8_0
  try clear hcz8_1
  try clear hfz10_0
  try clear hfz10_1
  try clear hfz13_0
  try clear hfz13_1
  try clear hfz15_0
  try clear hfz15_1
  try clear hfz8_0
  try clear hfz8_1
  obtain ⟨kq, x39_3, rfl, HA, HJ3, BK507, HB⟩ := hcut
  cases kq with
  | zero => exact absurd HA.out (by simp [foghornref04_in.j0])
  | succ kj3 =>
   have H := HA.out
   clear HA
   simp only [foghornref04_in.j0] at H
   by_cases c16 : x39_3 = true
   ·subst c16
    have H1 : (some false) = some r := by rw [if_pos rfl] at H; exact H
    clear H
    have H := H1
    clear H1
    obtain rfl := Option.some.inj H
    go_wp2
    go_ret
    exact ⟨by first | rfl | (simp [errW_none, errW_some] <;> rfl) | (simp [*, errW_none, errW_some] <;> rfl), by repeat (first | (with_reducible first | exact HB.out | apply below_alloc | apply pw_below_drewN | apply below_drew1 | refine below_set ?_ GE507.out) | exact HB.out)⟩
   ·replace c16 := Bool.eq_false_iff.mpr c16
    subst c16
    have H1 : (if a0 = 32 then ((foghornref04_size.f a1_0).bind fun t512 => (if t512 = 5 then ((foghornref04_size.f a1_1).bind fun t513 => (foghornref04_in.j1 kj3 a0 (t513 == 5) a1_0 a1_1)) else (foghornref04_in.j1 kj3 a0 false a1_0 a1_1))) else (foghornref04_in.j1 kj3 a0 false a1_0 a1_1)) = some r := by rw [if_neg (show ¬ (false = true) by decide)] at H; exact H
    clear H
    have H := H1
    clear H1
    have HC17 := Aside0.mk H
    clear H
    go_upto_region 4 with (fail)
    go_cut [53] (fun v53 wc => ∃ (kq : Nat) (x53_16 : Bool), v53 = .bool x53_16 ∧ Aside0 (foghornref04_in.j1 kq a0 x53_16 a1_0 a1_1 = some r) ∧ Aside0 (kq ≤ kj3) ∧ Aside0 (wc.heap[gb507]? = some (.cells #[.int .i64 a1_0, .int .i64 a1_1] 220 (0, 0))) ∧ Aside0 (Below w.heap.size w wc))
    case first =>
     have H := HC17.out
     clear HC17
     by_cases c18 : a0 = 32
     ·rw [if_pos c18] at H
      have c18b0 : (a0 == 32) = true := beq_iff_eq.mpr c18
      have c18b1 : (a0 != 32) = false := bne_eq_false_iff_eq.mpr c18
      clear c18
      (first | rw [c18b0] | (simp only [i64_w, i32_w]; rw [c18b0]) | skip)
      replace H := Option.bind_eq_some_iff.mp H
      obtain ⟨t512, A190, H⟩ := H
      replace H : (if t512 = 5 then ((foghornref04_size.f a1_1).bind fun t513 => (foghornref04_in.j1 kj3 a0 (t513 == 5) a1_0 a1_1)) else (foghornref04_in.j1 kj3 a0 false a1_0 a1_1)) = some r := H
      have A19 := Aside0.mk A190
      clear A190
      by_cases c20 : t512 = 5
      ·rw [if_pos c20] at H
       have c20b0 : (t512 == 5) = true := beq_iff_eq.mpr c20
       have c20b1 : (t512 != 5) = false := bne_eq_false_iff_eq.mpr c20
       clear c20
       replace H := Option.bind_eq_some_iff.mp H
       obtain ⟨t513, A210, H⟩ := H
       replace H : (foghornref04_in.j1 kj3 a0 (t513 == 5) a1_0 a1_1) = some r := H
       have A21 := Aside0.mk A210
       clear A210
       have H' := Aside0.mk H
       clear H
       have hcz22_0 : wc.cell? ⟨gb507, 0, none⟩ = some (.int .i64 a1_0) := (blk_cell BK507.out 0).trans rfl
       have hcz22_1 : wc.cell? ⟨gb507, 1, none⟩ = some (.int .i64 a1_1) := (blk_cell BK507.out 1).trans rfl
       have hfz22_0 := blk_frozen BK507.out 0
       have hfz22_1 := blk_frozen BK507.out 1
       go_wp2_with (first | (go_at_call 172; (with_reducible refine (foghornref04_size.calls a1_0 t512 _ A19.out).mono ?_); rintro e w' ⟨rfl, ⟨nd, rfl⟩⟩) | (go_at_call 172; (with_reducible refine (foghornref04_size.calls a1_1 t513 _ A21.out).mono ?_); rintro e w' ⟨rfl, ⟨nd, rfl⟩⟩))
       go_meet
       case rel => exact ⟨_, ((t513 == 5)), (by first | rfl | (simp; done) | (simp [*]; done)), H', ⟨by have := HJ3.out; first | omega | exact Nat.le_refl _⟩, ⟨by (with_reducible repeat (first | refine blk_drewN ?_ _ | refine blk_drew ?_ | refine blk_alloc ?_ _)); exact BK507.out⟩, ⟨by repeat (first | (with_reducible first | exact HB.out | apply below_alloc | apply pw_below_drewN | apply below_drew1 | refine below_set ?_ GE507.out) | exact HB.out)⟩⟩
      ·rw [if_neg c20] at H
       have c20b0 : (t512 == 5) = false := beq_eq_false_iff_ne.mpr c20
       have c20b1 : (t512 != 5) = true := bne_iff_ne.mpr c20
       have H' := Aside0.mk H
       clear H
       have hcz23_0 : wc.cell? ⟨gb507, 0, none⟩ = some (.int .i64 a1_0) := (blk_cell BK507.out 0).trans rfl
       have hcz23_1 : wc.cell? ⟨gb507, 1, none⟩ = some (.int .i64 a1_1) := (blk_cell BK507.out 1).trans rfl
       have hfz23_0 := blk_frozen BK507.out 0
       have hfz23_1 := blk_frozen BK507.out 1
       go_wp2_with (go_at_call 172; (with_reducible refine (foghornref04_size.calls a1_0 t512 _ A19.out).mono ?_); rintro e w' ⟨rfl, ⟨nd, rfl⟩⟩)
       go_meet
       case rel => exact ⟨_, (false), (by first | rfl | (simp; done) | (simp [*]; done)), H', ⟨by have := HJ3.out; first | omega | exact Nat.le_refl _⟩, ⟨by (with_reducible repeat (first | refine blk_drewN ?_ _ | refine blk_drew ?_ | refine blk_alloc ?_ _)); exact BK507.out⟩, ⟨by repeat (first | (with_reducible first | exact HB.out | apply below_alloc | apply pw_below_drewN | apply below_drew1 | refine below_set ?_ GE507.out) | exact HB.out)⟩⟩
     ·rw [if_neg c18] at H
      have c18b0 : (a0 == 32) = false := beq_eq_false_iff_ne.mpr c18
      have c18b1 : (a0 != 32) = true := bne_iff_ne.mpr c18
      (first | rw [c18b0] | (simp only [i64_w, i32_w]; rw [c18b0]) | skip)
      have H' := Aside0.mk H
      clear H
      go_wp2
      go_meet
      case rel => exact ⟨_, (false), (by first | rfl | (simp; done) | (simp [*]; done)), H', ⟨by have := HJ3.out; first | omega | exact Nat.le_refl _⟩, ⟨by (with_reducible repeat (first | refine blk_drewN ?_ _ | refine blk_drew ?_ | refine blk_alloc ?_ _)); exact BK507.out⟩, ⟨by repeat (first | (with_reducible first | exact HB.out | apply below_alloc | apply pw_below_drewN | apply below_drew1 | refine below_set ?_ GE507.out) | exact HB.out)⟩⟩
    case rest =>
     clear HC17
     try clear c1
     try clear c2
     try clear p2
     try clear c6
     try clear c6b0
     try clear c6b1
     try clear c7
     try clear c7b0
     try clear c7b1
     try clear c9
     try clear c9b0
     try clear c9b1
     try clear c12
     try clear c12b0
     try clear c16
     try clear c18
     try clear c18b0
     try clear c18b1
     try clear c20
     try clear c20b0
     try clear c20b1
     try clear hcz10_0
     try clear hcz10_1
     try clear hcz13_0
     try clear hcz13_1
     try clear hcz15_0
     try clear hcz15_1
     try clear hcz22_0
     try clear hcz22_1
     try clear hcz23_0
     try clear hcz23_1
     try clear hcz8_0
     try clear hcz8_1
     try clear hfz10_0
     try clear hfz10_1
     try clear hfz13_0
     try clear hfz13_1
     try clear hfz15_0
     try clear hfz15_1
     try clear hfz22_0
     try clear hfz22_1
     try clear hfz23_0
     try clear hfz23_1
     try clear hfz8_0
     try clear hfz8_1
     try clear p2
     obtain ⟨kq, x53_16, rfl, HA, HJ16, BK507, HB⟩ := hcut
     cases kq with
     | zero => exact absurd HA.out (by simp [foghornref04_in.j1])
     | succ kj16 =>
      have H := HA.out
      clear HA
      simp only [foghornref04_in.j1] at H
      by_cases c24 : x53_16 = true
      ·subst c24
       have H1 : (some false) = some r := by rw [if_pos rfl] at H; exact H
       clear H
       have H := H1
       clear H1
       obtain rfl := Option.some.inj H
       go_wp2
       go_ret
       exact ⟨by first | rfl | (simp [errW_none, errW_some] <;> rfl) | (simp [*, errW_none, errW_some] <;> rfl), by repeat (first | (with_reducible first | exact HB.out | apply below_alloc | apply pw_below_drewN | apply below_drew1 | refine below_set ?_ GE507.out) | exact HB.out)⟩
      ·replace c24 := Bool.eq_false_iff.mpr c24
       subst c24
       have H1 : (if a0 = 128 then ((foghornref04_size.f a1_0).bind fun t514 => (if t514 ≤ 7 then (some true) else ((foghornref04_size.f a1_1).bind fun t515 => (some (decide (t515 ≤ 7)))))) else (some true)) = some r := by rw [if_neg (show ¬ (false = true) by decide)] at H; exact H
       clear H
       have H := H1
       clear H1
       by_cases c25 : a0 = 128
       ·rw [if_pos c25] at H
        have c25b0 : (a0 == 128) = true := beq_iff_eq.mpr c25
        have c25b1 : (a0 != 128) = false := bne_eq_false_iff_eq.mpr c25
        clear c25
        replace H := Option.bind_eq_some_iff.mp H
        obtain ⟨t514, A260, H⟩ := H
        replace H : (if t514 ≤ 7 then (some true) else ((foghornref04_size.f a1_1).bind fun t515 => (some (decide (t515 ≤ 7))))) = some r := H
        have A26 := Aside0.mk A260
        clear A260
        by_cases c27 : t514 ≤ 7
        ·rw [if_pos c27] at H
         have c27b0 : decide (t514 ≤ 7) = true := decide_eq_true c27
         clear c27
         obtain rfl := Option.some.inj H
         have hcz28_0 : wc.cell? ⟨gb507, 0, none⟩ = some (.int .i64 a1_0) := (blk_cell BK507.out 0).trans rfl
         have hcz28_1 : wc.cell? ⟨gb507, 1, none⟩ = some (.int .i64 a1_1) := (blk_cell BK507.out 1).trans rfl
         have hfz28_0 := blk_frozen BK507.out 0
         have hfz28_1 := blk_frozen BK507.out 1
         go_wp2_with (go_at_call 172; (with_reducible refine (foghornref04_size.calls a1_0 t514 _ A26.out).mono ?_); rintro e w' ⟨rfl, ⟨nd, rfl⟩⟩)
         go_ret
         exact ⟨by first | rfl | (simp [errW_none, errW_some] <;> rfl) | (simp [*, errW_none, errW_some] <;> rfl), by repeat (first | (with_reducible first | exact HB.out | apply below_alloc | apply pw_below_drewN | apply below_drew1 | refine below_set ?_ GE507.out) | exact HB.out)⟩
        ·rw [if_neg c27] at H
         have c27b0 : decide (t514 ≤ 7) = false := decide_eq_false c27
         clear c27
         replace H := Option.bind_eq_some_iff.mp H
         obtain ⟨t515, A290, H⟩ := H
         replace H : (some (decide (t515 ≤ 7))) = some r := H
         have A29 := Aside0.mk A290
         clear A290
         obtain rfl := Option.some.inj H
         have hcz30_0 : wc.cell? ⟨gb507, 0, none⟩ = some (.int .i64 a1_0) := (blk_cell BK507.out 0).trans rfl
         have hcz30_1 : wc.cell? ⟨gb507, 1, none⟩ = some (.int .i64 a1_1) := (blk_cell BK507.out 1).trans rfl
         have hfz30_0 := blk_frozen BK507.out 0
         have hfz30_1 := blk_frozen BK507.out 1
         go_wp2_with (first | (go_at_call 172; (with_reducible refine (foghornref04_size.calls a1_0 t514 _ A26.out).mono ?_); rintro e w' ⟨rfl, ⟨nd, rfl⟩⟩) | (go_at_call 172; (with_reducible refine (foghornref04_size.calls a1_1 t515 _ A29.out).mono ?_); rintro e w' ⟨rfl, ⟨nd, rfl⟩⟩))
         go_ret
         exact ⟨by first | rfl | (simp [errW_none, errW_some] <;> rfl) | (simp [*, errW_none, errW_some] <;> rfl), by repeat (first | (with_reducible first | exact HB.out | apply below_alloc | apply pw_below_drewN | apply below_drew1 | refine below_set ?_ GE507.out) | exact HB.out)⟩
       ·rw [if_neg c25] at H
        have c25b0 : (a0 == 128) = false := beq_eq_false_iff_ne.mpr c25
        have c25b1 : (a0 != 128) = true := bne_iff_ne.mpr c25
        obtain rfl := Option.some.inj H
        go_wp2
        go_ret
        exact ⟨by first | rfl | (simp [errW_none, errW_some] <;> rfl) | (simp [*, errW_none, errW_some] <;> rfl), by repeat (first | (with_reducible first | exact HB.out | apply below_alloc | apply pw_below_drewN | apply below_drew1 | refine below_set ?_ GE507.out) | exact HB.out)⟩
set_option maxHeartbeats 8000000 in
set_option maxRecDepth 100000 in
theorem foghornref04_Bits.calls (a0 : Int) (r1 : Int) (r2 : Int) (w : World) (h : foghornref04_Bits.f a0 = some (r1, r2)) :
  Calls Try.prog 173 #[.int .i64 a0] w fun e w' => e = .returned (.tuple #[.int .i64 r1, .int .i64 r2]) ∧ Drawn0 w w' := by
 have H : (if a0 = 4 then (some (2, 0)) else (if a0 = 16 then (some (4, 0)) else (if a0 = 32 then (some (5, 0)) else (if a0 = 64 then (some (6, 0)) else (if a0 = 128 then (some (7, 0)) else (if a0 = 256 then (some (8, 0)) else (some (0, 1)))))))) = some (r1, r2) := h
 clear h
 by_cases c2 : a0 = 4
 ·rw [if_pos c2] at H
  have c2b0 : (a0 == 4) = true := beq_iff_eq.mpr c2
  have c2b1 : (a0 != 4) = false := bne_eq_false_iff_eq.mpr c2
  clear c2
  simp only [Option.some.injEq, Prod.mk.injEq] at H
  obtain ⟨rfl, rfl⟩ := H
  go_enter Try.func173, Try.ntmps173
  go_wp2
  go_ret2
  exact ⟨by first | rfl | (simp; done) | (simp [*]; done), by repeat (first | exact Drawn0.refl _ | apply Drawn0.step)⟩
 ·rw [if_neg c2] at H
  have c2b0 : (a0 == 4) = false := beq_eq_false_iff_ne.mpr c2
  have c2b1 : (a0 != 4) = true := bne_iff_ne.mpr c2
  by_cases c3 : a0 = 16
  ·rw [if_pos c3] at H
   have c3b0 : (a0 == 16) = true := beq_iff_eq.mpr c3
   have c3b1 : (a0 != 16) = false := bne_eq_false_iff_eq.mpr c3
   clear c3
   simp only [Option.some.injEq, Prod.mk.injEq] at H
   obtain ⟨rfl, rfl⟩ := H
   go_enter Try.func173, Try.ntmps173
   go_wp2
   go_ret2
   exact ⟨by first | rfl | (simp; done) | (simp [*]; done), by repeat (first | exact Drawn0.refl _ | apply Drawn0.step)⟩
  ·rw [if_neg c3] at H
   have c3b0 : (a0 == 16) = false := beq_eq_false_iff_ne.mpr c3
   have c3b1 : (a0 != 16) = true := bne_iff_ne.mpr c3
   by_cases c4 : a0 = 32
   ·rw [if_pos c4] at H
    have c4b0 : (a0 == 32) = true := beq_iff_eq.mpr c4
    have c4b1 : (a0 != 32) = false := bne_eq_false_iff_eq.mpr c4
    clear c4
    simp only [Option.some.injEq, Prod.mk.injEq] at H
    obtain ⟨rfl, rfl⟩ := H
    go_enter Try.func173, Try.ntmps173
    go_wp2
    go_ret2
    exact ⟨by first | rfl | (simp; done) | (simp [*]; done), by repeat (first | exact Drawn0.refl _ | apply Drawn0.step)⟩
   ·rw [if_neg c4] at H
    have c4b0 : (a0 == 32) = false := beq_eq_false_iff_ne.mpr c4
    have c4b1 : (a0 != 32) = true := bne_iff_ne.mpr c4
    by_cases c5 : a0 = 64
    ·rw [if_pos c5] at H
     have c5b0 : (a0 == 64) = true := beq_iff_eq.mpr c5
     have c5b1 : (a0 != 64) = false := bne_eq_false_iff_eq.mpr c5
     clear c5
     simp only [Option.some.injEq, Prod.mk.injEq] at H
     obtain ⟨rfl, rfl⟩ := H
     go_enter Try.func173, Try.ntmps173
     go_wp2
     go_ret2
     exact ⟨by first | rfl | (simp; done) | (simp [*]; done), by repeat (first | exact Drawn0.refl _ | apply Drawn0.step)⟩
    ·rw [if_neg c5] at H
     have c5b0 : (a0 == 64) = false := beq_eq_false_iff_ne.mpr c5
     have c5b1 : (a0 != 64) = true := bne_iff_ne.mpr c5
     by_cases c6 : a0 = 128
     ·rw [if_pos c6] at H
      have c6b0 : (a0 == 128) = true := beq_iff_eq.mpr c6
      have c6b1 : (a0 != 128) = false := bne_eq_false_iff_eq.mpr c6
      clear c6
      simp only [Option.some.injEq, Prod.mk.injEq] at H
      obtain ⟨rfl, rfl⟩ := H
      go_enter Try.func173, Try.ntmps173
      go_wp2
      go_ret2
      exact ⟨by first | rfl | (simp; done) | (simp [*]; done), by repeat (first | exact Drawn0.refl _ | apply Drawn0.step)⟩
     ·rw [if_neg c6] at H
      have c6b0 : (a0 == 128) = false := beq_eq_false_iff_ne.mpr c6
      have c6b1 : (a0 != 128) = true := bne_iff_ne.mpr c6
      by_cases c7 : a0 = 256
      ·rw [if_pos c7] at H
       have c7b0 : (a0 == 256) = true := beq_iff_eq.mpr c7
       have c7b1 : (a0 != 256) = false := bne_eq_false_iff_eq.mpr c7
       clear c7
       simp only [Option.some.injEq, Prod.mk.injEq] at H
       obtain ⟨rfl, rfl⟩ := H
       go_enter Try.func173, Try.ntmps173
       go_wp2
       go_ret2
       exact ⟨by first | rfl | (simp; done) | (simp [*]; done), by repeat (first | exact Drawn0.refl _ | apply Drawn0.step)⟩
      ·rw [if_neg c7] at H
       have c7b0 : (a0 == 256) = false := beq_eq_false_iff_ne.mpr c7
       have c7b1 : (a0 != 256) = true := bne_iff_ne.mpr c7
       simp only [Option.some.injEq, Prod.mk.injEq] at H
       obtain ⟨rfl, rfl⟩ := H
       go_enter Try.func173, Try.ntmps173
       go_wp2
       go_ret2
       exact ⟨by first | rfl | (simp; done) | (simp [*]; done), by repeat (first | exact Drawn0.refl _ | apply Drawn0.step)⟩
set_option maxHeartbeats 8000000 in
set_option maxRecDepth 100000 in
theorem foghornref01_power.calls (k : Nat) (a0 : Int) (r : Int) (w : World) (h : foghornref01_power.f k a0 = some r) :
  Calls Try.prog 180 #[.int .i64 a0] w fun e w' => e = .returned (.int .i64 r) ∧ Drawn0 w w' := by
 have H : (foghornref01_power.l0 k a0 1 0) = some r := h
 clear h
 have H' := Aside0.mk H
 clear H
 go_enter Try.func180, Try.ntmps180
 go_wp2
 go_loopg [3, 4] k (fun kq v3 v4 w' => ∃ (x3_1 : Int) (x4_1 : Int), v3 = .int .i64 x3_1 ∧ v4 = .int .i64 x4_1 ∧ Aside0 (foghornref01_power.l0 kq a0 x3_1 x4_1 = some r) ∧ Aside0 (kq ≤ k) ∧ Drawn0 w w')
 case atStart => exact ⟨(1), (0), (by first | rfl | (simp; done) | (simp [*]; done)), (by first | rfl | (simp; done) | (simp [*]; done)), H', ⟨Nat.le_refl _⟩, by repeat (first | exact Drawn0.refl _ | apply Drawn0.step)⟩
 case round =>
  clear H'
  try clear c1
  obtain ⟨x3_1, x4_1, rfl, rfl, HA, HK1, ⟨m1, rfl⟩⟩ := hrel
  cases gk with
  | zero => exact absurd HA.out (by simp [foghornref01_power.l0])
  | succ k1 =>
   have H := HA.out
   clear HA
   simp only [foghornref01_power.l0] at H
   by_cases c2 : x4_1 < a0
   ·rw [if_pos c2] at H
    have c2b0 : decide (x4_1 < a0) = true := decide_eq_true c2
    clear c2
    have H' := Aside0.mk H
    clear H
    go_wp2
    first | go_roundg k1 | (simp only [add_plain] at *; go_roundg k1)
    case measure => have := HK1.out; omega
    case rel => exact ⟨(wrap64 (2 * x3_1)), (wrap64 (x4_1 + 1)), (by first | rfl | (simp; done) | (simp [*]; done)), (by first | rfl | (simp; done) | (simp [*]; done)), H', ⟨by have := HK1.out; omega⟩, by repeat (first | exact Drawn0.refl _ | apply Drawn0.step)⟩
   ·rw [if_neg c2] at H
    have c2b0 : decide (x4_1 < a0) = false := decide_eq_false c2
    clear c2
    obtain rfl := Option.some.inj H
    go_wp2
    go_ret
    exact ⟨by first | rfl | (simp; done) | (simp [*]; done), by repeat (first | exact Drawn0.refl _ | apply Drawn0.step)⟩
set_option maxHeartbeats 8000000 in
set_option maxRecDepth 100000 in
theorem foghornref01_gray.calls (k : Nat) (a0 : Int) (r : Int) (w : World) (h : foghornref01_gray.f k a0 = some r) :
  Calls Try.prog 177 #[.int .i64 a0] w fun e w' => e = .returned (.int .i64 r) ∧ Drawn0 w w' := by
 have H : (foghornref01_gray.l0 k a0 0 0) = some r := h
 clear h
 have H' := Aside0.mk H
 clear H
 go_enter Try.func177, Try.ntmps177
 go_wp2
 go_loopg [3, 4] k (fun kq v3 v4 w' => ∃ (x3_1 : Int) (x4_1 : Int), v3 = .int .i64 x3_1 ∧ v4 = .int .i64 x4_1 ∧ Aside0 (foghornref01_gray.l0 kq a0 x3_1 x4_1 = some r) ∧ Aside0 (kq ≤ k) ∧ Drawn0 w w')
 case atStart => exact ⟨(0), (0), (by first | rfl | (simp; done) | (simp [*]; done)), (by first | rfl | (simp; done) | (simp [*]; done)), H', ⟨Nat.le_refl _⟩, by repeat (first | exact Drawn0.refl _ | apply Drawn0.step)⟩
 case round =>
  clear H'
  try clear c1
  obtain ⟨x3_1, x4_1, rfl, rfl, HA, HK1, ⟨m1, rfl⟩⟩ := hrel
  cases gk with
  | zero => exact absurd HA.out (by simp [foghornref01_gray.l0])
  | succ k1 =>
   have H := HA.out
   clear HA
   simp only [foghornref01_gray.l0] at H
   by_cases c2 : x4_1 < 16
   ·rw [if_pos c2] at H
    have c2b0 : decide (x4_1 < 16) = true := decide_eq_true c2
    clear c2
    replace H := Option.bind_eq_some_iff.mp H
    obtain ⟨t516, A30, H⟩ := H
    replace H : (if t516 = 0 then (none) else ((foghornref01_power.f k1 (wrap64 (x4_1 + 1))).bind fun t517 => (if t517 = 0 then (none) else (if (Int.tmod (wrap64 (Int.tdiv a0 t516)) 2) = (Int.tmod (wrap64 (Int.tdiv a0 t517)) 2) then (foghornref01_gray.l0 k1 a0 x3_1 (wrap64 (x4_1 + 1))) else ((foghornref01_power.f k1 x4_1).bind fun t518 => (foghornref01_gray.l0 k1 a0 (wrap64 (x3_1 + t518)) (wrap64 (x4_1 + 1)))))))) = some r := H
    have A3 := Aside0.mk A30
    clear A30
    by_cases c4 : t516 = 0
    ·rw [if_pos c4] at H
     exact absurd H (by simp)
    ·rw [if_neg c4] at H
     have c4b0 : (t516 == 0) = false := beq_eq_false_iff_ne.mpr c4
     have c4b1 : (t516 != 0) = true := bne_iff_ne.mpr c4
     replace H := Option.bind_eq_some_iff.mp H
     obtain ⟨t517, A50, H⟩ := H
     replace H : (if t517 = 0 then (none) else (if (Int.tmod (wrap64 (Int.tdiv a0 t516)) 2) = (Int.tmod (wrap64 (Int.tdiv a0 t517)) 2) then (foghornref01_gray.l0 k1 a0 x3_1 (wrap64 (x4_1 + 1))) else ((foghornref01_power.f k1 x4_1).bind fun t518 => (foghornref01_gray.l0 k1 a0 (wrap64 (x3_1 + t518)) (wrap64 (x4_1 + 1)))))) = some r := H
     have A5 := Aside0.mk A50
     clear A50
     by_cases c6 : t517 = 0
     ·rw [if_pos c6] at H
      exact absurd H (by simp)
     ·rw [if_neg c6] at H
      have c6b0 : (t517 == 0) = false := beq_eq_false_iff_ne.mpr c6
      have c6b1 : (t517 != 0) = true := bne_iff_ne.mpr c6
      by_cases c7 : (Int.tmod (wrap64 (Int.tdiv a0 t516)) 2) = (Int.tmod (wrap64 (Int.tdiv a0 t517)) 2)
      ·rw [if_pos c7] at H
       have c7b0 : ((Int.tmod (wrap64 (Int.tdiv a0 t516)) 2) == (Int.tmod (wrap64 (Int.tdiv a0 t517)) 2)) = true := beq_iff_eq.mpr c7
       have c7b1 : ((Int.tmod (wrap64 (Int.tdiv a0 t516)) 2) != (Int.tmod (wrap64 (Int.tdiv a0 t517)) 2)) = false := bne_eq_false_iff_eq.mpr c7
       clear c7
       have H' := Aside0.mk H
       clear H
       go_wp2
       repeat (go_quiet (first | (go_at_call 180; (with_reducible refine (foghornref01_power.calls k1 x4_1 t516 _ A3.out).mono ?_); rintro e w' ⟨rfl, ⟨nd, rfl⟩⟩; (try first | exact ⟨rfl, _, World.drewN_drewN _ _ _⟩ | exact ⟨rfl, _, Eq.trans (World.drewN_drewN _ _ _) (congrArg (World.drewN _) (Nat.add_assoc _ _ _))⟩)) | (go_at_call 180; (with_reducible refine (foghornref01_power.calls k1 (wrap64 (x4_1 + 1)) t517 _ A5.out).mono ?_); rintro e w' ⟨rfl, ⟨nd, rfl⟩⟩; (try first | exact ⟨rfl, _, World.drewN_drewN _ _ _⟩ | exact ⟨rfl, _, Eq.trans (World.drewN_drewN _ _ _) (congrArg (World.drewN _) (Nat.add_assoc _ _ _))⟩))); try go_wp2)
       first | go_roundg k1 | (simp only [add_plain] at *; go_roundg k1)
       case measure => have := HK1.out; omega
       case rel => exact ⟨(x3_1), (wrap64 (x4_1 + 1)), (by first | rfl | (simp; done) | (simp [*]; done)), (by first | rfl | (simp; done) | (simp [*]; done)), H', ⟨by have := HK1.out; omega⟩, by repeat (first | exact Drawn0.refl _ | apply Drawn0.step)⟩
      ·rw [if_neg c7] at H
       have c7b0 : ((Int.tmod (wrap64 (Int.tdiv a0 t516)) 2) == (Int.tmod (wrap64 (Int.tdiv a0 t517)) 2)) = false := beq_eq_false_iff_ne.mpr c7
       have c7b1 : ((Int.tmod (wrap64 (Int.tdiv a0 t516)) 2) != (Int.tmod (wrap64 (Int.tdiv a0 t517)) 2)) = true := bne_iff_ne.mpr c7
       replace H := Option.bind_eq_some_iff.mp H
       obtain ⟨t518, A80, H⟩ := H
       replace H : (foghornref01_gray.l0 k1 a0 (wrap64 (x3_1 + t518)) (wrap64 (x4_1 + 1))) = some r := H
       have A8 := Aside0.mk A80
       clear A80
       obtain rfl := Option.some.inj (A3.out.symm.trans A8.out)
       have H' := Aside0.mk H
       clear H
       go_wp2
       repeat (go_quiet (first | (go_at_call 180; (with_reducible refine (foghornref01_power.calls k1 x4_1 t516 _ A3.out).mono ?_); rintro e w' ⟨rfl, ⟨nd, rfl⟩⟩; (try first | exact ⟨rfl, _, World.drewN_drewN _ _ _⟩ | exact ⟨rfl, _, Eq.trans (World.drewN_drewN _ _ _) (congrArg (World.drewN _) (Nat.add_assoc _ _ _))⟩)) | (go_at_call 180; (with_reducible refine (foghornref01_power.calls k1 (wrap64 (x4_1 + 1)) t517 _ A5.out).mono ?_); rintro e w' ⟨rfl, ⟨nd, rfl⟩⟩; (try first | exact ⟨rfl, _, World.drewN_drewN _ _ _⟩ | exact ⟨rfl, _, Eq.trans (World.drewN_drewN _ _ _) (congrArg (World.drewN _) (Nat.add_assoc _ _ _))⟩))); try go_wp2_with (go_at_call 180; (with_reducible refine (foghornref01_power.calls k1 x4_1 t516 _ A3.out).mono ?_); rintro e w' ⟨rfl, ⟨nd, rfl⟩⟩; (try first | exact ⟨rfl, _, World.drewN_drewN _ _ _⟩ | exact ⟨rfl, _, Eq.trans (World.drewN_drewN _ _ _) (congrArg (World.drewN _) (Nat.add_assoc _ _ _))⟩)))
       first | go_roundg k1 | (simp only [add_plain] at *; go_roundg k1)
       case measure => have := HK1.out; omega
       case rel => exact ⟨(wrap64 (x3_1 + t516)), (wrap64 (x4_1 + 1)), (by first | rfl | (simp; done) | (simp [*]; done)), (by first | rfl | (simp; done) | (simp [*]; done)), H', ⟨by have := HK1.out; omega⟩, by repeat (first | exact Drawn0.refl _ | apply Drawn0.step)⟩
   ·rw [if_neg c2] at H
    have c2b0 : decide (x4_1 < 16) = false := decide_eq_false c2
    clear c2
    obtain rfl := Option.some.inj H
    go_wp2
    go_ret
    exact ⟨by first | rfl | (simp; done) | (simp [*]; done), by repeat (first | exact Drawn0.refl _ | apply Drawn0.step)⟩
set_option maxHeartbeats 8000000 in
set_option maxRecDepth 100000 in
theorem foghornref01_Gray.calls (k : Nat) (a0 : Int) (r1 : Int) (r2 : Int) (w : World) (h : foghornref01_Gray.f k a0 = some (r1, r2)) :
  Calls Try.prog 174 #[.int .i64 a0] w fun e w' => e = .returned (.tuple #[.int .i64 r1, .int .i64 r2]) ∧ Drawn0 w w' := by
 have H : (if a0 < 0 then (some (0, 1)) else (if a0 > 65535 then (some (0, 1)) else ((foghornref01_gray.f k a0).bind fun t519 => (some (t519, 0))))) = some (r1, r2) := h
 clear h
 by_cases c2 : a0 < 0
 ·rw [if_pos c2] at H
  have c2b0 : decide (a0 < 0) = true := decide_eq_true c2
  clear c2
  simp only [Option.some.injEq, Prod.mk.injEq] at H
  obtain ⟨rfl, rfl⟩ := H
  go_enter Try.func174, Try.ntmps174
  go_wp2
  go_ret2
  exact ⟨by first | rfl | (simp; done) | (simp [*]; done), by repeat (first | exact Drawn0.refl _ | apply Drawn0.step)⟩
 ·rw [if_neg c2] at H
  have c2b0 : decide (a0 < 0) = false := decide_eq_false c2
  clear c2
  by_cases c3 : a0 > 65535
  ·rw [if_pos c3] at H
   have c3b0 : decide (65535 < a0) = true := decide_eq_true c3
   clear c3
   simp only [Option.some.injEq, Prod.mk.injEq] at H
   obtain ⟨rfl, rfl⟩ := H
   go_enter Try.func174, Try.ntmps174
   go_wp2
   go_ret2
   exact ⟨by first | rfl | (simp; done) | (simp [*]; done), by repeat (first | exact Drawn0.refl _ | apply Drawn0.step)⟩
  ·rw [if_neg c3] at H
   have c3b0 : decide (65535 < a0) = false := decide_eq_false c3
   clear c3
   replace H := Option.bind_eq_some_iff.mp H
   obtain ⟨t519, A40, H⟩ := H
   replace H : (some (t519, 0)) = some (r1, r2) := H
   have A4 := Aside0.mk A40
   clear A40
   simp only [Option.some.injEq, Prod.mk.injEq] at H
   obtain ⟨rfl, rfl⟩ := H
   go_enter Try.func174, Try.ntmps174
   go_wp2_with ((with_reducible refine gate_callee (f := 177) rfl ?_); refine goesL_ (some 11) rfl rfl Try.func177 (by kernel_rfl) rfl #[.int .i64 a0] rfl (by (try simp only [List.map_toArray, List.map_cons, List.map_nil]); first | done | rfl | (simp only [List.length_drop, List.length_take]; rfl)) ?_; (with_reducible refine (foghornref01_gray.calls k a0 t519 _ A4.out).mono ?_); rintro e w' ⟨rfl, ⟨nd, rfl⟩⟩; refine ⟨_, rfl, ?_⟩)
   go_ret2
   exact ⟨by first | rfl | (simp; done) | (simp [*]; done), by repeat (first | exact Drawn0.refl _ | apply Drawn0.step)⟩
set_option maxHeartbeats 8000000 in
set_option maxRecDepth 100000 in
theorem foghornref04_label.calls (k : Nat) (a0 : Int) (a1_0 : Int) (a1_1 : Int) (r : Int) (w : World) (h : foghornref04_label.f k a0 a1_0 a1_1 = some r) :
  Calls Try.prog 162 #[.int .i64 a0, .agg #[.int .i64 a1_0, .int .i64 a1_1]] w fun e w' => e = .returned (.int .i64 r) ∧ Below w.heap.size w w' := by
 have hu220 := Try.underlying220
 have HB := Aside0.mk (Below.refl w.heap.size w)
 have H : ((foghornref04_Edge.f a0).bind fun bt521 => (if a0 = 32 then (foghornref04_label.j0 k a0 bt521.1 false a1_0 a1_1) else (foghornref04_label.j0 k a0 bt521.1 (a0 != 128) a1_0 a1_1))) = some r := h
 clear h
 replace H := Option.bind_eq_some_iff.mp H
 obtain ⟨⟨t521, t522⟩, A30, H⟩ := H
 replace H : (if a0 = 32 then (foghornref04_label.j0 k a0 t521 false a1_0 a1_1) else (foghornref04_label.j0 k a0 t521 (a0 != 128) a1_0 a1_1)) = some r := H
 have A3 := Aside0.mk A30
 clear A30
 have HC4 := Aside0.mk H
 clear H
 go_enter Try.func162, Try.ntmps162
 go_upto_region 2 with (first | ((with_reducible refine gate_dst (N := 3) rfl ?_); refine box_event ?hg (N := 3) ?hd (cs := #[.int .i64 a1_0, .int .i64 a1_1]) (t := 220) ?hr ?_; (case hd => rfl); (case hg => rfl); (case hr => first | (go_simp; done) | (go_simp; rfl)); intro gb520 hg w5 hbox hb; have n0_ := Aside0.mk (below_step (by repeat (first | (with_reducible first | exact HB.out | apply below_alloc | apply pw_below_drewN | apply below_drew1) | exact HB.out)) hb); have n1_ := Aside0.mk (hbox); have n2_ := Aside0.mk ((by rw [hg]; exact (below_size (by repeat (first | (with_reducible first | exact HB.out | apply below_alloc | apply pw_below_drewN | apply below_drew1) | exact HB.out))) : w.heap.size ≤ gb520)); have n3_ := Aside0.mk ((by rw [hg]; exact (below_size (by repeat (first | (with_reducible first | exact HB.out | apply below_alloc | apply pw_below_drewN | apply below_drew1) | exact HB.out))) : w.heap.size ≤ gb520)); clear HB; have HB := n0_; have BK520 := n1_; have GW520 := n2_; have GE520 := n3_; clear n0_ n1_ n2_ n3_; clear hb hbox hg) | ((with_reducible refine gate_callee (f := 65) rfl ?_); refine goesL_ (some 19) rfl rfl Try.func65 (by kernel_rfl) rfl #[.int .i64 a0] rfl (by (try simp only [List.map_toArray, List.map_cons, List.map_nil]); first | done | rfl | (simp only [List.length_drop, List.length_take]; rfl)) ?_; (with_reducible refine (foghornref04_Edge.calls a0 t521 t522 _ A3.out).mono ?_); rintro e w' ⟨rfl, ⟨nd, rfl⟩⟩; refine ⟨_, rfl, ?_⟩))
 (try simp only [Act.put, List.setIfInBounds_toArray, List.set_cons_zero, List.set_cons_succ])
 go_cut [27] (fun v27 wc => ∃ (kq : Nat) (x27_3 : Bool), v27 = .bool x27_3 ∧ Aside0 (foghornref04_label.j0 kq a0 t521 x27_3 a1_0 a1_1 = some r) ∧ Aside0 (kq ≤ k) ∧ Aside0 (wc.heap[gb520]? = some (.cells #[.int .i64 a1_0, .int .i64 a1_1] 220 (0, 0))) ∧ Aside0 (Below w.heap.size w wc))
 case first =>
  have H := HC4.out
  clear HC4
  by_cases c6 : a0 = 32
  ·rw [if_pos c6] at H
   have c6b0 : (a0 == 32) = true := beq_iff_eq.mpr c6
   have c6b1 : (a0 != 32) = false := bne_eq_false_iff_eq.mpr c6
   clear c6
   (first | rw [c6b0] | (simp only [i64_w, i32_w]; rw [c6b0]) | skip)
   have H' := Aside0.mk H
   clear H
   go_wp2
   go_meet
   case rel => exact ⟨_, (false), (by first | rfl | (simp; done) | (simp [*]; done)), H', ⟨by first | omega | exact Nat.le_refl _⟩, ⟨by (with_reducible repeat (first | refine blk_drewN ?_ _ | refine blk_drew ?_ | refine blk_alloc ?_ _)); exact BK520.out⟩, ⟨by repeat (first | (with_reducible first | exact HB.out | apply below_alloc | apply pw_below_drewN | apply below_drew1 | refine below_set ?_ GE520.out) | exact HB.out)⟩⟩
  ·rw [if_neg c6] at H
   have c6b0 : (a0 == 32) = false := beq_eq_false_iff_ne.mpr c6
   have c6b1 : (a0 != 32) = true := bne_iff_ne.mpr c6
   (first | rw [c6b0] | (simp only [i64_w, i32_w]; rw [c6b0]) | skip)
   have H' := Aside0.mk H
   clear H
   go_wp2
   go_meet
   case rel => exact ⟨_, ((a0 != 128)), (by first | rfl | (simp; done) | (simp [*]; done)), H', ⟨by first | omega | exact Nat.le_refl _⟩, ⟨by (with_reducible repeat (first | refine blk_drewN ?_ _ | refine blk_drew ?_ | refine blk_alloc ?_ _)); exact BK520.out⟩, ⟨by repeat (first | (with_reducible first | exact HB.out | apply below_alloc | apply pw_below_drewN | apply below_drew1 | refine below_set ?_ GE520.out) | exact HB.out)⟩⟩
 case rest =>
  clear HC4
  try clear c1
  try clear p2
  try clear c6
  try clear c6b0
  try clear c6b1
  obtain ⟨kq, x27_3, rfl, HA, HJ3, BK520, HB⟩ := hcut
  cases kq with
  | zero => exact absurd HA.out (by simp [foghornref04_label.j0])
  | succ kj3 =>
   have H := HA.out
   clear HA
   simp only [foghornref04_label.j0] at H
   by_cases c7 : x27_3 = true
   ·subst c7
    have H1 : ((foghornref04_Bits.f a0).bind fun bt523 => ((foghornref01_Gray.f kj3 (wrap64 (Int.tdiv (wrap64 (a1_0 + t521)) 2))).bind fun bt525 => ((foghornref01_Gray.f kj3 (wrap64 (Int.tdiv (wrap64 (a1_1 + t521)) 2))).bind fun bt527 => (foghornref04_label.l0 kj3 bt523.1 bt525.1 bt527.1 0)))) = some r := by rw [if_pos rfl] at H; exact H
    clear H
    have H := H1
    clear H1
    replace H := Option.bind_eq_some_iff.mp H
    obtain ⟨⟨t523, t524⟩, A80, H⟩ := H
    replace H : ((foghornref01_Gray.f kj3 (wrap64 (Int.tdiv (wrap64 (a1_0 + t521)) 2))).bind fun bt525 => ((foghornref01_Gray.f kj3 (wrap64 (Int.tdiv (wrap64 (a1_1 + t521)) 2))).bind fun bt527 => (foghornref04_label.l0 kj3 t523 bt525.1 bt527.1 0))) = some r := H
    have A8 := Aside0.mk A80
    clear A80
    replace H := Option.bind_eq_some_iff.mp H
    obtain ⟨⟨t525, t526⟩, A90, H⟩ := H
    replace H : ((foghornref01_Gray.f kj3 (wrap64 (Int.tdiv (wrap64 (a1_1 + t521)) 2))).bind fun bt527 => (foghornref04_label.l0 kj3 t523 t525 bt527.1 0)) = some r := H
    have A9 := Aside0.mk A90
    clear A90
    replace H := Option.bind_eq_some_iff.mp H
    obtain ⟨⟨t527, t528⟩, A100, H⟩ := H
    replace H : (foghornref04_label.l0 kj3 t523 t525 t527 0) = some r := H
    have A10 := Aside0.mk A100
    clear A100
    have H' := Aside0.mk H
    clear H
    go_wp2_with (first | ((with_reducible refine gate_callee (f := 173) rfl ?_); refine goesL_ (some 30) rfl rfl Try.func173 (by kernel_rfl) rfl #[.int .i64 a0] rfl (by (try simp only [List.map_toArray, List.map_cons, List.map_nil]); first | done | rfl | (simp only [List.length_drop, List.length_take]; rfl)) ?_; (with_reducible refine (foghornref04_Bits.calls a0 t523 t524 _ A8.out).mono ?_); rintro e w' ⟨rfl, ⟨nd, rfl⟩⟩; refine ⟨_, rfl, ?_⟩; have hcz11_0 : wc.cell? ⟨gb520, 0, none⟩ = some (.int .i64 a1_0) := (blk_cell BK520.out 0).trans rfl; have hcz11_1 : wc.cell? ⟨gb520, 1, none⟩ = some (.int .i64 a1_1) := (blk_cell BK520.out 1).trans rfl; have hfz11_0 := blk_frozen BK520.out 0; have hfz11_1 := blk_frozen BK520.out 1) | ((with_reducible refine gate_callee (f := 174) rfl ?_); refine goesL_ (some 39) rfl rfl Try.func174 (by kernel_rfl) rfl #[.int .i64 (wrap64 (Int.tdiv (wrap64 (a1_0 + t521)) 2))] rfl (by (try simp only [List.map_toArray, List.map_cons, List.map_nil]); first | done | rfl | (simp only [List.length_drop, List.length_take]; rfl)) ?_; (with_reducible refine (foghornref01_Gray.calls kj3 (wrap64 (Int.tdiv (wrap64 (a1_0 + t521)) 2)) t525 t526 _ A9.out).mono ?_); rintro e w' ⟨rfl, ⟨nd, rfl⟩⟩; refine ⟨_, rfl, ?_⟩) | ((with_reducible refine gate_callee (f := 174) rfl ?_); refine goesL_ (some 48) rfl rfl Try.func174 (by kernel_rfl) rfl #[.int .i64 (wrap64 (Int.tdiv (wrap64 (a1_1 + t521)) 2))] rfl (by (try simp only [List.map_toArray, List.map_cons, List.map_nil]); first | done | rfl | (simp only [List.length_drop, List.length_take]; rfl)) ?_; (with_reducible refine (foghornref01_Gray.calls kj3 (wrap64 (Int.tdiv (wrap64 (a1_1 + t521)) 2)) t527 t528 _ A10.out).mono ?_); rintro e w' ⟨rfl, ⟨nd, rfl⟩⟩; refine ⟨_, rfl, ?_⟩))
    go_loopg [9, 13] kj3 (fun kq v9 v13 w' => ∃ (x9_2 : Int) (x13_2 : Int), v9 = .int .i64 x9_2 ∧ v13 = .int .i64 x13_2 ∧ Aside0 (foghornref04_label.l0 kq t523 x9_2 t527 x13_2 = some r) ∧ Aside0 (kq ≤ kj3) ∧ Aside0 (w'.heap[gb520]? = some (.cells #[.int .i64 a1_0, .int .i64 a1_1] 220 (0, 0))) ∧ Aside0 (Below w.heap.size w w'))
    case atStart => exact ⟨(t525), (0), (by first | rfl | (simp; done) | (simp [*]; done)), (by first | rfl | (simp; done) | (simp [*]; done)), H', ⟨Nat.le_refl _⟩, ⟨by (with_reducible repeat (first | refine blk_drewN ?_ _ | refine blk_drew ?_ | refine blk_alloc ?_ _)); exact BK520.out⟩, ⟨by repeat (first | (with_reducible first | exact HB.out | apply below_alloc | apply pw_below_drewN | apply below_drew1 | refine below_set ?_ GE520.out) | exact HB.out)⟩⟩
    case round =>
     clear H'
     try clear c1
     try clear p2
     try clear c6
     try clear c6b0
     try clear c6b1
     try clear p6
     try clear c7
     try clear hcz11_0
     try clear hcz11_1
     try clear hfz11_0
     try clear hfz11_1
     try clear p2
     obtain ⟨x9_2, x13_2, rfl, rfl, HA, HK2, BK520, HB⟩ := hrel
     cases gk with
     | zero => exact absurd HA.out (by simp [foghornref04_label.l0])
     | succ k2 =>
      have H := HA.out
      clear HA
      simp only [foghornref04_label.l0] at H
      by_cases c12 : x13_2 < (wrap64 (Int.tdiv t523 2))
      ·rw [if_pos c12] at H
       have c12b0 : decide (x13_2 < (wrap64 (Int.tdiv t523 2))) = true := decide_eq_true c12
       clear c12
       have H' := Aside0.mk H
       clear H
       go_wp2
       first | go_roundg k2 | (simp only [add_plain] at *; go_roundg k2)
       case measure => have := HJ3.out; have := HK2.out; omega
       case rel => exact ⟨(wrap64 (2 * x9_2)), (wrap64 (x13_2 + 1)), (by first | rfl | (simp; done) | (simp [*]; done)), (by first | rfl | (simp; done) | (simp [*]; done)), H', ⟨by have := HJ3.out; have := HK2.out; omega⟩, ⟨by (with_reducible repeat (first | refine blk_drewN ?_ _ | refine blk_drew ?_ | refine blk_alloc ?_ _)); exact BK520.out⟩, ⟨by repeat (first | (with_reducible first | exact HB.out | apply below_alloc | apply pw_below_drewN | apply below_drew1 | refine below_set ?_ GE520.out) | exact HB.out)⟩⟩
      ·rw [if_neg c12] at H
       have c12b0 : decide (x13_2 < (wrap64 (Int.tdiv t523 2))) = false := decide_eq_false c12
       clear c12
       obtain rfl := Option.some.inj H
       go_wp2
       go_ret
       exact ⟨by first | rfl | (simp [errW_none, errW_some] <;> rfl) | (simp [*, errW_none, errW_some] <;> rfl), by repeat (first | (with_reducible first | exact HB.out | apply below_alloc | apply pw_below_drewN | apply below_drew1 | refine below_set ?_ GE520.out) | exact HB.out)⟩
   ·replace c7 := Bool.eq_false_iff.mpr c7
    subst c7
    have H1 : (foghornref04_label.l1 kj3 a0 t521 0 (wrap64 (-t521)) a1_0 a1_1) = some r := by rw [if_neg (show ¬ (false = true) by decide)] at H; exact H
    clear H
    have H := H1
    clear H1
    have H' := Aside0.mk H
    clear H
    go_wp2
    go_loopg [14, 15] kj3 (fun kq v14 v15 w' => ∃ (x14_2 : Int) (x15_2 : Int), v14 = .int .i64 x14_2 ∧ v15 = .int .i64 x15_2 ∧ Aside0 (foghornref04_label.l1 kq a0 t521 x14_2 x15_2 a1_0 a1_1 = some r) ∧ Aside0 (kq ≤ kj3) ∧ Aside0 (w'.heap[gb520]? = some (.cells #[.int .i64 a1_0, .int .i64 a1_1] 220 (0, 0))) ∧ Aside0 (Below w.heap.size w w'))
    case atStart => exact ⟨(0), (wrap64 (-t521)), (by first | rfl | (simp; done) | (simp [*]; done)), (by first | rfl | (simp; done) | (simp [*]; done)), H', ⟨Nat.le_refl _⟩, ⟨by (with_reducible repeat (first | refine blk_drewN ?_ _ | refine blk_drew ?_ | refine blk_alloc ?_ _)); exact BK520.out⟩, ⟨by repeat (first | (with_reducible first | exact HB.out | apply below_alloc | apply pw_below_drewN | apply below_drew1 | refine below_set ?_ GE520.out) | exact HB.out)⟩⟩
    case round =>
     clear H'
     try clear c1
     try clear p2
     try clear c6
     try clear c6b0
     try clear c6b1
     try clear p6
     try clear c7
     try clear c12
     try clear c12b0
     try clear hcz11_0
     try clear hcz11_1
     try clear hfz11_0
     try clear hfz11_1
     try clear p2
     try clear p6
     obtain ⟨x14_2, x15_2, rfl, rfl, HA, HK2, BK520, HB⟩ := hrel
     cases gk with
     | zero => exact absurd HA.out (by simp [foghornref04_label.l1])
     | succ k2 =>
      have H := HA.out
      clear HA
      simp only [foghornref04_label.l1] at H
      by_cases c13 : x15_2 ≤ t521
      ·rw [if_pos c13] at H
       have c13b0 : decide (x15_2 ≤ t521) = true := decide_eq_true c13
       clear c13
       have H' := Aside0.mk H
       clear H
       go_wp2
       go_loopg [14, 16] k2 (fun kq v14 v16 w' => ∃ (x14_3 : Int) (x16_3 : Int), v14 = .int .i64 x14_3 ∧ v16 = .int .i64 x16_3 ∧ Aside0 (foghornref04_label.l2 kq a0 t521 x14_3 x15_2 x16_3 a1_0 a1_1 = some r) ∧ Aside0 (kq ≤ k2) ∧ Aside0 (w'.heap[gb520]? = some (.cells #[.int .i64 a1_0, .int .i64 a1_1] 220 (0, 0))) ∧ Aside0 (Below w.heap.size w w'))
       case atStart => exact ⟨(x14_2), (wrap64 (-t521)), (by first | rfl | (simp; done) | (simp [*]; done)), (by first | rfl | (simp; done) | (simp [*]; done)), H', ⟨Nat.le_refl _⟩, ⟨by (with_reducible repeat (first | refine blk_drewN ?_ _ | refine blk_drew ?_ | refine blk_alloc ?_ _)); exact BK520.out⟩, ⟨by repeat (first | (with_reducible first | exact HB.out | apply below_alloc | apply pw_below_drewN | apply below_drew1 | refine below_set ?_ GE520.out) | exact HB.out)⟩⟩
       case round =>
        clear H'
        try clear c1
        try clear p2
        try clear c6
        try clear c6b0
        try clear c6b1
        try clear p6
        try clear c7
        try clear c12
        try clear c12b0
        try clear c13
        try clear c13b0
        try clear hcz11_0
        try clear hcz11_1
        try clear hfz11_0
        try clear hfz11_1
        try clear p2
        try clear p6
        obtain ⟨x14_3, x16_3, rfl, rfl, HA, HK3, BK520, HB⟩ := hrel
        cases gk with
        | zero => exact absurd HA.out (by simp [foghornref04_label.l2])
        | succ k3 =>
         have H := HA.out
         clear HA
         simp only [foghornref04_label.l2] at H
         by_cases c14 : x16_3 ≤ t521
         ·rw [if_pos c14] at H
          have c14b0 : decide (x16_3 ≤ t521) = true := decide_eq_true c14
          clear c14
          replace H := Option.bind_eq_some_iff.mp H
          obtain ⟨t529, A150, H⟩ := H
          replace H : (if t529 = true then (if x15_2 < a1_0 then (foghornref04_label.l2 k3 a0 t521 (wrap64 (x14_3 + 1)) x15_2 (wrap64 (x16_3 + 1)) a1_0 a1_1) else (if x15_2 = a1_0 then (if x16_3 < a1_1 then (foghornref04_label.l2 k3 a0 t521 (wrap64 (x14_3 + 1)) x15_2 (wrap64 (x16_3 + 1)) a1_0 a1_1) else (foghornref04_label.l2 k3 a0 t521 x14_3 x15_2 (wrap64 (x16_3 + 1)) a1_0 a1_1)) else (foghornref04_label.l2 k3 a0 t521 x14_3 x15_2 (wrap64 (x16_3 + 1)) a1_0 a1_1))) else (foghornref04_label.l2 k3 a0 t521 x14_3 x15_2 (wrap64 (x16_3 + 1)) a1_0 a1_1)) = some r := H
          have A15 := Aside0.mk A150
          clear A150
          by_cases c16 : t529 = true
          ·subst c16
           have H1 : (if x15_2 < a1_0 then (foghornref04_label.l2 k3 a0 t521 (wrap64 (x14_3 + 1)) x15_2 (wrap64 (x16_3 + 1)) a1_0 a1_1) else (if x15_2 = a1_0 then (if x16_3 < a1_1 then (foghornref04_label.l2 k3 a0 t521 (wrap64 (x14_3 + 1)) x15_2 (wrap64 (x16_3 + 1)) a1_0 a1_1) else (foghornref04_label.l2 k3 a0 t521 x14_3 x15_2 (wrap64 (x16_3 + 1)) a1_0 a1_1)) else (foghornref04_label.l2 k3 a0 t521 x14_3 x15_2 (wrap64 (x16_3 + 1)) a1_0 a1_1))) = some r := by rw [if_pos rfl] at H; exact H
           clear H
           have H := H1
           clear H1
           by_cases c17 : x15_2 < a1_0
           ·rw [if_pos c17] at H
            have c17b0 : decide (x15_2 < a1_0) = true := decide_eq_true c17
            clear c17
            have H' := Aside0.mk H
            clear H
            go_wp2_with ((with_reducible refine gate_callee (f := 161) rfl ?_); refine goesL_ (some 80) rfl rfl Try.func161 (by kernel_rfl) rfl #[.int .i64 a0, .agg #[.int .i64 x15_2, .int .i64 x16_3]] rfl (by (try simp only [List.map_toArray, List.map_cons, List.map_nil]); first | done | rfl | (simp only [List.length_drop, List.length_take]; rfl)) ?_; (with_reducible refine (foghornref04_in.calls k3 a0 x15_2 x16_3 true _ A15.out).mono ?_); rintro e w18 ⟨rfl, hb⟩; refine ⟨_, rfl, ?_⟩; have n0_ := Aside0.mk (blk_below (g := gb520) (o := .cells #[.int .i64 a1_0, .int .i64 a1_1] 220 (0, 0)) (by (with_reducible repeat (first | refine blk_drewN ?_ _ | refine blk_drew ?_ | refine blk_alloc ?_ _)); exact BK520.out) hb); have n1_ := Aside0.mk (below_step (by repeat (first | (with_reducible first | exact HB.out | apply below_alloc | apply pw_below_drewN | apply below_drew1 | refine below_set ?_ GE520.out) | exact HB.out)) hb); clear BK520; clear HB; have BK520 := n0_; have HB := n1_; clear n0_ n1_; (try clear hb); (try clear hb2); (try clear hk); (try clear hi); have hcz19_0 : w18.cell? ⟨gb520, 0, none⟩ = some (.int .i64 a1_0) := (blk_cell BK520.out 0).trans rfl; have hcz19_1 : w18.cell? ⟨gb520, 1, none⟩ = some (.int .i64 a1_1) := (blk_cell BK520.out 1).trans rfl; have hfz19_0 := blk_frozen BK520.out 0; have hfz19_1 := blk_frozen BK520.out 1)
            first | go_roundg k3 | (simp only [add_plain] at *; go_roundg k3)
            case measure => have := HJ3.out; have := HK2.out; have := HK3.out; omega
            case rel => exact ⟨(wrap64 (x14_3 + 1)), (wrap64 (x16_3 + 1)), (by first | rfl | (simp; done) | (simp [*]; done)), (by first | rfl | (simp; done) | (simp [*]; done)), H', ⟨by have := HJ3.out; have := HK2.out; have := HK3.out; omega⟩, ⟨by (with_reducible repeat (first | refine blk_drewN ?_ _ | refine blk_drew ?_ | refine blk_alloc ?_ _)); exact BK520.out⟩, ⟨by repeat (first | (with_reducible first | exact HB.out | apply below_alloc | apply pw_below_drewN | apply below_drew1 | refine below_set ?_ GE520.out) | exact HB.out)⟩⟩
           ·rw [if_neg c17] at H
            have c17b0 : decide (x15_2 < a1_0) = false := decide_eq_false c17
            clear c17
            by_cases c20 : x15_2 = a1_0
            ·rw [if_pos c20] at H
             have c20b0 : (x15_2 == a1_0) = true := beq_iff_eq.mpr c20
             have c20b1 : (x15_2 != a1_0) = false := bne_eq_false_iff_eq.mpr c20
             clear c20
             by_cases c21 : x16_3 < a1_1
             ·rw [if_pos c21] at H
              have c21b0 : decide (x16_3 < a1_1) = true := decide_eq_true c21
              clear c21
              have H' := Aside0.mk H
              clear H
              go_wp2_with ((with_reducible refine gate_callee (f := 161) rfl ?_); refine goesL_ (some 80) rfl rfl Try.func161 (by kernel_rfl) rfl #[.int .i64 a0, .agg #[.int .i64 x15_2, .int .i64 x16_3]] rfl (by (try simp only [List.map_toArray, List.map_cons, List.map_nil]); first | done | rfl | (simp only [List.length_drop, List.length_take]; rfl)) ?_; (with_reducible refine (foghornref04_in.calls k3 a0 x15_2 x16_3 true _ A15.out).mono ?_); rintro e w22 ⟨rfl, hb⟩; refine ⟨_, rfl, ?_⟩; have n0_ := Aside0.mk (blk_below (g := gb520) (o := .cells #[.int .i64 a1_0, .int .i64 a1_1] 220 (0, 0)) (by (with_reducible repeat (first | refine blk_drewN ?_ _ | refine blk_drew ?_ | refine blk_alloc ?_ _)); exact BK520.out) hb); have n1_ := Aside0.mk (below_step (by repeat (first | (with_reducible first | exact HB.out | apply below_alloc | apply pw_below_drewN | apply below_drew1 | refine below_set ?_ GE520.out) | exact HB.out)) hb); clear BK520; clear HB; have BK520 := n0_; have HB := n1_; clear n0_ n1_; (try clear hb); (try clear hb2); (try clear hk); (try clear hi); have hcz23_0 : w22.cell? ⟨gb520, 0, none⟩ = some (.int .i64 a1_0) := (blk_cell BK520.out 0).trans rfl; have hcz23_1 : w22.cell? ⟨gb520, 1, none⟩ = some (.int .i64 a1_1) := (blk_cell BK520.out 1).trans rfl; have hfz23_0 := blk_frozen BK520.out 0; have hfz23_1 := blk_frozen BK520.out 1)
              first | go_roundg k3 | (simp only [add_plain] at *; go_roundg k3)
              case measure => have := HJ3.out; have := HK2.out; have := HK3.out; omega
              case rel => exact ⟨(wrap64 (x14_3 + 1)), (wrap64 (x16_3 + 1)), (by first | rfl | (simp; done) | (simp [*]; done)), (by first | rfl | (simp; done) | (simp [*]; done)), H', ⟨by have := HJ3.out; have := HK2.out; have := HK3.out; omega⟩, ⟨by (with_reducible repeat (first | refine blk_drewN ?_ _ | refine blk_drew ?_ | refine blk_alloc ?_ _)); exact BK520.out⟩, ⟨by repeat (first | (with_reducible first | exact HB.out | apply below_alloc | apply pw_below_drewN | apply below_drew1 | refine below_set ?_ GE520.out) | exact HB.out)⟩⟩
             ·rw [if_neg c21] at H
              have c21b0 : decide (x16_3 < a1_1) = false := decide_eq_false c21
              clear c21
              have H' := Aside0.mk H
              clear H
              go_wp2_with ((with_reducible refine gate_callee (f := 161) rfl ?_); refine goesL_ (some 80) rfl rfl Try.func161 (by kernel_rfl) rfl #[.int .i64 a0, .agg #[.int .i64 x15_2, .int .i64 x16_3]] rfl (by (try simp only [List.map_toArray, List.map_cons, List.map_nil]); first | done | rfl | (simp only [List.length_drop, List.length_take]; rfl)) ?_; (with_reducible refine (foghornref04_in.calls k3 a0 x15_2 x16_3 true _ A15.out).mono ?_); rintro e w24 ⟨rfl, hb⟩; refine ⟨_, rfl, ?_⟩; have n0_ := Aside0.mk (blk_below (g := gb520) (o := .cells #[.int .i64 a1_0, .int .i64 a1_1] 220 (0, 0)) (by (with_reducible repeat (first | refine blk_drewN ?_ _ | refine blk_drew ?_ | refine blk_alloc ?_ _)); exact BK520.out) hb); have n1_ := Aside0.mk (below_step (by repeat (first | (with_reducible first | exact HB.out | apply below_alloc | apply pw_below_drewN | apply below_drew1 | refine below_set ?_ GE520.out) | exact HB.out)) hb); clear BK520; clear HB; have BK520 := n0_; have HB := n1_; clear n0_ n1_; (try clear hb); (try clear hb2); (try clear hk); (try clear hi); have hcz25_0 : w24.cell? ⟨gb520, 0, none⟩ = some (.int .i64 a1_0) := (blk_cell BK520.out 0).trans rfl; have hcz25_1 : w24.cell? ⟨gb520, 1, none⟩ = some (.int .i64 a1_1) := (blk_cell BK520.out 1).trans rfl; have hfz25_0 := blk_frozen BK520.out 0; have hfz25_1 := blk_frozen BK520.out 1)
              first | go_roundg k3 | (simp only [add_plain] at *; go_roundg k3)
              case measure => have := HJ3.out; have := HK2.out; have := HK3.out; omega
              case rel => exact ⟨(x14_3), (wrap64 (x16_3 + 1)), (by first | rfl | (simp; done) | (simp [*]; done)), (by first | rfl | (simp; done) | (simp [*]; done)), H', ⟨by have := HJ3.out; have := HK2.out; have := HK3.out; omega⟩, ⟨by (with_reducible repeat (first | refine blk_drewN ?_ _ | refine blk_drew ?_ | refine blk_alloc ?_ _)); exact BK520.out⟩, ⟨by repeat (first | (with_reducible first | exact HB.out | apply below_alloc | apply pw_below_drewN | apply below_drew1 | refine below_set ?_ GE520.out) | exact HB.out)⟩⟩
            ·rw [if_neg c20] at H
             have c20b0 : (x15_2 == a1_0) = false := beq_eq_false_iff_ne.mpr c20
             have c20b1 : (x15_2 != a1_0) = true := bne_iff_ne.mpr c20
             have H' := Aside0.mk H
             clear H
             go_wp2_with ((with_reducible refine gate_callee (f := 161) rfl ?_); refine goesL_ (some 80) rfl rfl Try.func161 (by kernel_rfl) rfl #[.int .i64 a0, .agg #[.int .i64 x15_2, .int .i64 x16_3]] rfl (by (try simp only [List.map_toArray, List.map_cons, List.map_nil]); first | done | rfl | (simp only [List.length_drop, List.length_take]; rfl)) ?_; (with_reducible refine (foghornref04_in.calls k3 a0 x15_2 x16_3 true _ A15.out).mono ?_); rintro e w26 ⟨rfl, hb⟩; refine ⟨_, rfl, ?_⟩; have n0_ := Aside0.mk (blk_below (g := gb520) (o := .cells #[.int .i64 a1_0, .int .i64 a1_1] 220 (0, 0)) (by (with_reducible repeat (first | refine blk_drewN ?_ _ | refine blk_drew ?_ | refine blk_alloc ?_ _)); exact BK520.out) hb); have n1_ := Aside0.mk (below_step (by repeat (first | (with_reducible first | exact HB.out | apply below_alloc | apply pw_below_drewN | apply below_drew1 | refine below_set ?_ GE520.out) | exact HB.out)) hb); clear BK520; clear HB; have BK520 := n0_; have HB := n1_; clear n0_ n1_; (try clear hb); (try clear hb2); (try clear hk); (try clear hi); have hcz27_0 : w26.cell? ⟨gb520, 0, none⟩ = some (.int .i64 a1_0) := (blk_cell BK520.out 0).trans rfl; have hcz27_1 : w26.cell? ⟨gb520, 1, none⟩ = some (.int .i64 a1_1) := (blk_cell BK520.out 1).trans rfl; have hfz27_0 := blk_frozen BK520.out 0; have hfz27_1 := blk_frozen BK520.out 1)
             first | go_roundg k3 | (simp only [add_plain] at *; go_roundg k3)
             case measure => have := HJ3.out; have := HK2.out; have := HK3.out; omega
             case rel => exact ⟨(x14_3), (wrap64 (x16_3 + 1)), (by first | rfl | (simp; done) | (simp [*]; done)), (by first | rfl | (simp; done) | (simp [*]; done)), H', ⟨by have := HJ3.out; have := HK2.out; have := HK3.out; omega⟩, ⟨by (with_reducible repeat (first | refine blk_drewN ?_ _ | refine blk_drew ?_ | refine blk_alloc ?_ _)); exact BK520.out⟩, ⟨by repeat (first | (with_reducible first | exact HB.out | apply below_alloc | apply pw_below_drewN | apply below_drew1 | refine below_set ?_ GE520.out) | exact HB.out)⟩⟩
          ·replace c16 := Bool.eq_false_iff.mpr c16
           subst c16
           have H1 : (foghornref04_label.l2 k3 a0 t521 x14_3 x15_2 (wrap64 (x16_3 + 1)) a1_0 a1_1) = some r := by rw [if_neg (show ¬ (false = true) by decide)] at H; exact H
           clear H
           have H := H1
           clear H1
           have H' := Aside0.mk H
           clear H
           go_wp2_with ((with_reducible refine gate_callee (f := 161) rfl ?_); refine goesL_ (some 80) rfl rfl Try.func161 (by kernel_rfl) rfl #[.int .i64 a0, .agg #[.int .i64 x15_2, .int .i64 x16_3]] rfl (by (try simp only [List.map_toArray, List.map_cons, List.map_nil]); first | done | rfl | (simp only [List.length_drop, List.length_take]; rfl)) ?_; (with_reducible refine (foghornref04_in.calls k3 a0 x15_2 x16_3 false _ A15.out).mono ?_); rintro e w28 ⟨rfl, hb⟩; refine ⟨_, rfl, ?_⟩; have n0_ := Aside0.mk (blk_below (g := gb520) (o := .cells #[.int .i64 a1_0, .int .i64 a1_1] 220 (0, 0)) (by (with_reducible repeat (first | refine blk_drewN ?_ _ | refine blk_drew ?_ | refine blk_alloc ?_ _)); exact BK520.out) hb); have n1_ := Aside0.mk (below_step (by repeat (first | (with_reducible first | exact HB.out | apply below_alloc | apply pw_below_drewN | apply below_drew1 | refine below_set ?_ GE520.out) | exact HB.out)) hb); clear BK520; clear HB; have BK520 := n0_; have HB := n1_; clear n0_ n1_; (try clear hb); (try clear hb2); (try clear hk); (try clear hi))
           first | go_roundg k3 | (simp only [add_plain] at *; go_roundg k3)
           case measure => have := HJ3.out; have := HK2.out; have := HK3.out; omega
           case rel => exact ⟨(x14_3), (wrap64 (x16_3 + 1)), (by first | rfl | (simp; done) | (simp [*]; done)), (by first | rfl | (simp; done) | (simp [*]; done)), H', ⟨by have := HJ3.out; have := HK2.out; have := HK3.out; omega⟩, ⟨by (with_reducible repeat (first | refine blk_drewN ?_ _ | refine blk_drew ?_ | refine blk_alloc ?_ _)); exact BK520.out⟩, ⟨by repeat (first | (with_reducible first | exact HB.out | apply below_alloc | apply pw_below_drewN | apply below_drew1 | refine below_set ?_ GE520.out) | exact HB.out)⟩⟩
         ·rw [if_neg c14] at H
          have c14b0 : decide (x16_3 ≤ t521) = false := decide_eq_false c14
          clear c14
          have H' := Aside0.mk H
          clear H
          go_wp2
          first | go_roundg k3 | (simp only [add_plain] at *; go_roundg k3)
          case measure => have := HJ3.out; have := HK2.out; have := HK3.out; omega
          case rel => exact ⟨(x14_3), (wrap64 (x15_2 + 1)), (by first | rfl | (simp; done) | (simp [*]; done)), (by first | rfl | (simp; done) | (simp [*]; done)), H', ⟨by have := HJ3.out; have := HK2.out; have := HK3.out; omega⟩, ⟨by (with_reducible repeat (first | refine blk_drewN ?_ _ | refine blk_drew ?_ | refine blk_alloc ?_ _)); exact BK520.out⟩, ⟨by repeat (first | (with_reducible first | exact HB.out | apply below_alloc | apply pw_below_drewN | apply below_drew1 | refine below_set ?_ GE520.out) | exact HB.out)⟩⟩
      ·rw [if_neg c13] at H
       have c13b0 : decide (x15_2 ≤ t521) = false := decide_eq_false c13
       clear c13
       obtain rfl := Option.some.inj H
       go_wp2
       go_ret
       exact ⟨by first | rfl | (simp [errW_none, errW_some] <;> rfl) | (simp [*, errW_none, errW_some] <;> rfl), by repeat (first | (with_reducible first | exact HB.out | apply below_alloc | apply pw_below_drewN | apply below_drew1 | refine below_set ?_ GE520.out) | exact HB.out)⟩
end Go.Proofs.Ythfcafllcgjepaa.Q
