-- Printed by myprint.py (ours) over the kit's printer, out of the translation.
import Derived.Test.YthfcafllcgjepaaSliceAxesK0
import Derived.Test.YthfcafllcgjepaaSliceAxesF0
import Derived.Test.YthfcafllcgjepaaSliceAxesQ0
import Derived.Test.YthfcafllcgjepaaSliceAxesQ1
namespace Go.Proofs.Ythfcafllcgjepaa.Q
open Go.RowKit Go.Proofs.YthfcafllcgjepaaW.PrintWords Go.Proofs.YthfcafllcgjepaaW.PrintLast Go.Proofs.YthfcafllcgjepaaW.PrintMore
attribute [local go_sem] ArrW.ptrOf_slice unary_neg_float unary_neg_complex run_store_float run_store_complex max2_int min2_int max_two min_two max_three min_three max_four min_four   -- for this text's walks alone
set_option linter.unusedVariables false
set_option linter.unusedSimpArgs false

/-! ### foghornref04_At: function 64 -/
set_option maxHeartbeats 8000000 in
set_option maxRecDepth 100000 in
theorem foghornref04_At.calls (k : Nat) (a0 : Int) (a1 : Int) (r1 : (Nat × Nat)) (r2 : Int) (w : World) (h : foghornref04_At.f k a0 a1 = some (r1, r2)) :
  Calls Try.prog 64 #[.int .i64 a0, .int .i64 a1] w fun e w' => e = .returned (.tuple #[.complex .f64 r1.1 r1.2, .int .i64 r2]) ∧ Below w.heap.size w w' := by
 have HB := Aside0.mk (Below.refl w.heap.size w)
 have H : ((foghornref04_All.f k a0).bind fun bt518 => (if bt518.2 = 0 then (if a1 < 0 then (some ((0, 0), 1)) else (if a1 ≥ a0 then (some ((0, 0), 1)) else (if 0 ≤ a1 then (if a1 < (bt518.1.length : Int) then (some (rdOf (0, 0) bt518.1 a1, 0)) else (none)) else (none)))) else (some ((0, 0), 1)))) = some (r1, r2) := h
 clear h
 replace H := Option.bind_eq_some_iff.mp H
 obtain ⟨⟨t518, t519⟩, A30, H⟩ := H
 replace H : (if t519 = 0 then (if a1 < 0 then (some ((0, 0), 1)) else (if a1 ≥ a0 then (some ((0, 0), 1)) else (if 0 ≤ a1 then (if a1 < (t518.length : Int) then (some (rdOf (0, 0) t518 a1, 0)) else (none)) else (none)))) else (some ((0, 0), 1))) = some (r1, r2) := H
 have A3 := Aside0.mk A30
 clear A30
 by_cases c4 : t519 = 0
 ·rw [if_pos c4] at H
  have c4b0 : (t519 == 0) = true := beq_iff_eq.mpr c4
  have c4b1 : (t519 != 0) = false := bne_eq_false_iff_eq.mpr c4
  clear c4
  by_cases c5 : a1 < 0
  ·rw [if_pos c5] at H
   have c5b0 : decide (a1 < 0) = true := decide_eq_true c5
   clear c5
   simp only [Option.some.injEq, Prod.mk.injEq] at H
   obtain ⟨rfl, rfl⟩ := H
   go_enter Try.func64, Try.ntmps64
   go_wp2_with (first | ((with_reducible refine gate_callee (f := 98) rfl ?_); refine goesL_ (some 10) rfl rfl Try.func98 (by kernel_rfl) rfl #[.int .i64 a0] rfl (by (try simp only [List.map_toArray, List.map_cons, List.map_nil]); first | done | rfl | (simp only [List.length_drop, List.length_take]; rfl)) ?_; (with_reducible refine (foghornref04_All.calls k a0 t518 t519 _ A3.out).mono ?_); rintro e w6 ⟨v520, rfl, ho0, hb⟩; refine ⟨_, rfl, ?_⟩; have n0_ := Aside0.mk (Kd.R_lower ho0 (below_size (by repeat (first | (with_reducible first | exact HB.out | apply below_alloc | apply pw_below_drewN | apply below_drew1) | exact HB.out)))); have n1_ := Aside0.mk (below_step (by repeat (first | (with_reducible first | exact HB.out | apply below_alloc | apply pw_below_drewN | apply below_drew1) | exact HB.out)) hb); clear HB; have HO521 := n0_; have HB := n1_; clear n0_ n1_; (try clear hb); (try clear hb2); (try clear hk); (try clear hi); (try clear ho0)))
   go_ret2
   exact ⟨by first | rfl | (simp [errW_none, errW_some] <;> rfl) | (simp [*, errW_none, errW_some] <;> rfl), by repeat (first | (with_reducible first | exact HB.out | apply below_alloc | apply pw_below_drewN | apply below_drew1) | exact HB.out)⟩
  ·rw [if_neg c5] at H
   have c5b0 : decide (a1 < 0) = false := decide_eq_false c5
   clear c5
   by_cases c7 : a1 ≥ a0
   ·rw [if_pos c7] at H
    have c7b0 : decide (a0 ≤ a1) = true := decide_eq_true c7
    clear c7
    simp only [Option.some.injEq, Prod.mk.injEq] at H
    obtain ⟨rfl, rfl⟩ := H
    go_enter Try.func64, Try.ntmps64
    go_wp2_with (first | ((with_reducible refine gate_callee (f := 98) rfl ?_); refine goesL_ (some 10) rfl rfl Try.func98 (by kernel_rfl) rfl #[.int .i64 a0] rfl (by (try simp only [List.map_toArray, List.map_cons, List.map_nil]); first | done | rfl | (simp only [List.length_drop, List.length_take]; rfl)) ?_; (with_reducible refine (foghornref04_All.calls k a0 t518 t519 _ A3.out).mono ?_); rintro e w8 ⟨v520, rfl, ho0, hb⟩; refine ⟨_, rfl, ?_⟩; have n0_ := Aside0.mk (Kd.R_lower ho0 (below_size (by repeat (first | (with_reducible first | exact HB.out | apply below_alloc | apply pw_below_drewN | apply below_drew1) | exact HB.out)))); have n1_ := Aside0.mk (below_step (by repeat (first | (with_reducible first | exact HB.out | apply below_alloc | apply pw_below_drewN | apply below_drew1) | exact HB.out)) hb); clear HB; have HO521 := n0_; have HB := n1_; clear n0_ n1_; (try clear hb); (try clear hb2); (try clear hk); (try clear hi); (try clear ho0)))
    go_ret2
    exact ⟨by first | rfl | (simp [errW_none, errW_some] <;> rfl) | (simp [*, errW_none, errW_some] <;> rfl), by repeat (first | (with_reducible first | exact HB.out | apply below_alloc | apply pw_below_drewN | apply below_drew1) | exact HB.out)⟩
   ·rw [if_neg c7] at H
    have c7b0 : decide (a0 ≤ a1) = false := decide_eq_false c7
    clear c7
    by_cases c9 : 0 ≤ a1
    ·rw [if_pos c9] at H
     have c9b0 : decide (0 ≤ a1) = true := decide_eq_true c9
     clear c9
     by_cases c10 : a1 < (t518.length : Int)
     ·rw [if_pos c10] at H
      have c10b0 : decide (a1 < (t518.length : Int)) = true := decide_eq_true c10
      clear c10
      simp only [Option.some.injEq, Prod.mk.injEq] at H
      obtain ⟨rfl, rfl⟩ := H
      go_enter Try.func64, Try.ntmps64
      go_wp2_with (first | ((with_reducible refine gate_callee (f := 98) rfl ?_); refine goesL_ (some 10) rfl rfl Try.func98 (by kernel_rfl) rfl #[.int .i64 a0] rfl (by (try simp only [List.map_toArray, List.map_cons, List.map_nil]); first | done | rfl | (simp only [List.length_drop, List.length_take]; rfl)) ?_; (with_reducible refine (foghornref04_All.calls k a0 t518 t519 _ A3.out).mono ?_); rintro e w11 ⟨v520, rfl, ho0, hb⟩; refine ⟨_, rfl, ?_⟩; have n0_ := Aside0.mk (Kd.R_lower ho0 (below_size (by repeat (first | (with_reducible first | exact HB.out | apply below_alloc | apply pw_below_drewN | apply below_drew1) | exact HB.out)))); have n1_ := Aside0.mk (below_step (by repeat (first | (with_reducible first | exact HB.out | apply below_alloc | apply pw_below_drewN | apply below_drew1) | exact HB.out)) hb); clear HB; have HO521 := n0_; have HB := n1_; clear n0_ n1_; (try clear hb); (try clear hb2); (try clear hk); (try clear hi); (try clear ho0); obtain ⟨Ao12, co12, eo12⟩ := Kd.R_slice HO521.out; subst eo12; have p522 : 0 ≤ (a1 : Int) := of_decide_eq_true (by first | (with_reducible assumption) | assumption); have q522 : a1 < (t518.length : Int) := of_decide_eq_true (by first | (with_reducible assumption) | assumption); obtain ⟨ad522, e522, hx522_0⟩ := Kd.at_cplx (Kd.R_reads' HO521.out).2.2 a1 p522 q522; cases e522; replace p522 := eq_true p522; replace q522 := eq_true q522))
      go_ret2
      exact ⟨by first | rfl | (simp [errW_none, errW_some] <;> rfl) | (simp [*, errW_none, errW_some] <;> rfl), by repeat (first | (with_reducible first | exact HB.out | apply below_alloc | apply pw_below_drewN | apply below_drew1) | exact HB.out)⟩
     ·rw [if_neg c10] at H
      exact absurd H (by simp)
    ·rw [if_neg c9] at H
     exact absurd H (by simp)
 ·rw [if_neg c4] at H
  have c4b0 : (t519 == 0) = false := beq_eq_false_iff_ne.mpr c4
  have c4b1 : (t519 != 0) = true := bne_iff_ne.mpr c4
  simp only [Option.some.injEq, Prod.mk.injEq] at H
  obtain ⟨rfl, rfl⟩ := H
  go_enter Try.func64, Try.ntmps64
  go_wp2_with (first | ((with_reducible refine gate_callee (f := 98) rfl ?_); refine goesL_ (some 10) rfl rfl Try.func98 (by kernel_rfl) rfl #[.int .i64 a0] rfl (by (try simp only [List.map_toArray, List.map_cons, List.map_nil]); first | done | rfl | (simp only [List.length_drop, List.length_take]; rfl)) ?_; (with_reducible refine (foghornref04_All.calls k a0 t518 t519 _ A3.out).mono ?_); rintro e w13 ⟨v520, rfl, ho0, hb⟩; refine ⟨_, rfl, ?_⟩; have n0_ := Aside0.mk (Kd.R_lower ho0 (below_size (by repeat (first | (with_reducible first | exact HB.out | apply below_alloc | apply pw_below_drewN | apply below_drew1) | exact HB.out)))); have n1_ := Aside0.mk (below_step (by repeat (first | (with_reducible first | exact HB.out | apply below_alloc | apply pw_below_drewN | apply below_drew1) | exact HB.out)) hb); clear HB; have HO521 := n0_; have HB := n1_; clear n0_ n1_; (try clear hb); (try clear hb2); (try clear hk); (try clear hi); (try clear ho0)))
  go_ret2
  exact ⟨by first | rfl | (simp [errW_none, errW_some] <;> rfl) | (simp [*, errW_none, errW_some] <;> rfl), by repeat (first | (with_reducible first | exact HB.out | apply below_alloc | apply pw_below_drewN | apply below_drew1) | exact HB.out)⟩

/-! ### foghornref05_gap: function 121 -/
set_option maxHeartbeats 8000000 in
set_option maxRecDepth 100000 in
theorem foghornref05_gap.calls (a0 : (Nat × Nat)) (a1 : (Nat × Nat)) (r : Nat) (w : World) (h : foghornref05_gap.f a0 a1 = some r) :
  Calls Try.prog 121 #[.complex .f64 a0.1 a0.2, .complex .f64 a1.1 a1.2] w fun e w' => e = .returned (.float .f64 r) ∧ Below w.heap.size w w' := by
 have HB := Aside0.mk (Below.refl w.heap.size w)
 have H : ((floatBits .sub .f64 a0.1 a1.1).bind fun t523 => ((floatBits .sub .f64 a0.2 a1.2).bind fun t524 => ((floatBits .mul .f64 t523 t523).bind fun t525 => ((floatBits .mul .f64 t524 t524).bind fun t526 => ((floatBits .add .f64 t525 t526).bind fun t527 => (some t527)))))) = some r := h
 clear h
 replace H := Option.bind_eq_some_iff.mp H
 obtain ⟨t523, A30, H⟩ := H
 replace H : ((floatBits .sub .f64 a0.2 a1.2).bind fun t524 => ((floatBits .mul .f64 t523 t523).bind fun t525 => ((floatBits .mul .f64 t524 t524).bind fun t526 => ((floatBits .add .f64 t525 t526).bind fun t527 => (some t527))))) = some r := H
 have A3 := Aside0.mk A30
 clear A30
 replace H := Option.bind_eq_some_iff.mp H
 obtain ⟨t524, A40, H⟩ := H
 replace H : ((floatBits .mul .f64 t523 t523).bind fun t525 => ((floatBits .mul .f64 t524 t524).bind fun t526 => ((floatBits .add .f64 t525 t526).bind fun t527 => (some t527)))) = some r := H
 have A4 := Aside0.mk A40
 clear A40
 replace H := Option.bind_eq_some_iff.mp H
 obtain ⟨t525, A50, H⟩ := H
 replace H : ((floatBits .mul .f64 t524 t524).bind fun t526 => ((floatBits .add .f64 t525 t526).bind fun t527 => (some t527))) = some r := H
 have A5 := Aside0.mk A50
 clear A50
 replace H := Option.bind_eq_some_iff.mp H
 obtain ⟨t526, A60, H⟩ := H
 replace H : ((floatBits .add .f64 t525 t526).bind fun t527 => (some t527)) = some r := H
 have A6 := Aside0.mk A60
 clear A60
 replace H := Option.bind_eq_some_iff.mp H
 obtain ⟨t527, A70, H⟩ := H
 replace H : (some t527) = some r := H
 have A7 := Aside0.mk A70
 clear A70
 obtain rfl := Option.some.inj H
 have hfoA3_ := fun (t_ : TypeId) (w_ : World) => run_float_arith (P := Try.prog) w_ .sub t_ .f64 a0.1 a1.1 t523 A3.out
 have hfoA4_ := fun (t_ : TypeId) (w_ : World) => run_float_arith (P := Try.prog) w_ .sub t_ .f64 a0.2 a1.2 t524 A4.out
 have hfoA5_ := fun (t_ : TypeId) (w_ : World) => run_float_arith (P := Try.prog) w_ .mul t_ .f64 t523 t523 t525 A5.out
 have hfoA6_ := fun (t_ : TypeId) (w_ : World) => run_float_arith (P := Try.prog) w_ .mul t_ .f64 t524 t524 t526 A6.out
 have hfoA7_ := fun (t_ : TypeId) (w_ : World) => run_float_arith (P := Try.prog) w_ .add t_ .f64 t525 t526 t527 A7.out
 go_enter Try.func121, Try.ntmps121
 go_wp2
 go_ret
 exact ⟨by first | rfl | (simp [errW_none, errW_some] <;> rfl) | (simp [*, errW_none, errW_some] <;> rfl), by repeat (first | (with_reducible first | exact HB.out | apply below_alloc | apply pw_below_drewN | apply below_drew1) | exact HB.out)⟩

/-! ### foghornref05_Gap: function 50 -/
set_option maxHeartbeats 8000000 in
set_option maxRecDepth 100000 in
theorem foghornref05_Gap.calls (k : Nat) (a0 : Int) (a1 : (Nat × Nat)) (a2 : Int) (r1 : Nat) (r2 : Int) (w : World) (h : foghornref05_Gap.f k a0 a1 a2 = some (r1, r2)) :
  Calls Try.prog 50 #[.int .i64 a0, .complex .f64 a1.1 a1.2, .int .i64 a2] w fun e w' => e = .returned (.tuple #[.float .f64 r1, .int .i64 r2]) ∧ Below w.heap.size w w' := by
 have HB := Aside0.mk (Below.refl w.heap.size w)
 have H : ((foghornref04_At.f k a0 a2).bind fun bt528 => ((foghornref05_Cut.f k a0 a1).bind fun bt530 => (if bt528.2 = 0 then (if bt530.2 = 0 then ((foghornref05_gap.f bt530.1 bt528.1).bind fun t532 => (some (t532, 0))) else (some (0, 1))) else (some (0, 1))))) = some (r1, r2) := h
 clear h
 replace H := Option.bind_eq_some_iff.mp H
 obtain ⟨⟨t528, t529⟩, A40, H⟩ := H
 replace H : ((foghornref05_Cut.f k a0 a1).bind fun bt530 => (if t529 = 0 then (if bt530.2 = 0 then ((foghornref05_gap.f bt530.1 t528).bind fun t532 => (some (t532, 0))) else (some (0, 1))) else (some (0, 1)))) = some (r1, r2) := H
 have A4 := Aside0.mk A40
 clear A40
 replace H := Option.bind_eq_some_iff.mp H
 obtain ⟨⟨t530, t531⟩, A50, H⟩ := H
 replace H : (if t529 = 0 then (if t531 = 0 then ((foghornref05_gap.f t530 t528).bind fun t532 => (some (t532, 0))) else (some (0, 1))) else (some (0, 1))) = some (r1, r2) := H
 have A5 := Aside0.mk A50
 clear A50
 by_cases c6 : t529 = 0
 ·rw [if_pos c6] at H
  have c6b0 : (t529 == 0) = true := beq_iff_eq.mpr c6
  have c6b1 : (t529 != 0) = false := bne_eq_false_iff_eq.mpr c6
  clear c6
  by_cases c7 : t531 = 0
  ·rw [if_pos c7] at H
   have c7b0 : (t531 == 0) = true := beq_iff_eq.mpr c7
   have c7b1 : (t531 != 0) = false := bne_eq_false_iff_eq.mpr c7
   clear c7
   replace H := Option.bind_eq_some_iff.mp H
   obtain ⟨t532, A80, H⟩ := H
   replace H : (some (t532, 0)) = some (r1, r2) := H
   have A8 := Aside0.mk A80
   clear A80
   simp only [Option.some.injEq, Prod.mk.injEq] at H
   obtain ⟨rfl, rfl⟩ := H
   go_enter Try.func50, Try.ntmps50
   go_wp2_with (first | ((with_reducible refine gate_callee (f := 64) rfl ?_); refine goesL_ (some 15) rfl rfl Try.func64 (by kernel_rfl) rfl #[.int .i64 a0, .int .i64 a2] rfl (by (try simp only [List.map_toArray, List.map_cons, List.map_nil]); first | done | rfl | (simp only [List.length_drop, List.length_take]; rfl)) ?_; (with_reducible refine (foghornref04_At.calls k a0 a2 t528 t529 _ A4.out).mono ?_); rintro e w9 ⟨rfl, hb⟩; refine ⟨_, rfl, ?_⟩; have n0_ := Aside0.mk (below_step (by repeat (first | (with_reducible first | exact HB.out | apply below_alloc | apply pw_below_drewN | apply below_drew1) | exact HB.out)) hb); clear HB; have HB := n0_; clear n0_; (try clear hb); (try clear hb2); (try clear hk); (try clear hi)) | ((with_reducible refine gate_callee (f := 48) rfl ?_); refine goesL_ (some 21) rfl rfl Try.func48 (by kernel_rfl) rfl #[.int .i64 a0, .complex .f64 a1.1 a1.2] rfl (by (try simp only [List.map_toArray, List.map_cons, List.map_nil]); first | done | rfl | (simp only [List.length_drop, List.length_take]; rfl)) ?_; (with_reducible refine (foghornref05_Cut.calls k a0 a1 t530 t531 _ A5.out).mono ?_); rintro e w10 ⟨rfl, hb⟩; refine ⟨_, rfl, ?_⟩; have n0_ := Aside0.mk (below_step (by repeat (first | (with_reducible first | exact HB.out | apply below_alloc | apply pw_below_drewN | apply below_drew1) | exact HB.out)) hb); clear HB; have HB := n0_; clear n0_; (try clear hb); (try clear hb2); (try clear hk); (try clear hi)) | ((with_reducible refine gate_callee (f := 121) rfl ?_); refine goesL_ (some 32) rfl rfl Try.func121 (by kernel_rfl) rfl #[.complex .f64 t530.1 t530.2, .complex .f64 t528.1 t528.2] rfl (by (try simp only [List.map_toArray, List.map_cons, List.map_nil]); first | done | rfl | (simp only [List.length_drop, List.length_take]; rfl)) ?_; (with_reducible refine (foghornref05_gap.calls t530 t528 t532 _ A8.out).mono ?_); rintro e w11 ⟨rfl, hb⟩; refine ⟨_, rfl, ?_⟩; have n0_ := Aside0.mk (below_step (by repeat (first | (with_reducible first | exact HB.out | apply below_alloc | apply pw_below_drewN | apply below_drew1) | exact HB.out)) hb); clear HB; have HB := n0_; clear n0_; (try clear hb); (try clear hb2); (try clear hk); (try clear hi)))
   go_ret2
   exact ⟨by first | rfl | (simp [errW_none, errW_some] <;> rfl) | (simp [*, errW_none, errW_some] <;> rfl), by repeat (first | (with_reducible first | exact HB.out | apply below_alloc | apply pw_below_drewN | apply below_drew1) | exact HB.out)⟩
  ·rw [if_neg c7] at H
   have c7b0 : (t531 == 0) = false := beq_eq_false_iff_ne.mpr c7
   have c7b1 : (t531 != 0) = true := bne_iff_ne.mpr c7
   simp only [Option.some.injEq, Prod.mk.injEq] at H
   obtain ⟨rfl, rfl⟩ := H
   go_enter Try.func50, Try.ntmps50
   go_wp2_with (first | ((with_reducible refine gate_callee (f := 64) rfl ?_); refine goesL_ (some 15) rfl rfl Try.func64 (by kernel_rfl) rfl #[.int .i64 a0, .int .i64 a2] rfl (by (try simp only [List.map_toArray, List.map_cons, List.map_nil]); first | done | rfl | (simp only [List.length_drop, List.length_take]; rfl)) ?_; (with_reducible refine (foghornref04_At.calls k a0 a2 t528 t529 _ A4.out).mono ?_); rintro e w12 ⟨rfl, hb⟩; refine ⟨_, rfl, ?_⟩; have n0_ := Aside0.mk (below_step (by repeat (first | (with_reducible first | exact HB.out | apply below_alloc | apply pw_below_drewN | apply below_drew1) | exact HB.out)) hb); clear HB; have HB := n0_; clear n0_; (try clear hb); (try clear hb2); (try clear hk); (try clear hi)) | ((with_reducible refine gate_callee (f := 48) rfl ?_); refine goesL_ (some 21) rfl rfl Try.func48 (by kernel_rfl) rfl #[.int .i64 a0, .complex .f64 a1.1 a1.2] rfl (by (try simp only [List.map_toArray, List.map_cons, List.map_nil]); first | done | rfl | (simp only [List.length_drop, List.length_take]; rfl)) ?_; (with_reducible refine (foghornref05_Cut.calls k a0 a1 t530 t531 _ A5.out).mono ?_); rintro e w13 ⟨rfl, hb⟩; refine ⟨_, rfl, ?_⟩; have n0_ := Aside0.mk (below_step (by repeat (first | (with_reducible first | exact HB.out | apply below_alloc | apply pw_below_drewN | apply below_drew1) | exact HB.out)) hb); clear HB; have HB := n0_; clear n0_; (try clear hb); (try clear hb2); (try clear hk); (try clear hi)))
   go_ret2
   exact ⟨by first | rfl | (simp [errW_none, errW_some] <;> rfl) | (simp [*, errW_none, errW_some] <;> rfl), by repeat (first | (with_reducible first | exact HB.out | apply below_alloc | apply pw_below_drewN | apply below_drew1) | exact HB.out)⟩
 ·rw [if_neg c6] at H
  have c6b0 : (t529 == 0) = false := beq_eq_false_iff_ne.mpr c6
  have c6b1 : (t529 != 0) = true := bne_iff_ne.mpr c6
  simp only [Option.some.injEq, Prod.mk.injEq] at H
  obtain ⟨rfl, rfl⟩ := H
  go_enter Try.func50, Try.ntmps50
  go_wp2_with (first | ((with_reducible refine gate_callee (f := 64) rfl ?_); refine goesL_ (some 15) rfl rfl Try.func64 (by kernel_rfl) rfl #[.int .i64 a0, .int .i64 a2] rfl (by (try simp only [List.map_toArray, List.map_cons, List.map_nil]); first | done | rfl | (simp only [List.length_drop, List.length_take]; rfl)) ?_; (with_reducible refine (foghornref04_At.calls k a0 a2 t528 t529 _ A4.out).mono ?_); rintro e w14 ⟨rfl, hb⟩; refine ⟨_, rfl, ?_⟩; have n0_ := Aside0.mk (below_step (by repeat (first | (with_reducible first | exact HB.out | apply below_alloc | apply pw_below_drewN | apply below_drew1) | exact HB.out)) hb); clear HB; have HB := n0_; clear n0_; (try clear hb); (try clear hb2); (try clear hk); (try clear hi)) | ((with_reducible refine gate_callee (f := 48) rfl ?_); refine goesL_ (some 21) rfl rfl Try.func48 (by kernel_rfl) rfl #[.int .i64 a0, .complex .f64 a1.1 a1.2] rfl (by (try simp only [List.map_toArray, List.map_cons, List.map_nil]); first | done | rfl | (simp only [List.length_drop, List.length_take]; rfl)) ?_; (with_reducible refine (foghornref05_Cut.calls k a0 a1 t530 t531 _ A5.out).mono ?_); rintro e w15 ⟨rfl, hb⟩; refine ⟨_, rfl, ?_⟩; have n0_ := Aside0.mk (below_step (by repeat (first | (with_reducible first | exact HB.out | apply below_alloc | apply pw_below_drewN | apply below_drew1) | exact HB.out)) hb); clear HB; have HB := n0_; clear n0_; (try clear hb); (try clear hb2); (try clear hk); (try clear hi)))
  go_ret2
  exact ⟨by first | rfl | (simp [errW_none, errW_some] <;> rfl) | (simp [*, errW_none, errW_some] <;> rfl), by repeat (first | (with_reducible first | exact HB.out | apply below_alloc | apply pw_below_drewN | apply below_drew1) | exact HB.out)⟩

/-! ### points_At: function 122 -/
--WALK
attribute [local go_sem] pts_run_store_func pts_run_store_nilFunc
theorem pts_at_yes170 (size label b ed : Int) (F : Int → Option (Nat × Nat)) (h : pts_spec size = some (b, ed, F)) (hf : pts_fnOf size = 170) (hl : 0 ≤ label ∧ label < size) (r : Nat × Nat) (hr : F label = some r) (w : World) :
  Calls Try.prog 122 #[.int .i64 size, .int .i64 label] w fun e w' => e = .returned (.tuple #[.complex .f64 r.1 r.2, .int .i64 0]) ∧ Below w.heap.size w w' := by
 have H := pts_of_fn size b ed F h
 rw [hf] at H
 have HO := Aside0.mk H
 have R := Aside0.mk hr
 have c1 : decide (label < 0) = false := decide_eq_false (by omega)
 have c2 : decide (size ≤ label) = false := decide_eq_false (by omega)
 clear h hl hr H hf
 go_enter Try.func122, Try.ntmps122
 go_wp2_with (first
  | (go_at_call 127; refine (HO.out _).mono ?_; rintro e w1 ⟨cap, rfl, hF, hb⟩; have HB := Aside0.mk hb; have HF := Aside0.mk hF; clear hb hF)
  | (go_at_call 170; (refine (HF.out _ (by repeat (first | exact Below.refl _ _ | apply below_set (Nat.le_refl _) | apply below_alloc)) _ _ R.out).mono ?_; rintro e w2 ⟨rfl, hb2⟩; have HB2 := Aside0.mk hb2; clear hb2)))
 go_ret2
 exact ⟨rfl, pts_below_call HB.out HB2.out⟩
theorem pts_at_yes171 (size label b ed : Int) (F : Int → Option (Nat × Nat)) (h : pts_spec size = some (b, ed, F)) (hf : pts_fnOf size = 171) (hl : 0 ≤ label ∧ label < size) (r : Nat × Nat) (hr : F label = some r) (w : World) :
  Calls Try.prog 122 #[.int .i64 size, .int .i64 label] w fun e w' => e = .returned (.tuple #[.complex .f64 r.1 r.2, .int .i64 0]) ∧ Below w.heap.size w w' := by
 have H := pts_of_fn size b ed F h
 rw [hf] at H
 have HO := Aside0.mk H
 have R := Aside0.mk hr
 have c1 : decide (label < 0) = false := decide_eq_false (by omega)
 have c2 : decide (size ≤ label) = false := decide_eq_false (by omega)
 clear h hl hr H hf
 go_enter Try.func122, Try.ntmps122
 go_wp2_with (first
  | (go_at_call 127; refine (HO.out _).mono ?_; rintro e w1 ⟨cap, rfl, hF, hb⟩; have HB := Aside0.mk hb; have HF := Aside0.mk hF; clear hb hF)
  | (go_at_call 171; (refine (HF.out _ (by repeat (first | exact Below.refl _ _ | apply below_set (Nat.le_refl _) | apply below_alloc)) _ _ R.out).mono ?_; rintro e w2 ⟨rfl, hb2⟩; have HB2 := Aside0.mk hb2; clear hb2)))
 go_ret2
 exact ⟨rfl, pts_below_call HB.out HB2.out⟩
theorem pts_at_no (size label : Int) (h : pts_spec size = none) (w : World) :
  Calls Try.prog 122 #[.int .i64 size, .int .i64 label] w fun e w' => e = .returned (.tuple #[.complex .f64 0 0, .int .i64 1]) ∧ Below w.heap.size w w' := by
 have H := Aside0.mk h
 clear h
 go_enter Try.func122, Try.ntmps122
 go_wp2_with (first | (go_at_call 127; refine (pts_of_none _ H.out _).mono ?_; rintro e w1 ⟨rfl, hb⟩; have HB := Aside0.mk hb; clear hb))
 all_goals go_ret2
 all_goals exact ⟨by first | rfl | (simp [go_sem]; done), by repeat (first | exact HB.out | apply below_alloc)⟩
theorem pts_at_out (size label b ed : Int) (F : Int → Option (Nat × Nat)) (h : pts_spec size = some (b, ed, F)) (hl : label < 0 ∨ size ≤ label) (w : World) :
  Calls Try.prog 122 #[.int .i64 size, .int .i64 label] w fun e w' => e = .returned (.tuple #[.complex .f64 0 0, .int .i64 1]) ∧ Below w.heap.size w w' := by
 have HO := Aside0.mk (pts_of_fn size b ed F h)
 clear h
 rcases Int.lt_or_le label 0 with c | c
 ·have c1 : decide (label < 0) = true := decide_eq_true c
  clear c hl
  go_enter Try.func122, Try.ntmps122
  go_wp2_with (first | (go_at_call 127; refine (HO.out _).mono ?_; rintro e w1 ⟨cap, rfl, hF, hb⟩; have HB := Aside0.mk hb; have HF := Aside0.mk hF; clear hb hF))
  all_goals go_ret2
  all_goals exact ⟨by first | rfl | (simp [go_sem]; done), by repeat (first | exact HB.out | apply below_alloc)⟩
 ·have c1 : decide (label < 0) = false := decide_eq_false (by omega)
  have c2 : decide (size ≤ label) = true := decide_eq_true (by omega)
  clear c hl
  go_enter Try.func122, Try.ntmps122
  go_wp2_with (first | (go_at_call 127; refine (HO.out _).mono ?_; rintro e w1 ⟨cap, rfl, hF, hb⟩; have HB := Aside0.mk hb; have HF := Aside0.mk hF; clear hb hF))
  all_goals go_ret2
  all_goals exact ⟨by first | rfl | (simp [go_sem]; done), by repeat (first | exact HB.out | apply below_alloc)⟩
theorem points_At.calls (a0 : Int) (a1 : Int) (r1 : (Nat × Nat)) (r2 : Int) (w : World) (h : points_At.f a0 a1 = some (r1, r2)) :
  Calls Try.prog 122 #[.int .i64 a0, .int .i64 a1] w fun e w' => e = .returned (.tuple #[.complex .f64 r1.1 r1.2, .int .i64 r2]) ∧ Below w.heap.size w w' := by
 unfold points_At.f at h
 cases hs : pts_spec a0 with
 | none =>
  rw [hs] at h
  obtain ⟨rfl, rfl⟩ := Prod.mk.inj (Option.some.inj h)
  exact pts_at_no a0 a1 hs w
 | some x =>
  obtain ⟨b, ed, F⟩ := x
  rw [hs] at h
  by_cases hl : 0 ≤ a1 ∧ a1 < a0
  ·replace h : (F a1).bind (fun r => some (r, (0 : Int))) = some (r1, r2) := by rw [← h]; exact (if_pos hl).symm
   obtain ⟨r, hr, h2⟩ := Option.bind_eq_some_iff.1 h
   obtain ⟨rfl, rfl⟩ := Prod.mk.inj (Option.some.inj h2)
   rcases pts_fnOf_or a0 with hf | hf
   ·exact pts_at_yes170 a0 a1 b ed F hs hf hl r hr w
   ·exact pts_at_yes171 a0 a1 b ed F hs hf hl r hr w
  ·replace h : some (((0, 0) : Nat × Nat), (1 : Int)) = some (r1, r2) := by rw [← h]; exact (if_neg hl).symm
   obtain ⟨rfl, rfl⟩ := Prod.mk.inj (Option.some.inj h)
   exact pts_at_out a0 a1 b ed F hs (by omega) w

/-! ### slice_gap: function 123 -/
set_option maxHeartbeats 8000000 in
set_option maxRecDepth 100000 in
theorem slice_gap.calls (a0 : (Nat × Nat)) (a1 : (Nat × Nat)) (r : Nat) (w : World) (h : slice_gap.f a0 a1 = some r) :
  Calls Try.prog 123 #[.complex .f64 a0.1 a0.2, .complex .f64 a1.1 a1.2] w fun e w' => e = .returned (.float .f64 r) ∧ Below w.heap.size w w' := by
 have HB := Aside0.mk (Below.refl w.heap.size w)
 have H : ((floatBits .sub .f64 a0.1 a1.1).bind fun t533 => ((floatBits .sub .f64 a0.2 a1.2).bind fun t534 => ((floatBits .mul .f64 t533 t533).bind fun t535 => ((floatBits .mul .f64 t534 t534).bind fun t536 => ((floatBits .add .f64 t535 t536).bind fun t537 => (some t537)))))) = some r := h
 clear h
 replace H := Option.bind_eq_some_iff.mp H
 obtain ⟨t533, A30, H⟩ := H
 replace H : ((floatBits .sub .f64 a0.2 a1.2).bind fun t534 => ((floatBits .mul .f64 t533 t533).bind fun t535 => ((floatBits .mul .f64 t534 t534).bind fun t536 => ((floatBits .add .f64 t535 t536).bind fun t537 => (some t537))))) = some r := H
 have A3 := Aside0.mk A30
 clear A30
 replace H := Option.bind_eq_some_iff.mp H
 obtain ⟨t534, A40, H⟩ := H
 replace H : ((floatBits .mul .f64 t533 t533).bind fun t535 => ((floatBits .mul .f64 t534 t534).bind fun t536 => ((floatBits .add .f64 t535 t536).bind fun t537 => (some t537)))) = some r := H
 have A4 := Aside0.mk A40
 clear A40
 replace H := Option.bind_eq_some_iff.mp H
 obtain ⟨t535, A50, H⟩ := H
 replace H : ((floatBits .mul .f64 t534 t534).bind fun t536 => ((floatBits .add .f64 t535 t536).bind fun t537 => (some t537))) = some r := H
 have A5 := Aside0.mk A50
 clear A50
 replace H := Option.bind_eq_some_iff.mp H
 obtain ⟨t536, A60, H⟩ := H
 replace H : ((floatBits .add .f64 t535 t536).bind fun t537 => (some t537)) = some r := H
 have A6 := Aside0.mk A60
 clear A60
 replace H := Option.bind_eq_some_iff.mp H
 obtain ⟨t537, A70, H⟩ := H
 replace H : (some t537) = some r := H
 have A7 := Aside0.mk A70
 clear A70
 obtain rfl := Option.some.inj H
 have hfoA3_ := fun (t_ : TypeId) (w_ : World) => run_float_arith (P := Try.prog) w_ .sub t_ .f64 a0.1 a1.1 t533 A3.out
 have hfoA4_ := fun (t_ : TypeId) (w_ : World) => run_float_arith (P := Try.prog) w_ .sub t_ .f64 a0.2 a1.2 t534 A4.out
 have hfoA5_ := fun (t_ : TypeId) (w_ : World) => run_float_arith (P := Try.prog) w_ .mul t_ .f64 t533 t533 t535 A5.out
 have hfoA6_ := fun (t_ : TypeId) (w_ : World) => run_float_arith (P := Try.prog) w_ .mul t_ .f64 t534 t534 t536 A6.out
 have hfoA7_ := fun (t_ : TypeId) (w_ : World) => run_float_arith (P := Try.prog) w_ .add t_ .f64 t535 t536 t537 A7.out
 go_enter Try.func123, Try.ntmps123
 go_wp2
 go_ret
 exact ⟨by first | rfl | (simp [errW_none, errW_some] <;> rfl) | (simp [*, errW_none, errW_some] <;> rfl), by repeat (first | (with_reducible first | exact HB.out | apply below_alloc | apply pw_below_drewN | apply below_drew1) | exact HB.out)⟩

/-! ### slice_Gap: function 51 -/
set_option maxHeartbeats 8000000 in
set_option maxRecDepth 100000 in
theorem slice_Gap.calls (a0 : Int) (a1 : (Nat × Nat)) (a2 : Int) (r1 : Nat) (r2 : Int) (w : World) (h : slice_Gap.f a0 a1 a2 = some (r1, r2)) :
  Calls Try.prog 51 #[.int .i64 a0, .complex .f64 a1.1 a1.2, .int .i64 a2] w fun e w' => e = .returned (.tuple #[.float .f64 r1, .int .i64 r2]) ∧ Below w.heap.size w w' := by
 have HB := Aside0.mk (Below.refl w.heap.size w)
 have H : ((points_At.f a0 a2).bind fun bt538 => ((slice_Cut.f a0 a1).bind fun bt540 => (if bt538.2 = 0 then (if bt540.2 = 0 then ((slice_gap.f bt540.1 bt538.1).bind fun t542 => (some (t542, 0))) else (some (0, 1))) else (some (0, 1))))) = some (r1, r2) := h
 clear h
 replace H := Option.bind_eq_some_iff.mp H
 obtain ⟨⟨t538, t539⟩, A40, H⟩ := H
 replace H : ((slice_Cut.f a0 a1).bind fun bt540 => (if t539 = 0 then (if bt540.2 = 0 then ((slice_gap.f bt540.1 t538).bind fun t542 => (some (t542, 0))) else (some (0, 1))) else (some (0, 1)))) = some (r1, r2) := H
 have A4 := Aside0.mk A40
 clear A40
 replace H := Option.bind_eq_some_iff.mp H
 obtain ⟨⟨t540, t541⟩, A50, H⟩ := H
 replace H : (if t539 = 0 then (if t541 = 0 then ((slice_gap.f t540 t538).bind fun t542 => (some (t542, 0))) else (some (0, 1))) else (some (0, 1))) = some (r1, r2) := H
 have A5 := Aside0.mk A50
 clear A50
 by_cases c6 : t539 = 0
 ·rw [if_pos c6] at H
  have c6b0 : (t539 == 0) = true := beq_iff_eq.mpr c6
  have c6b1 : (t539 != 0) = false := bne_eq_false_iff_eq.mpr c6
  clear c6
  by_cases c7 : t541 = 0
  ·rw [if_pos c7] at H
   have c7b0 : (t541 == 0) = true := beq_iff_eq.mpr c7
   have c7b1 : (t541 != 0) = false := bne_eq_false_iff_eq.mpr c7
   clear c7
   replace H := Option.bind_eq_some_iff.mp H
   obtain ⟨t542, A80, H⟩ := H
   replace H : (some (t542, 0)) = some (r1, r2) := H
   have A8 := Aside0.mk A80
   clear A80
   simp only [Option.some.injEq, Prod.mk.injEq] at H
   obtain ⟨rfl, rfl⟩ := H
   go_enter Try.func51, Try.ntmps51
   go_wp2_with (first | ((with_reducible refine gate_callee (f := 122) rfl ?_); refine goesL_ (some 15) rfl rfl Try.func122 (by kernel_rfl) rfl #[.int .i64 a0, .int .i64 a2] rfl (by (try simp only [List.map_toArray, List.map_cons, List.map_nil]); first | done | rfl | (simp only [List.length_drop, List.length_take]; rfl)) ?_; (with_reducible refine (points_At.calls a0 a2 t538 t539 _ A4.out).mono ?_); rintro e w9 ⟨rfl, hb⟩; refine ⟨_, rfl, ?_⟩; have n0_ := Aside0.mk (below_step (by repeat (first | (with_reducible first | exact HB.out | apply below_alloc | apply pw_below_drewN | apply below_drew1) | exact HB.out)) hb); clear HB; have HB := n0_; clear n0_; (try clear hb); (try clear hb2); (try clear hk); (try clear hi)) | ((with_reducible refine gate_callee (f := 49) rfl ?_); refine goesL_ (some 21) rfl rfl Try.func49 (by kernel_rfl) rfl #[.int .i64 a0, .complex .f64 a1.1 a1.2] rfl (by (try simp only [List.map_toArray, List.map_cons, List.map_nil]); first | done | rfl | (simp only [List.length_drop, List.length_take]; rfl)) ?_; (with_reducible refine (slice_Cut.calls a0 a1 t540 t541 _ A5.out).mono ?_); rintro e w10 ⟨rfl, hb⟩; refine ⟨_, rfl, ?_⟩; have n0_ := Aside0.mk (below_step (by repeat (first | (with_reducible first | exact HB.out | apply below_alloc | apply pw_below_drewN | apply below_drew1) | exact HB.out)) hb); clear HB; have HB := n0_; clear n0_; (try clear hb); (try clear hb2); (try clear hk); (try clear hi)) | ((with_reducible refine gate_callee (f := 123) rfl ?_); refine goesL_ (some 32) rfl rfl Try.func123 (by kernel_rfl) rfl #[.complex .f64 t540.1 t540.2, .complex .f64 t538.1 t538.2] rfl (by (try simp only [List.map_toArray, List.map_cons, List.map_nil]); first | done | rfl | (simp only [List.length_drop, List.length_take]; rfl)) ?_; (with_reducible refine (slice_gap.calls t540 t538 t542 _ A8.out).mono ?_); rintro e w11 ⟨rfl, hb⟩; refine ⟨_, rfl, ?_⟩; have n0_ := Aside0.mk (below_step (by repeat (first | (with_reducible first | exact HB.out | apply below_alloc | apply pw_below_drewN | apply below_drew1) | exact HB.out)) hb); clear HB; have HB := n0_; clear n0_; (try clear hb); (try clear hb2); (try clear hk); (try clear hi)))
   go_ret2
   exact ⟨by first | rfl | (simp [errW_none, errW_some] <;> rfl) | (simp [*, errW_none, errW_some] <;> rfl), by repeat (first | (with_reducible first | exact HB.out | apply below_alloc | apply pw_below_drewN | apply below_drew1) | exact HB.out)⟩
  ·rw [if_neg c7] at H
   have c7b0 : (t541 == 0) = false := beq_eq_false_iff_ne.mpr c7
   have c7b1 : (t541 != 0) = true := bne_iff_ne.mpr c7
   simp only [Option.some.injEq, Prod.mk.injEq] at H
   obtain ⟨rfl, rfl⟩ := H
   go_enter Try.func51, Try.ntmps51
   go_wp2_with (first | ((with_reducible refine gate_callee (f := 122) rfl ?_); refine goesL_ (some 15) rfl rfl Try.func122 (by kernel_rfl) rfl #[.int .i64 a0, .int .i64 a2] rfl (by (try simp only [List.map_toArray, List.map_cons, List.map_nil]); first | done | rfl | (simp only [List.length_drop, List.length_take]; rfl)) ?_; (with_reducible refine (points_At.calls a0 a2 t538 t539 _ A4.out).mono ?_); rintro e w12 ⟨rfl, hb⟩; refine ⟨_, rfl, ?_⟩; have n0_ := Aside0.mk (below_step (by repeat (first | (with_reducible first | exact HB.out | apply below_alloc | apply pw_below_drewN | apply below_drew1) | exact HB.out)) hb); clear HB; have HB := n0_; clear n0_; (try clear hb); (try clear hb2); (try clear hk); (try clear hi)) | ((with_reducible refine gate_callee (f := 49) rfl ?_); refine goesL_ (some 21) rfl rfl Try.func49 (by kernel_rfl) rfl #[.int .i64 a0, .complex .f64 a1.1 a1.2] rfl (by (try simp only [List.map_toArray, List.map_cons, List.map_nil]); first | done | rfl | (simp only [List.length_drop, List.length_take]; rfl)) ?_; (with_reducible refine (slice_Cut.calls a0 a1 t540 t541 _ A5.out).mono ?_); rintro e w13 ⟨rfl, hb⟩; refine ⟨_, rfl, ?_⟩; have n0_ := Aside0.mk (below_step (by repeat (first | (with_reducible first | exact HB.out | apply below_alloc | apply pw_below_drewN | apply below_drew1) | exact HB.out)) hb); clear HB; have HB := n0_; clear n0_; (try clear hb); (try clear hb2); (try clear hk); (try clear hi)))
   go_ret2
   exact ⟨by first | rfl | (simp [errW_none, errW_some] <;> rfl) | (simp [*, errW_none, errW_some] <;> rfl), by repeat (first | (with_reducible first | exact HB.out | apply below_alloc | apply pw_below_drewN | apply below_drew1) | exact HB.out)⟩
 ·rw [if_neg c6] at H
  have c6b0 : (t539 == 0) = false := beq_eq_false_iff_ne.mpr c6
  have c6b1 : (t539 != 0) = true := bne_iff_ne.mpr c6
  simp only [Option.some.injEq, Prod.mk.injEq] at H
  obtain ⟨rfl, rfl⟩ := H
  go_enter Try.func51, Try.ntmps51
  go_wp2_with (first | ((with_reducible refine gate_callee (f := 122) rfl ?_); refine goesL_ (some 15) rfl rfl Try.func122 (by kernel_rfl) rfl #[.int .i64 a0, .int .i64 a2] rfl (by (try simp only [List.map_toArray, List.map_cons, List.map_nil]); first | done | rfl | (simp only [List.length_drop, List.length_take]; rfl)) ?_; (with_reducible refine (points_At.calls a0 a2 t538 t539 _ A4.out).mono ?_); rintro e w14 ⟨rfl, hb⟩; refine ⟨_, rfl, ?_⟩; have n0_ := Aside0.mk (below_step (by repeat (first | (with_reducible first | exact HB.out | apply below_alloc | apply pw_below_drewN | apply below_drew1) | exact HB.out)) hb); clear HB; have HB := n0_; clear n0_; (try clear hb); (try clear hb2); (try clear hk); (try clear hi)) | ((with_reducible refine gate_callee (f := 49) rfl ?_); refine goesL_ (some 21) rfl rfl Try.func49 (by kernel_rfl) rfl #[.int .i64 a0, .complex .f64 a1.1 a1.2] rfl (by (try simp only [List.map_toArray, List.map_cons, List.map_nil]); first | done | rfl | (simp only [List.length_drop, List.length_take]; rfl)) ?_; (with_reducible refine (slice_Cut.calls a0 a1 t540 t541 _ A5.out).mono ?_); rintro e w15 ⟨rfl, hb⟩; refine ⟨_, rfl, ?_⟩; have n0_ := Aside0.mk (below_step (by repeat (first | (with_reducible first | exact HB.out | apply below_alloc | apply pw_below_drewN | apply below_drew1) | exact HB.out)) hb); clear HB; have HB := n0_; clear n0_; (try clear hb); (try clear hb2); (try clear hk); (try clear hi)))
  go_ret2
  exact ⟨by first | rfl | (simp [errW_none, errW_some] <;> rfl) | (simp [*, errW_none, errW_some] <;> rfl), by repeat (first | (with_reducible first | exact HB.out | apply below_alloc | apply pw_below_drewN | apply below_drew1) | exact HB.out)⟩

end Go.Proofs.Ythfcafllcgjepaa.Q
