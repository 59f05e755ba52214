import Derived.Test.YthfcafllcgjepaaFeedbackReachK0
import Derived.Test.YthfcafllcgjepaaFeedbackReachF1
-- Printed by myprint.py (ours) over the kit's printer, out of the translation.
namespace Go.Proofs.Ythfcafllcgjepaa.Q
open Go.RowKit Go.Proofs.YthfcafllcgjepaaW.PrintWords Go.Proofs.YthfcafllcgjepaaW.PrintLast Go.Proofs.YthfcafllcgjepaaW.PrintMore
attribute [local go_sem] ArrW.ptrOf_slice unary_neg_float unary_neg_complex run_store_float run_store_complex max2_int min2_int max_two min_two max_three min_three max_four min_four   -- for this text's walks alone
set_option linter.unusedVariables false
set_option linter.unusedSimpArgs false
set_option maxHeartbeats 8000000 in
set_option maxRecDepth 100000 in
theorem foghornref11_step.calls (a0 : Nat) (r : Bool) (w : World) (h : foghornref11_step.f a0 = some r) :
  Calls Try.prog 142 #[.float .f64 a0] w fun e w' => e = .returned (.bool r) ∧ Drawn0 w w' := by
 have H : (if (FloatKind.f64.format.order a0 13830554455654793216 == some .gt || FloatKind.f64.format.order a0 13830554455654793216 == some .eq) = true then (if (FloatKind.f64.format.order a0 4607182418800017408 == some .lt || FloatKind.f64.format.order a0 4607182418800017408 == some .eq) = true then ((floatBits .mul .f64 a0 4634204016564240384).bind fun t133 => ((floatToIntVal .f64 t133 .i64).bind fun t134 => (some (FloatKind.f64.format.order (floatOfInt .f64 t134) t133 == some .eq)))) else (some false)) else (some false)) = some r := h
 clear h
 by_cases c2 : (FloatKind.f64.format.order a0 13830554455654793216 == some .gt || FloatKind.f64.format.order a0 13830554455654793216 == some .eq) = true
 ·rw [if_pos c2] at H
  have c2b0 : (FloatKind.f64.format.order a0 13830554455654793216 == some .gt || FloatKind.f64.format.order a0 13830554455654793216 == some .eq) = true := c2
  (try (have c2b1 : decide (FloatKind.f64.format.order a0 13830554455654793216 = some .gt || FloatKind.f64.format.order a0 13830554455654793216 == some .eq) = true := by simpa using c2))
  (try (have c2b2 : (FloatKind.f64.format.order a0 13830554455654793216 == some .gt || FloatKind.f64.format.order a0 13830554455654793216 == some .eq) = true := by simpa using c2))
  clear c2
  by_cases c3 : (FloatKind.f64.format.order a0 4607182418800017408 == some .lt || FloatKind.f64.format.order a0 4607182418800017408 == some .eq) = true
  ·rw [if_pos c3] at H
   have c3b0 : (FloatKind.f64.format.order a0 4607182418800017408 == some .lt || FloatKind.f64.format.order a0 4607182418800017408 == some .eq) = true := c3
   (try (have c3b1 : decide (FloatKind.f64.format.order a0 4607182418800017408 = some .lt || FloatKind.f64.format.order a0 4607182418800017408 == some .eq) = true := by simpa using c3))
   (try (have c3b2 : (FloatKind.f64.format.order a0 4607182418800017408 == some .lt || FloatKind.f64.format.order a0 4607182418800017408 == some .eq) = true := by simpa using c3))
   clear c3
   replace H := Option.bind_eq_some_iff.mp H
   obtain ⟨t133, A40, H⟩ := H
   replace H : ((floatToIntVal .f64 t133 .i64).bind fun t134 => (some (FloatKind.f64.format.order (floatOfInt .f64 t134) t133 == some .eq))) = some r := H
   have A4 := Aside0.mk A40
   clear A40
   replace H := Option.bind_eq_some_iff.mp H
   obtain ⟨t134, A50, H⟩ := H
   replace H : (some (FloatKind.f64.format.order (floatOfInt .f64 t134) t133 == some .eq)) = some r := H
   have A5 := Aside0.mk A50
   clear A50
   obtain rfl := Option.some.inj H
   have hfoA4_ := fun (t_ : TypeId) (w_ : World) => run_float_arith (P := Try.prog) w_ .mul t_ .f64 a0 4634204016564240384 t133 A4.out
   have hfoA5_ := fun (w_ : World) => run_convert_float_int (P := Try.prog) w_ 34 2 .f64 .i64 t133 t134 (by rw [Try.underlying34]; rfl) Try.underlying2 A5.out
   go_enter Try.func142, Try.ntmps142
   go_wp2
   go_ret
   exact ⟨by first | rfl | (simp; done) | (simp [*]; done), by repeat (first | exact Drawn0.refl _ | apply Drawn0.step)⟩
  ·rw [if_neg c3] at H
   have c3b0 : (FloatKind.f64.format.order a0 4607182418800017408 == some .lt || FloatKind.f64.format.order a0 4607182418800017408 == some .eq) = false := by simpa using c3
   (try (have c3b1 : decide (FloatKind.f64.format.order a0 4607182418800017408 = some .lt || FloatKind.f64.format.order a0 4607182418800017408 == some .eq) = false := by simpa using c3))
   (try (have c3b2 : (FloatKind.f64.format.order a0 4607182418800017408 == some .lt || FloatKind.f64.format.order a0 4607182418800017408 == some .eq) = false := by simpa using c3))
   (try (have c3b3 : ¬ (FloatKind.f64.format.order a0 4607182418800017408 = some .lt || FloatKind.f64.format.order a0 4607182418800017408 == some .eq) := by simpa using c3))
   clear c3
   obtain rfl := Option.some.inj H
   go_enter Try.func142, Try.ntmps142
   go_wp2
   go_ret
   exact ⟨by first | rfl | (simp; done) | (simp [*]; done), by repeat (first | exact Drawn0.refl _ | apply Drawn0.step)⟩
 ·rw [if_neg c2] at H
  have c2b0 : (FloatKind.f64.format.order a0 13830554455654793216 == some .gt || FloatKind.f64.format.order a0 13830554455654793216 == some .eq) = false := by simpa using c2
  (try (have c2b1 : decide (FloatKind.f64.format.order a0 13830554455654793216 = some .gt || FloatKind.f64.format.order a0 13830554455654793216 == some .eq) = false := by simpa using c2))
  (try (have c2b2 : (FloatKind.f64.format.order a0 13830554455654793216 == some .gt || FloatKind.f64.format.order a0 13830554455654793216 == some .eq) = false := by simpa using c2))
  (try (have c2b3 : ¬ (FloatKind.f64.format.order a0 13830554455654793216 = some .gt || FloatKind.f64.format.order a0 13830554455654793216 == some .eq) := by simpa using c2))
  clear c2
  obtain rfl := Option.some.inj H
  go_enter Try.func142, Try.ntmps142
  go_wp2
  go_ret
  exact ⟨by first | rfl | (simp; done) | (simp [*]; done), by repeat (first | exact Drawn0.refl _ | apply Drawn0.step)⟩
set_option maxHeartbeats 8000000 in
set_option maxRecDepth 100000 in
theorem foghornref11_size.calls (a0 : Nat) (r : Nat) (w : World) (h : foghornref11_size.f a0 = some r) :
  Calls Try.prog 143 #[.float .f64 a0] w fun e w' => e = .returned (.float .f64 r) ∧ Drawn0 w w' := by
 have H : (if (FloatKind.f64.format.order a0 0 == some .lt) = true then (some (Op.negFloat .f64 a0)) else (some a0)) = some r := h
 clear h
 by_cases c2 : (FloatKind.f64.format.order a0 0 == some .lt) = true
 ·rw [if_pos c2] at H
  have c2b0 : (FloatKind.f64.format.order a0 0 == some .lt) = true := c2
  (try (have c2b1 : decide (FloatKind.f64.format.order a0 0 = some .lt) = true := by simpa using c2))
  (try (have c2b2 : (FloatKind.f64.format.order a0 0 == some .lt) = true := by simpa using c2))
  clear c2
  obtain rfl := Option.some.inj H
  go_enter Try.func143, Try.ntmps143
  go_wp2
  go_ret
  exact ⟨by first | rfl | (simp; done) | (simp [*]; done), by repeat (first | exact Drawn0.refl _ | apply Drawn0.step)⟩
 ·rw [if_neg c2] at H
  have c2b0 : (FloatKind.f64.format.order a0 0 == some .lt) = false := by simpa using c2
  (try (have c2b1 : decide (FloatKind.f64.format.order a0 0 = some .lt) = false := by simpa using c2))
  (try (have c2b2 : (FloatKind.f64.format.order a0 0 == some .lt) = false := by simpa using c2))
  (try (have c2b3 : ¬ (FloatKind.f64.format.order a0 0 = some .lt) := by simpa using c2))
  clear c2
  obtain rfl := Option.some.inj H
  go_enter Try.func143, Try.ntmps143
  go_wp2
  go_ret
  exact ⟨by first | rfl | (simp; done) | (simp [*]; done), by repeat (first | exact Drawn0.refl _ | apply Drawn0.step)⟩
set_option maxHeartbeats 8000000 in
set_option maxRecDepth 100000 in
theorem foghornref11_Taps.calls (k : Nat) (A0 : Option Addr) (c0 : Nat) (l0 : List (Nat × Nat)) (r : Bool) (w : World) (hr0 : Kd.C Kd.cplx w A0 l0.length l0) (hc0 : l0.length ≤ c0) (h : foghornref11_Taps.f k l0 = some r) :
  Calls Try.prog 102 #[.slice A0 l0.length c0] w fun e w' => e = .returned (.bool r) ∧ Below w.heap.size w w' := by
 have HR0 := Aside0.mk hr0
 have HC0 := Aside0.mk hc0
 clear hr0 hc0
 have HB := Aside0.mk (Below.refl w.heap.size w)
 have H : (if (l0.length : Int) < 1 then (foghornref11_Taps.j0 k l0 true) else (foghornref11_Taps.j0 k l0 (decide ((l0.length : Int) > 64)))) = some r := h
 clear h
 have HC2 := Aside0.mk H
 clear H
 go_enter Try.func102, Try.ntmps102
 go_upto_region 1 with (fail)
 go_cut [12] (fun v12 wc => ∃ (kq : Nat) (x12_1 : Bool), v12 = .bool x12_1 ∧ Aside0 (foghornref11_Taps.j0 kq l0 x12_1 = some r) ∧ Aside0 (kq ≤ k) ∧ Aside0 (Below w.heap.size w wc))
 case first =>
  have H := HC2.out
  clear HC2
  by_cases c3 : (l0.length : Int) < 1
  ·rw [if_pos c3] at H
   have c3b0 : decide ((l0.length : Int) < 1) = true := decide_eq_true c3
   have c3b1 : decide (l0.length < 1) = true := decide_eq_true (by omega)
   clear c3
   (first | rw [c3b0] | (simp only [i64_w, i32_w]; rw [c3b0]) | skip)
   have H' := Aside0.mk H
   clear H
   go_wp2
   go_meet
   case rel => exact ⟨_, (true), (by first | rfl | (simp; done) | (simp [*]; done)), H', ⟨by first | omega | exact Nat.le_refl _⟩, ⟨by repeat (first | (with_reducible first | exact HB.out | apply below_alloc | apply pw_below_drewN | apply below_drew1) | exact HB.out)⟩⟩
  ·rw [if_neg c3] at H
   have c3b0 : decide ((l0.length : Int) < 1) = false := decide_eq_false c3
   have c3b1 : decide (l0.length < 1) = false := decide_eq_false (by omega)
   clear c3
   (first | rw [c3b0] | (simp only [i64_w, i32_w]; rw [c3b0]) | skip)
   have H' := Aside0.mk H
   clear H
   go_wp2
   go_meet
   case rel => exact ⟨_, (decide ((l0.length : Int) > 64)), (by first | rfl | (simp; done) | (simp [*]; done)), H', ⟨by first | omega | exact Nat.le_refl _⟩, ⟨by repeat (first | (with_reducible first | exact HB.out | apply below_alloc | apply pw_below_drewN | apply below_drew1) | exact HB.out)⟩⟩
 case rest =>
  clear HC2
  try clear c1
  try clear p2
  try clear c3
  try clear c3b0
  try clear c3b1
  obtain ⟨kq, x12_1, rfl, HA, HJ1, HB⟩ := hcut
  cases kq with
  | zero => exact absurd HA.out (by simp [foghornref11_Taps.j0])
  | succ kj1 =>
   have H := HA.out
   clear HA
   simp only [foghornref11_Taps.j0] at H
   by_cases c4 : x12_1 = true
   ·subst c4
    have H1 : (some false) = some r := by rw [if_pos rfl] at H; exact H
    clear H
    have H := H1
    clear H1
    obtain rfl := Option.some.inj H
    go_wp2
    go_ret
    exact ⟨by first | rfl | (simp [errW_none, errW_some] <;> rfl) | (simp [*, errW_none, errW_some] <;> rfl), by repeat (first | (with_reducible first | exact HB.out | apply below_alloc | apply pw_below_drewN | apply below_drew1) | exact HB.out)⟩
   ·replace c4 := Bool.eq_false_iff.mpr c4
    subst c4
    have H1 : (foghornref11_Taps.l0 kj1 l0 0 0) = some r := by rw [if_neg (show ¬ (false = true) by decide)] at H; exact H
    clear H
    have H := H1
    clear H1
    have H' := Aside0.mk H
    clear H
    go_wp2
    go_loopg [3, 4] kj1 (fun kq v3 v4 w' => ∃ (x3_2 : Nat) (x4_2 : Int), v3 = .float .f64 x3_2 ∧ v4 = .int .i64 x4_2 ∧ Aside0 (foghornref11_Taps.l0 kq l0 x3_2 x4_2 = some r) ∧ Aside0 (kq ≤ kj1) ∧ Aside0 (Below w.heap.size w w'))
    case atStart => exact ⟨(0), (0), (by first | rfl | (simp; done) | (simp [*]; done)), (by first | rfl | (simp; done) | (simp [*]; done)), H', ⟨Nat.le_refl _⟩, ⟨by repeat (first | (with_reducible first | exact HB.out | apply below_alloc | apply pw_below_drewN | apply below_drew1) | exact HB.out)⟩⟩
    case round =>
     clear H'
     try clear c1
     try clear p2
     try clear c3
     try clear c3b0
     try clear c3b1
     try clear c4
     try clear p2
     obtain ⟨x3_2, x4_2, rfl, rfl, HA, HK2, HB⟩ := hrel
     cases gk with
     | zero => exact absurd HA.out (by simp [foghornref11_Taps.l0])
     | succ k2 =>
      have H := HA.out
      clear HA
      simp only [foghornref11_Taps.l0] at H
      by_cases c5 : x4_2 < (l0.length : Int)
      ·rw [if_pos c5] at H
       have c5b0 : decide (x4_2 < (l0.length : Int)) = true := decide_eq_true c5
       clear c5
       have HC6 := Aside0.mk H
       clear H
       go_upto_region 7 with (fail)
       go_cut [34] (fun v34 wc => ∃ (kq : Nat) (x34_5 : Bool), v34 = .bool x34_5 ∧ Aside0 (foghornref11_Taps.j2 kq l0 x3_2 x4_2 x34_5 = some r) ∧ Aside0 (kq ≤ k2) ∧ Aside0 (Below w.heap.size w wc))
       case first =>
        have H := HC6.out
        clear HC6
        by_cases c7 : 0 ≤ x4_2
        ·rw [if_pos c7] at H
         have c7b0 : decide (0 ≤ x4_2) = true := decide_eq_true c7
         clear c7
         (first | rw [c7b0] | (simp only [i64_w, i32_w]; rw [c7b0]) | skip)
         replace H := Option.bind_eq_some_iff.mp H
         obtain ⟨t136, A80, H⟩ := H
         replace H : (if t136 = true then ((foghornref11_step.f ((rdOf (0, 0) l0 x4_2).2)).bind fun t138 => (foghornref11_Taps.j2 k2 l0 x3_2 x4_2 (!t138))) else (foghornref11_Taps.j2 k2 l0 x3_2 x4_2 true)) = some r := H
         have A8 := Aside0.mk A80
         clear A80
         by_cases c9 : t136 = true
         ·subst c9
          have H1 : ((foghornref11_step.f ((rdOf (0, 0) l0 x4_2).2)).bind fun t138 => (foghornref11_Taps.j2 k2 l0 x3_2 x4_2 (!t138))) = some r := by rw [if_pos rfl] at H; exact H
          clear H
          have H := H1
          clear H1
          replace H := Option.bind_eq_some_iff.mp H
          obtain ⟨t138, A100, H⟩ := H
          replace H : (foghornref11_Taps.j2 k2 l0 x3_2 x4_2 (!t138)) = some r := H
          have A10 := Aside0.mk A100
          clear A100
          have H' := Aside0.mk H
          clear H
          have p135 : 0 ≤ (x4_2 : Int) := of_decide_eq_true (by first | (with_reducible assumption) | assumption)
          have q135 : x4_2 < (l0.length : Int) := of_decide_eq_true (by first | (with_reducible assumption) | assumption)
          obtain ⟨ad135, e135, hx135_0⟩ := Kd.at_cplx HR0.out x4_2 p135 q135
          cases e135
          replace hx135_0 := (HB.out.cell (World.block_lt_of_cell? w _ hx135_0)).trans hx135_0
          replace p135 := eq_true p135
          replace q135 := eq_true q135
          go_wp2_with (first | (go_at_call 142; (with_reducible refine (foghornref11_step.calls ((rdOf (0, 0) l0 x4_2).1) true _ A8.out).mono ?_); rintro e w' ⟨rfl, ⟨nd, rfl⟩⟩; (try first | exact ⟨rfl, _, World.drewN_drewN _ _ _⟩ | exact ⟨rfl, _, Eq.trans (World.drewN_drewN _ _ _) (congrArg (World.drewN _) (Nat.add_assoc _ _ _))⟩); have p137 : 0 ≤ (x4_2 : Int) := of_decide_eq_true (by first | (with_reducible assumption) | assumption); have q137 : x4_2 < (l0.length : Int) := of_decide_eq_true (by first | (with_reducible assumption) | assumption); obtain ⟨ad137, e137, hx137_0⟩ := Kd.at_cplx HR0.out x4_2 p137 q137; obtain rfl : ad135 = ad137 := (by injection e137); replace hx137_0 := (HB.out.cell (World.block_lt_of_cell? w _ hx137_0)).trans hx137_0; replace p137 := eq_true p137; replace q137 := eq_true q137) | (go_at_call 142; (with_reducible refine (foghornref11_step.calls ((rdOf (0, 0) l0 x4_2).2) t138 _ A10.out).mono ?_); rintro e w' ⟨rfl, ⟨nd, rfl⟩⟩; (try first | exact ⟨rfl, _, World.drewN_drewN _ _ _⟩ | exact ⟨rfl, _, Eq.trans (World.drewN_drewN _ _ _) (congrArg (World.drewN _) (Nat.add_assoc _ _ _))⟩)))
          go_meet
          case rel => exact ⟨_, (!t138), (by first | rfl | (simp; done) | (simp [*]; done)), H', ⟨by have := HJ1.out; have := HK2.out; first | omega | exact Nat.le_refl _⟩, ⟨by repeat (first | (with_reducible first | exact HB.out | apply below_alloc | apply pw_below_drewN | apply below_drew1) | exact HB.out)⟩⟩
         ·replace c9 := Bool.eq_false_iff.mpr c9
          subst c9
          have H1 : (foghornref11_Taps.j2 k2 l0 x3_2 x4_2 true) = some r := by rw [if_neg (show ¬ (false = true) by decide)] at H; exact H
          clear H
          have H := H1
          clear H1
          have H' := Aside0.mk H
          clear H
          have p135 : 0 ≤ (x4_2 : Int) := of_decide_eq_true (by first | (with_reducible assumption) | assumption)
          have q135 : x4_2 < (l0.length : Int) := of_decide_eq_true (by first | (with_reducible assumption) | assumption)
          obtain ⟨ad135, e135, hx135_0⟩ := Kd.at_cplx HR0.out x4_2 p135 q135
          cases e135
          replace hx135_0 := (HB.out.cell (World.block_lt_of_cell? w _ hx135_0)).trans hx135_0
          replace p135 := eq_true p135
          replace q135 := eq_true q135
          go_wp2_with (go_at_call 142; (with_reducible refine (foghornref11_step.calls ((rdOf (0, 0) l0 x4_2).1) false _ A8.out).mono ?_); rintro e w' ⟨rfl, ⟨nd, rfl⟩⟩; (try first | exact ⟨rfl, _, World.drewN_drewN _ _ _⟩ | exact ⟨rfl, _, Eq.trans (World.drewN_drewN _ _ _) (congrArg (World.drewN _) (Nat.add_assoc _ _ _))⟩))
          go_meet
          case rel => exact ⟨_, (true), (by first | rfl | (simp; done) | (simp [*]; done)), H', ⟨by have := HJ1.out; have := HK2.out; first | omega | exact Nat.le_refl _⟩, ⟨by repeat (first | (with_reducible first | exact HB.out | apply below_alloc | apply pw_below_drewN | apply below_drew1) | exact HB.out)⟩⟩
        ·rw [if_neg c7] at H
         exact absurd H (by simp)
       case rest =>
        clear HC6
        try clear c1
        try clear p1
        try clear q1
        try clear hx1
        try clear p2
        try clear c3
        try clear c3b0
        try clear c3b1
        try clear c4
        try clear c5
        try clear c5b0
        try clear c7
        try clear c7b0
        try clear c9
        try clear c10
        try clear hx135_0
        try clear hx137_0
        try clear p135
        try clear p137
        try clear p2
        try clear q135
        try clear q137
        obtain ⟨kq, x34_5, rfl, HA, HJ5, HB⟩ := hcut
        cases kq with
        | zero => exact absurd HA.out (by simp [foghornref11_Taps.j2])
        | succ kj5 =>
         have H := HA.out
         clear HA
         simp only [foghornref11_Taps.j2] at H
         by_cases c11 : x34_5 = true
         ·subst c11
          have H1 : (some false) = some r := by rw [if_pos rfl] at H; exact H
          clear H
          have H := H1
          clear H1
          obtain rfl := Option.some.inj H
          go_wp2
          go_ret
          exact ⟨by first | rfl | (simp [errW_none, errW_some] <;> rfl) | (simp [*, errW_none, errW_some] <;> rfl), by repeat (first | (with_reducible first | exact HB.out | apply below_alloc | apply pw_below_drewN | apply below_drew1) | exact HB.out)⟩
         ·replace c11 := Bool.eq_false_iff.mpr c11
          subst c11
          have H1 : (if 0 ≤ x4_2 then (if x4_2 < (l0.length : Int) then ((foghornref11_size.f ((rdOf (0, 0) l0 x4_2).1)).bind fun t140 => ((floatBits .add .f64 x3_2 t140).bind fun t141 => ((foghornref11_size.f ((rdOf (0, 0) l0 x4_2).2)).bind fun t143 => ((floatBits .add .f64 t141 t143).bind fun t144 => (foghornref11_Taps.l0 kj5 l0 t144 (wrap64 (x4_2 + 1))))))) else (none)) else (none)) = some r := by rw [if_neg (show ¬ (false = true) by decide)] at H; exact H
          clear H
          have H := H1
          clear H1
          by_cases c12 : 0 ≤ x4_2
          ·rw [if_pos c12] at H
           have c12b0 : decide (0 ≤ x4_2) = true := decide_eq_true c12
           clear c12
           by_cases c13 : x4_2 < (l0.length : Int)
           ·rw [if_pos c13] at H
            have c13b0 : decide (x4_2 < (l0.length : Int)) = true := decide_eq_true c13
            clear c13
            replace H := Option.bind_eq_some_iff.mp H
            obtain ⟨t140, A140, H⟩ := H
            replace H : ((floatBits .add .f64 x3_2 t140).bind fun t141 => ((foghornref11_size.f ((rdOf (0, 0) l0 x4_2).2)).bind fun t143 => ((floatBits .add .f64 t141 t143).bind fun t144 => (foghornref11_Taps.l0 kj5 l0 t144 (wrap64 (x4_2 + 1)))))) = some r := H
            have A14 := Aside0.mk A140
            clear A140
            replace H := Option.bind_eq_some_iff.mp H
            obtain ⟨t141, A150, H⟩ := H
            replace H : ((foghornref11_size.f ((rdOf (0, 0) l0 x4_2).2)).bind fun t143 => ((floatBits .add .f64 t141 t143).bind fun t144 => (foghornref11_Taps.l0 kj5 l0 t144 (wrap64 (x4_2 + 1))))) = some r := H
            have A15 := Aside0.mk A150
            clear A150
            replace H := Option.bind_eq_some_iff.mp H
            obtain ⟨t143, A160, H⟩ := H
            replace H : ((floatBits .add .f64 t141 t143).bind fun t144 => (foghornref11_Taps.l0 kj5 l0 t144 (wrap64 (x4_2 + 1)))) = some r := H
            have A16 := Aside0.mk A160
            clear A160
            replace H := Option.bind_eq_some_iff.mp H
            obtain ⟨t144, A170, H⟩ := H
            replace H : (foghornref11_Taps.l0 kj5 l0 t144 (wrap64 (x4_2 + 1))) = some r := H
            have A17 := Aside0.mk A170
            clear A170
            have H' := Aside0.mk H
            clear H
            have p139 : 0 ≤ (x4_2 : Int) := of_decide_eq_true (by first | (with_reducible assumption) | assumption)
            have q139 : x4_2 < (l0.length : Int) := of_decide_eq_true (by first | (with_reducible assumption) | assumption)
            obtain ⟨ad139, e139, hx139_0⟩ := Kd.at_cplx HR0.out x4_2 p139 q139
            cases e139
            replace hx139_0 := (HB.out.cell (World.block_lt_of_cell? w _ hx139_0)).trans hx139_0
            replace p139 := eq_true p139
            replace q139 := eq_true q139
            go_wp2
            repeat (go_quiet (first | (go_at_call 143; (with_reducible refine (foghornref11_size.calls ((rdOf (0, 0) l0 x4_2).1) t140 _ A14.out).mono ?_); rintro e w' ⟨rfl, ⟨nd, rfl⟩⟩; (try first | exact ⟨rfl, _, World.drewN_drewN _ _ _⟩ | exact ⟨rfl, _, Eq.trans (World.drewN_drewN _ _ _) (congrArg (World.drewN _) (Nat.add_assoc _ _ _))⟩); have hfoA15_ := fun (t_ : TypeId) (w_ : World) => run_float_arith (P := Try.prog) w_ .add t_ .f64 x3_2 t140 t141 A15.out; have p142 : 0 ≤ (x4_2 : Int) := of_decide_eq_true (by first | (with_reducible assumption) | assumption); have q142 : x4_2 < (l0.length : Int) := of_decide_eq_true (by first | (with_reducible assumption) | assumption); obtain ⟨ad142, e142, hx142_0⟩ := Kd.at_cplx HR0.out x4_2 p142 q142; obtain rfl : ad139 = ad142 := (by injection e142); replace hx142_0 := (HB.out.cell (World.block_lt_of_cell? w _ hx142_0)).trans hx142_0; replace p142 := eq_true p142; replace q142 := eq_true q142) | (go_at_call 143; (with_reducible refine (foghornref11_size.calls ((rdOf (0, 0) l0 x4_2).2) t143 _ A16.out).mono ?_); rintro e w' ⟨rfl, ⟨nd, rfl⟩⟩; (try first | exact ⟨rfl, _, World.drewN_drewN _ _ _⟩ | exact ⟨rfl, _, Eq.trans (World.drewN_drewN _ _ _) (congrArg (World.drewN _) (Nat.add_assoc _ _ _))⟩); have hfoA17_ := fun (t_ : TypeId) (w_ : World) => run_float_arith (P := Try.prog) w_ .add t_ .f64 t141 t143 t144 A17.out)); try go_wp2)
            first | go_roundg kj5 | (simp only [add_plain] at *; go_roundg kj5)
            case measure => have := HJ1.out; have := HK2.out; have := HJ5.out; omega
            case rel => exact ⟨(t144), (wrap64 (x4_2 + 1)), (by first | rfl | (simp; done) | (simp [*]; done)), (by first | rfl | (simp; done) | (simp [*]; done)), H', ⟨by have := HJ1.out; have := HK2.out; have := HJ5.out; omega⟩, ⟨by repeat (first | (with_reducible first | exact HB.out | apply below_alloc | apply pw_below_drewN | apply below_drew1) | exact HB.out)⟩⟩
           ·rw [if_neg c13] at H
            exact absurd H (by simp)
          ·rw [if_neg c12] at H
           exact absurd H (by simp)
      ·rw [if_neg c5] at H
       have c5b0 : decide (x4_2 < (l0.length : Int)) = false := decide_eq_false c5
       clear c5
       obtain rfl := Option.some.inj H
       go_wp2
       go_ret
       exact ⟨by first | rfl | (simp [errW_none, errW_some] <;> rfl) | (simp [*, errW_none, errW_some] <;> rfl), by repeat (first | (with_reducible first | exact HB.out | apply below_alloc | apply pw_below_drewN | apply below_drew1) | exact HB.out)⟩
set_option maxHeartbeats 8000000 in
set_option maxRecDepth 100000 in
theorem math_Abs.calls (a0 : Nat) (r : Nat) (w : World) (h : math_Abs.f a0 = some r) :
  Calls Try.prog 131 #[.float .f64 a0] w fun e w' => e = .returned (.float .f64 r) ∧ Drawn0 w w' := by
 have H : (some ((Go.bits .andNot .u64 (a0 : Int) 9223372036854775808).toNat)) = some r := h
 clear h
 obtain rfl := Option.some.inj H
 have hfo2_ := ext159 a0
 have hfo3_ := ext101 (Go.bits .andNot .u64 (a0 : Int) 9223372036854775808)
 go_enter Try.func131, Try.ntmps131
 go_wp2
 go_ret
 exact ⟨by first | rfl | (simp; done) | (simp [*]; done), by repeat (first | exact Drawn0.refl _ | apply Drawn0.step)⟩
set_option maxHeartbeats 8000000 in
set_option maxRecDepth 100000 in
theorem math_IsNaN.calls (a0 : Nat) (r : Bool) (w : World) (h : math_IsNaN.f a0 = some r) :
  Calls Try.prog 113 #[.float .f64 a0] w fun e w' => e = .returned (.bool r) ∧ Drawn0 w w' := by
 have H : (some (FloatKind.f64.format.order a0 a0 != some .eq)) = some r := h
 clear h
 obtain rfl := Option.some.inj H
 go_enter Try.func113, Try.ntmps113
 go_wp2
 go_ret
 exact ⟨by first | rfl | (simp; done) | (simp [*]; done), by repeat (first | exact Drawn0.refl _ | apply Drawn0.step)⟩
set_option maxHeartbeats 8000000 in
set_option maxRecDepth 100000 in
theorem math_IsInf.calls (a0 : Nat) (a1 : Int) (r : Bool) (w : World) (h : math_IsInf.f a0 a1 = some r) :
  Calls Try.prog 153 #[.float .f64 a0, .int .i64 a1] w fun e w' => e = .returned (.bool r) ∧ Drawn0 w w' := by
 have H : (if a1 = 0 then ((math_Abs.f a0).bind fun t169 => (some (FloatKind.f64.format.order t169 9218868437227405311 == some .gt))) else (if a1 < 0 then (some (FloatKind.f64.format.order (Op.negFloat .f64 a0) 9218868437227405311 == some .gt)) else (some (FloatKind.f64.format.order a0 9218868437227405311 == some .gt)))) = some r := h
 clear h
 by_cases c3 : a1 = 0
 ·rw [if_pos c3] at H
  have c3b0 : (a1 == 0) = true := beq_iff_eq.mpr c3
  have c3b1 : (a1 != 0) = false := bne_eq_false_iff_eq.mpr c3
  clear c3
  replace H := Option.bind_eq_some_iff.mp H
  obtain ⟨t169, A40, H⟩ := H
  replace H : (some (FloatKind.f64.format.order t169 9218868437227405311 == some .gt)) = some r := H
  have A4 := Aside0.mk A40
  clear A40
  obtain rfl := Option.some.inj H
  go_enter Try.func153, Try.ntmps153
  go_wp2_with ((with_reducible refine gate_callee (f := 131) rfl ?_); refine goesL_ (some 8) rfl rfl Try.func131 (by kernel_rfl) rfl #[.float .f64 a0] rfl (by (try simp only [List.map_toArray, List.map_cons, List.map_nil]); first | done | rfl | (simp only [List.length_drop, List.length_take]; rfl)) ?_; (with_reducible refine (math_Abs.calls a0 t169 _ A4.out).mono ?_); rintro e w' ⟨rfl, ⟨nd, rfl⟩⟩; refine ⟨_, rfl, ?_⟩)
  go_ret
  exact ⟨by first | rfl | (simp; done) | (simp [*]; done), by repeat (first | exact Drawn0.refl _ | apply Drawn0.step)⟩
 ·rw [if_neg c3] at H
  have c3b0 : (a1 == 0) = false := beq_eq_false_iff_ne.mpr c3
  have c3b1 : (a1 != 0) = true := bne_iff_ne.mpr c3
  by_cases c5 : a1 < 0
  ·rw [if_pos c5] at H
   have c5b0 : decide (a1 < 0) = true := decide_eq_true c5
   clear c5
   obtain rfl := Option.some.inj H
   go_enter Try.func153, Try.ntmps153
   go_wp2
   go_ret
   exact ⟨by first | rfl | (simp; done) | (simp [*]; done), by repeat (first | exact Drawn0.refl _ | apply Drawn0.step)⟩
  ·rw [if_neg c5] at H
   have c5b0 : decide (a1 < 0) = false := decide_eq_false c5
   clear c5
   obtain rfl := Option.some.inj H
   go_enter Try.func153, Try.ntmps153
   go_wp2
   go_ret
   exact ⟨by first | rfl | (simp; done) | (simp [*]; done), by repeat (first | exact Drawn0.refl _ | apply Drawn0.step)⟩
set_option maxHeartbeats 8000000 in
set_option maxRecDepth 100000 in
theorem math_Floor.calls (a0 : Nat) (r : Nat) (w : World) (h : math_Floor.f a0 = some r) :
  Calls Try.prog 146 #[.float .f64 a0] w fun e w' => e = .returned (.float .f64 r) ∧ Drawn0 w w' := by
 have H : ((integF .down a0).bind fun t183 => (some t183)) = some r := h
 clear h
 replace H := Option.bind_eq_some_iff.mp H
 obtain ⟨t183, A20, H⟩ := H
 replace H : (some t183) = some r := H
 have A2 := Aside0.mk A20
 clear A20
 obtain rfl := Option.some.inj H
 have hfoA2_ := ext163 a0 t183 A2.out
 go_enter Try.func146, Try.ntmps146
 go_wp2
 go_ret
 exact ⟨by first | rfl | (simp; done) | (simp [*]; done), by repeat (first | exact Drawn0.refl _ | apply Drawn0.step)⟩
set_option maxHeartbeats 8000000 in
set_option maxRecDepth 100000 in
theorem feedback_step.calls (a0 : Nat) (r : Bool) (w : World) (h : feedback_step.f a0 = some r) :
  Calls Try.prog 144 #[.float .f64 a0] w fun e w' => e = .returned (.bool r) ∧ Drawn0 w w' := by
 have H : ((math_Abs.f a0).bind fun t184 => (if (FloatKind.f64.format.order t184 4607182418800017408 == some .lt || FloatKind.f64.format.order t184 4607182418800017408 == some .eq) = true then ((floatBits .mul .f64 a0 4634204016564240384).bind fun t185 => ((math_Floor.f t185).bind fun t186 => (some (FloatKind.f64.format.order t186 t185 == some .eq)))) else (some false))) = some r := h
 clear h
 replace H := Option.bind_eq_some_iff.mp H
 obtain ⟨t184, A20, H⟩ := H
 replace H : (if (FloatKind.f64.format.order t184 4607182418800017408 == some .lt || FloatKind.f64.format.order t184 4607182418800017408 == some .eq) = true then ((floatBits .mul .f64 a0 4634204016564240384).bind fun t185 => ((math_Floor.f t185).bind fun t186 => (some (FloatKind.f64.format.order t186 t185 == some .eq)))) else (some false)) = some r := H
 have A2 := Aside0.mk A20
 clear A20
 by_cases c3 : (FloatKind.f64.format.order t184 4607182418800017408 == some .lt || FloatKind.f64.format.order t184 4607182418800017408 == some .eq) = true
 ·rw [if_pos c3] at H
  have c3b0 : (FloatKind.f64.format.order t184 4607182418800017408 == some .lt || FloatKind.f64.format.order t184 4607182418800017408 == some .eq) = true := c3
  (try (have c3b1 : decide (FloatKind.f64.format.order t184 4607182418800017408 = some .lt || FloatKind.f64.format.order t184 4607182418800017408 == some .eq) = true := by simpa using c3))
  (try (have c3b2 : (FloatKind.f64.format.order t184 4607182418800017408 == some .lt || FloatKind.f64.format.order t184 4607182418800017408 == some .eq) = true := by simpa using c3))
  clear c3
  replace H := Option.bind_eq_some_iff.mp H
  obtain ⟨t185, A40, H⟩ := H
  replace H : ((math_Floor.f t185).bind fun t186 => (some (FloatKind.f64.format.order t186 t185 == some .eq))) = some r := H
  have A4 := Aside0.mk A40
  clear A40
  replace H := Option.bind_eq_some_iff.mp H
  obtain ⟨t186, A50, H⟩ := H
  replace H : (some (FloatKind.f64.format.order t186 t185 == some .eq)) = some r := H
  have A5 := Aside0.mk A50
  clear A50
  obtain rfl := Option.some.inj H
  go_enter Try.func144, Try.ntmps144
  go_wp2_with (first | ((with_reducible refine gate_callee (f := 131) rfl ?_); refine goesL_ (some 4) rfl rfl Try.func131 (by kernel_rfl) rfl #[.float .f64 a0] rfl (by (try simp only [List.map_toArray, List.map_cons, List.map_nil]); first | done | rfl | (simp only [List.length_drop, List.length_take]; rfl)) ?_; (with_reducible refine (math_Abs.calls a0 t184 _ A2.out).mono ?_); rintro e w' ⟨rfl, ⟨nd, rfl⟩⟩; refine ⟨_, rfl, ?_⟩; have hfoA4_ := fun (t_ : TypeId) (w_ : World) => run_float_arith (P := Try.prog) w_ .mul t_ .f64 a0 4634204016564240384 t185 A4.out) | (go_at_call 146; (with_reducible refine (math_Floor.calls t185 t186 _ A5.out).mono ?_); rintro e w' ⟨rfl, ⟨nd, rfl⟩⟩))
  go_ret
  exact ⟨by first | rfl | (simp; done) | (simp [*]; done), by repeat (first | exact Drawn0.refl _ | apply Drawn0.step)⟩
 ·rw [if_neg c3] at H
  have c3b0 : (FloatKind.f64.format.order t184 4607182418800017408 == some .lt || FloatKind.f64.format.order t184 4607182418800017408 == some .eq) = false := by simpa using c3
  (try (have c3b1 : decide (FloatKind.f64.format.order t184 4607182418800017408 = some .lt || FloatKind.f64.format.order t184 4607182418800017408 == some .eq) = false := by simpa using c3))
  (try (have c3b2 : (FloatKind.f64.format.order t184 4607182418800017408 == some .lt || FloatKind.f64.format.order t184 4607182418800017408 == some .eq) = false := by simpa using c3))
  (try (have c3b3 : ¬ (FloatKind.f64.format.order t184 4607182418800017408 = some .lt || FloatKind.f64.format.order t184 4607182418800017408 == some .eq) := by simpa using c3))
  clear c3
  obtain rfl := Option.some.inj H
  go_enter Try.func144, Try.ntmps144
  go_wp2_with ((with_reducible refine gate_callee (f := 131) rfl ?_); refine goesL_ (some 4) rfl rfl Try.func131 (by kernel_rfl) rfl #[.float .f64 a0] rfl (by (try simp only [List.map_toArray, List.map_cons, List.map_nil]); first | done | rfl | (simp only [List.length_drop, List.length_take]; rfl)) ?_; (with_reducible refine (math_Abs.calls a0 t184 _ A2.out).mono ?_); rintro e w' ⟨rfl, ⟨nd, rfl⟩⟩; refine ⟨_, rfl, ?_⟩)
  go_ret
  exact ⟨by first | rfl | (simp; done) | (simp [*]; done), by repeat (first | exact Drawn0.refl _ | apply Drawn0.step)⟩
set_option maxHeartbeats 8000000 in
set_option maxRecDepth 100000 in
theorem feedback_taps.calls (k : Nat) (A0 : Option Addr) (c0 : Nat) (l0 : List (Nat × Nat)) (r : Bool) (w : World) (hr0 : Kd.C Kd.cplx w A0 l0.length l0) (hc0 : l0.length ≤ c0) (h : feedback_taps.f k l0 = some r) :
  Calls Try.prog 105 #[.slice A0 l0.length c0] w fun e w' => e = .returned (.bool r) ∧ Below w.heap.size w w' := by
 have HR0 := Aside0.mk hr0
 have HC0 := Aside0.mk hc0
 clear hr0 hc0
 have HB := Aside0.mk (Below.refl w.heap.size w)
 have H : (feedback_taps.l0 k l0 0 l0 (l0.length : Int) 0) = some r := h
 clear h
 have H' := Aside0.mk H
 clear H
 go_enter Try.func105, Try.ntmps105
 go_wp2
 go_loopg [3, 8] k (fun kq v3 v8 w' => ∃ (x3_1 : Nat) (x8_1 : Int), v3 = .float .f64 x3_1 ∧ v8 = .int .i64 x8_1 ∧ Aside0 (feedback_taps.l0 kq l0 x3_1 l0 (l0.length : Int) x8_1 = some r) ∧ Aside0 (kq ≤ k) ∧ Aside0 (Below w.heap.size w w'))
 case atStart => exact ⟨(0), (0), (by first | rfl | (simp; done) | (simp [*]; done)), (by first | rfl | (simp; done) | (simp [*]; done)), H', ⟨Nat.le_refl _⟩, ⟨by repeat (first | (with_reducible first | exact HB.out | apply below_alloc | apply pw_below_drewN | apply below_drew1) | exact HB.out)⟩⟩
 case round =>
  clear H'
  try clear c1
  obtain ⟨x3_1, x8_1, rfl, rfl, HA, HK1, HB⟩ := hrel
  cases gk with
  | zero => exact absurd HA.out (by simp [feedback_taps.l0])
  | succ k1 =>
   have H := HA.out
   clear HA
   simp only [feedback_taps.l0] at H
   by_cases c2 : x8_1 < (l0.length : Int)
   ·rw [if_pos c2] at H
    have c2b0 : decide (x8_1 < (l0.length : Int)) = true := decide_eq_true c2
    clear c2
    by_cases c3 : 0 ≤ x8_1
    ·rw [if_pos c3] at H
     have c3b0 : decide (0 ≤ x8_1) = true := decide_eq_true c3
     clear c3
     by_cases c4 : x8_1 < (l0.length : Int)
     ·rw [if_pos c4] at H
      have c4b0 : decide (x8_1 < (l0.length : Int)) = true := decide_eq_true c4
      clear c4
      have HC5 := Aside0.mk H
      clear H
      have p187 : 0 ≤ (x8_1 : Int) := of_decide_eq_true (by first | (with_reducible assumption) | assumption)
      have q187 : x8_1 < (l0.length : Int) := of_decide_eq_true (by first | (with_reducible assumption) | assumption)
      obtain ⟨ad187, e187, hx187_0⟩ := Kd.at_cplx HR0.out x8_1 p187 q187
      cases e187
      replace hx187_0 := (HB.out.cell (World.block_lt_of_cell? w _ hx187_0)).trans hx187_0
      replace p187 := eq_true p187
      replace q187 := eq_true q187
      go_upto_region 5 with (fail)
      go_cut [21] (fun v21 wc => ∃ (kq : Nat) (x21_4 : Bool), v21 = .bool x21_4 ∧ Aside0 (feedback_taps.j1 kq l0 x3_1 (rdOf (0, 0) l0 x8_1) l0 (l0.length : Int) x8_1 x21_4 = some r) ∧ Aside0 (kq ≤ k1) ∧ Aside0 (Below w.heap.size w wc))
      case first =>
       have H := HC5.out
       clear HC5
       replace H := Option.bind_eq_some_iff.mp H
       obtain ⟨t188, A60, H⟩ := H
       replace H : (if t188 = true then ((feedback_step.f ((rdOf (0, 0) l0 x8_1).2)).bind fun t189 => (feedback_taps.j1 k1 l0 x3_1 (rdOf (0, 0) l0 x8_1) l0 (l0.length : Int) x8_1 (!t189))) else (feedback_taps.j1 k1 l0 x3_1 (rdOf (0, 0) l0 x8_1) l0 (l0.length : Int) x8_1 true)) = some r := H
       have A6 := Aside0.mk A60
       clear A60
       by_cases c7 : t188 = true
       ·subst c7
        have H1 : ((feedback_step.f ((rdOf (0, 0) l0 x8_1).2)).bind fun t189 => (feedback_taps.j1 k1 l0 x3_1 (rdOf (0, 0) l0 x8_1) l0 (l0.length : Int) x8_1 (!t189))) = some r := by rw [if_pos rfl] at H; exact H
        clear H
        have H := H1
        clear H1
        replace H := Option.bind_eq_some_iff.mp H
        obtain ⟨t189, A80, H⟩ := H
        replace H : (feedback_taps.j1 k1 l0 x3_1 (rdOf (0, 0) l0 x8_1) l0 (l0.length : Int) x8_1 (!t189)) = some r := H
        have A8 := Aside0.mk A80
        clear A80
        have H' := Aside0.mk H
        clear H
        go_wp2_with (first | ((with_reducible refine gate_callee (f := 144) rfl ?_); refine goesL_ (some 14) rfl rfl Try.func144 (by kernel_rfl) rfl #[.float .f64 ((rdOf (0, 0) l0 x8_1).1)] rfl (by (try simp only [List.map_toArray, List.map_cons, List.map_nil]); first | done | rfl | (simp only [List.length_drop, List.length_take]; rfl)) ?_; (with_reducible refine (feedback_step.calls ((rdOf (0, 0) l0 x8_1).1) true _ A6.out).mono ?_); rintro e w' ⟨rfl, ⟨nd, rfl⟩⟩; refine ⟨_, rfl, ?_⟩) | (go_at_call 144; (with_reducible refine (feedback_step.calls ((rdOf (0, 0) l0 x8_1).2) t189 _ A8.out).mono ?_); rintro e w' ⟨rfl, ⟨nd, rfl⟩⟩))
        go_meet
        case rel => exact ⟨_, (!t189), (by first | rfl | (simp; done) | (simp [*]; done)), H', ⟨by have := HK1.out; first | omega | exact Nat.le_refl _⟩, ⟨by repeat (first | (with_reducible first | exact HB.out | apply below_alloc | apply pw_below_drewN | apply below_drew1) | exact HB.out)⟩⟩
       ·replace c7 := Bool.eq_false_iff.mpr c7
        subst c7
        have H1 : (feedback_taps.j1 k1 l0 x3_1 (rdOf (0, 0) l0 x8_1) l0 (l0.length : Int) x8_1 true) = some r := by rw [if_neg (show ¬ (false = true) by decide)] at H; exact H
        clear H
        have H := H1
        clear H1
        have H' := Aside0.mk H
        clear H
        go_wp2_with ((with_reducible refine gate_callee (f := 144) rfl ?_); refine goesL_ (some 14) rfl rfl Try.func144 (by kernel_rfl) rfl #[.float .f64 ((rdOf (0, 0) l0 x8_1).1)] rfl (by (try simp only [List.map_toArray, List.map_cons, List.map_nil]); first | done | rfl | (simp only [List.length_drop, List.length_take]; rfl)) ?_; (with_reducible refine (feedback_step.calls ((rdOf (0, 0) l0 x8_1).1) false _ A6.out).mono ?_); rintro e w' ⟨rfl, ⟨nd, rfl⟩⟩; refine ⟨_, rfl, ?_⟩)
        go_meet
        case rel => exact ⟨_, (true), (by first | rfl | (simp; done) | (simp [*]; done)), H', ⟨by have := HK1.out; first | omega | exact Nat.le_refl _⟩, ⟨by repeat (first | (with_reducible first | exact HB.out | apply below_alloc | apply pw_below_drewN | apply below_drew1) | exact HB.out)⟩⟩
      case rest =>
       clear HC5
       try clear c1
       try clear p1
       try clear q1
       try clear hx1
       try clear c2
       try clear c2b0
       try clear p2
       try clear c3
       try clear c3b0
       try clear c4
       try clear c4b0
       try clear c7
       try clear hx187_0
       try clear p187
       try clear q187
       obtain ⟨kq, x21_4, rfl, HA, HJ4, HB⟩ := hcut
       cases kq with
       | zero => exact absurd HA.out (by simp [feedback_taps.j1])
       | succ kj4 =>
        have H := HA.out
        clear HA
        simp only [feedback_taps.j1] at H
        by_cases c9 : x21_4 = true
        ·subst c9
         have H1 : (some false) = some r := by rw [if_pos rfl] at H; exact H
         clear H
         have H := H1
         clear H1
         obtain rfl := Option.some.inj H
         go_wp2
         go_ret
         exact ⟨by first | rfl | (simp [errW_none, errW_some] <;> rfl) | (simp [*, errW_none, errW_some] <;> rfl), by repeat (first | (with_reducible first | exact HB.out | apply below_alloc | apply pw_below_drewN | apply below_drew1) | exact HB.out)⟩
        ·replace c9 := Bool.eq_false_iff.mpr c9
         subst c9
         have H1 : ((math_Abs.f (rdOf (0, 0) l0 x8_1).1).bind fun t190 => ((math_Abs.f (rdOf (0, 0) l0 x8_1).2).bind fun t191 => ((floatBits .add .f64 t190 t191).bind fun t192 => ((floatBits .add .f64 x3_1 t192).bind fun t193 => (feedback_taps.l0 kj4 l0 t193 l0 (l0.length : Int) (wrap64 (x8_1 + 1))))))) = some r := by rw [if_neg (show ¬ (false = true) by decide)] at H; exact H
         clear H
         have H := H1
         clear H1
         replace H := Option.bind_eq_some_iff.mp H
         obtain ⟨t190, A100, H⟩ := H
         replace H : ((math_Abs.f (rdOf (0, 0) l0 x8_1).2).bind fun t191 => ((floatBits .add .f64 t190 t191).bind fun t192 => ((floatBits .add .f64 x3_1 t192).bind fun t193 => (feedback_taps.l0 kj4 l0 t193 l0 (l0.length : Int) (wrap64 (x8_1 + 1)))))) = some r := H
         have A10 := Aside0.mk A100
         clear A100
         replace H := Option.bind_eq_some_iff.mp H
         obtain ⟨t191, A110, H⟩ := H
         replace H : ((floatBits .add .f64 t190 t191).bind fun t192 => ((floatBits .add .f64 x3_1 t192).bind fun t193 => (feedback_taps.l0 kj4 l0 t193 l0 (l0.length : Int) (wrap64 (x8_1 + 1))))) = some r := H
         have A11 := Aside0.mk A110
         clear A110
         replace H := Option.bind_eq_some_iff.mp H
         obtain ⟨t192, A120, H⟩ := H
         replace H : ((floatBits .add .f64 x3_1 t192).bind fun t193 => (feedback_taps.l0 kj4 l0 t193 l0 (l0.length : Int) (wrap64 (x8_1 + 1)))) = some r := H
         have A12 := Aside0.mk A120
         clear A120
         replace H := Option.bind_eq_some_iff.mp H
         obtain ⟨t193, A130, H⟩ := H
         replace H : (feedback_taps.l0 kj4 l0 t193 l0 (l0.length : Int) (wrap64 (x8_1 + 1))) = some r := H
         have A13 := Aside0.mk A130
         clear A130
         have H' := Aside0.mk H
         clear H
         go_wp2_with (first | ((with_reducible refine gate_callee (f := 131) rfl ?_); refine goesL_ (some 25) rfl rfl Try.func131 (by kernel_rfl) rfl #[.float .f64 ((rdOf (0, 0) l0 x8_1).1)] rfl (by (try simp only [List.map_toArray, List.map_cons, List.map_nil]); first | done | rfl | (simp only [List.length_drop, List.length_take]; rfl)) ?_; (with_reducible refine (math_Abs.calls ((rdOf (0, 0) l0 x8_1).1) t190 _ A10.out).mono ?_); rintro e w' ⟨rfl, ⟨nd, rfl⟩⟩; refine ⟨_, rfl, ?_⟩) | ((with_reducible refine gate_callee (f := 131) rfl ?_); refine goesL_ (some 28) rfl rfl Try.func131 (by kernel_rfl) rfl #[.float .f64 ((rdOf (0, 0) l0 x8_1).2)] rfl (by (try simp only [List.map_toArray, List.map_cons, List.map_nil]); first | done | rfl | (simp only [List.length_drop, List.length_take]; rfl)) ?_; (with_reducible refine (math_Abs.calls ((rdOf (0, 0) l0 x8_1).2) t191 _ A11.out).mono ?_); rintro e w' ⟨rfl, ⟨nd, rfl⟩⟩; refine ⟨_, rfl, ?_⟩; have hfoA12_ := fun (t_ : TypeId) (w_ : World) => run_float_arith (P := Try.prog) w_ .add t_ .f64 t190 t191 t192 A12.out; have hfoA13_ := fun (t_ : TypeId) (w_ : World) => run_float_arith (P := Try.prog) w_ .add t_ .f64 x3_1 t192 t193 A13.out))
         first | go_roundg kj4 | (simp only [add_plain] at *; go_roundg kj4)
         case measure => have := HK1.out; have := HJ4.out; omega
         case rel => exact ⟨(t193), (wrap64 (x8_1 + 1)), (by first | rfl | (simp; done) | (simp [*]; done)), (by first | rfl | (simp; done) | (simp [*]; done)), H', ⟨by have := HK1.out; have := HJ4.out; omega⟩, ⟨by repeat (first | (with_reducible first | exact HB.out | apply below_alloc | apply pw_below_drewN | apply below_drew1) | exact HB.out)⟩⟩
     ·rw [if_neg c4] at H
      exact absurd H (by simp)
    ·rw [if_neg c3] at H
     exact absurd H (by simp)
   ·rw [if_neg c2] at H
    have c2b0 : decide (x8_1 < (l0.length : Int)) = false := decide_eq_false c2
    clear c2
    by_cases c14 : (l0.length : Int) > 0
    ·rw [if_pos c14] at H
     have c14b0 : decide (0 < (l0.length : Int)) = true := decide_eq_true c14
     have c14b1 : decide (0 < l0.length) = true := decide_eq_true (by omega)
     clear c14
     by_cases c15 : (l0.length : Int) ≤ 64
     ·rw [if_pos c15] at H
      have c15b0 : decide ((l0.length : Int) ≤ 64) = true := decide_eq_true c15
      have c15b1 : decide (l0.length ≤ 64) = true := decide_eq_true (by omega)
      clear c15
      obtain rfl := Option.some.inj H
      go_wp2
      go_ret
      exact ⟨by first | rfl | (simp [errW_none, errW_some] <;> rfl) | (simp [*, errW_none, errW_some] <;> rfl), by repeat (first | (with_reducible first | exact HB.out | apply below_alloc | apply pw_below_drewN | apply below_drew1) | exact HB.out)⟩
     ·rw [if_neg c15] at H
      have c15b0 : decide ((l0.length : Int) ≤ 64) = false := decide_eq_false c15
      have c15b1 : decide (l0.length ≤ 64) = false := decide_eq_false (by omega)
      clear c15
      obtain rfl := Option.some.inj H
      go_wp2
      go_ret
      exact ⟨by first | rfl | (simp [errW_none, errW_some] <;> rfl) | (simp [*, errW_none, errW_some] <;> rfl), by repeat (first | (with_reducible first | exact HB.out | apply below_alloc | apply pw_below_drewN | apply below_drew1) | exact HB.out)⟩
    ·rw [if_neg c14] at H
     have c14b0 : decide (0 < (l0.length : Int)) = false := decide_eq_false c14
     have c14b1 : decide (0 < l0.length) = false := decide_eq_false (by omega)
     clear c14
     obtain rfl := Option.some.inj H
     go_wp2
     go_ret
     exact ⟨by first | rfl | (simp [errW_none, errW_some] <;> rfl) | (simp [*, errW_none, errW_some] <;> rfl), by repeat (first | (with_reducible first | exact HB.out | apply below_alloc | apply pw_below_drewN | apply below_drew1) | exact HB.out)⟩
set_option maxHeartbeats 8000000 in
set_option maxRecDepth 100000 in
theorem grid_within.calls (a0 : Nat) (r : Bool) (w : World) (h : grid_within.f a0 = some r) :
  Calls Try.prog 145 #[.float .f64 a0] w fun e w' => e = .returned (.bool r) ∧ Drawn0 w w' := by
 have H : (if (FloatKind.f64.format.order a0 13875590451928498176 == some .gt || FloatKind.f64.format.order a0 13875590451928498176 == some .eq) = true then (some (FloatKind.f64.format.order a0 4652218415073722368 == some .lt || FloatKind.f64.format.order a0 4652218415073722368 == some .eq)) else (some false)) = some r := h
 clear h
 by_cases c2 : (FloatKind.f64.format.order a0 13875590451928498176 == some .gt || FloatKind.f64.format.order a0 13875590451928498176 == some .eq) = true
 ·rw [if_pos c2] at H
  have c2b0 : (FloatKind.f64.format.order a0 13875590451928498176 == some .gt || FloatKind.f64.format.order a0 13875590451928498176 == some .eq) = true := c2
  (try (have c2b1 : decide (FloatKind.f64.format.order a0 13875590451928498176 = some .gt || FloatKind.f64.format.order a0 13875590451928498176 == some .eq) = true := by simpa using c2))
  (try (have c2b2 : (FloatKind.f64.format.order a0 13875590451928498176 == some .gt || FloatKind.f64.format.order a0 13875590451928498176 == some .eq) = true := by simpa using c2))
  clear c2
  obtain rfl := Option.some.inj H
  go_enter Try.func145, Try.ntmps145
  go_wp2
  go_ret
  exact ⟨by first | rfl | (simp; done) | (simp [*]; done), by repeat (first | exact Drawn0.refl _ | apply Drawn0.step)⟩
 ·rw [if_neg c2] at H
  have c2b0 : (FloatKind.f64.format.order a0 13875590451928498176 == some .gt || FloatKind.f64.format.order a0 13875590451928498176 == some .eq) = false := by simpa using c2
  (try (have c2b1 : decide (FloatKind.f64.format.order a0 13875590451928498176 = some .gt || FloatKind.f64.format.order a0 13875590451928498176 == some .eq) = false := by simpa using c2))
  (try (have c2b2 : (FloatKind.f64.format.order a0 13875590451928498176 == some .gt || FloatKind.f64.format.order a0 13875590451928498176 == some .eq) = false := by simpa using c2))
  (try (have c2b3 : ¬ (FloatKind.f64.format.order a0 13875590451928498176 = some .gt || FloatKind.f64.format.order a0 13875590451928498176 == some .eq) := by simpa using c2))
  clear c2
  obtain rfl := Option.some.inj H
  go_enter Try.func145, Try.ntmps145
  go_wp2
  go_ret
  exact ⟨by first | rfl | (simp; done) | (simp [*]; done), by repeat (first | exact Drawn0.refl _ | apply Drawn0.step)⟩
set_option maxHeartbeats 8000000 in
set_option maxRecDepth 100000 in
theorem grid_On.calls (a0 : Nat) (r : Bool) (w : World) (h : grid_On.f a0 = some r) :
  Calls Try.prog 106 #[.float .f64 a0] w fun e w' => e = .returned (.bool r) ∧ Drawn0 w w' := by
 have H : ((grid_within.f a0).bind fun t194 => (if t194 = true then ((floatBits .mul .f64 a0 4661225614328463360).bind fun t195 => ((math_Floor.f t195).bind fun t196 => (some (FloatKind.f64.format.order t196 t195 == some .eq)))) else (some false))) = some r := h
 clear h
 replace H := Option.bind_eq_some_iff.mp H
 obtain ⟨t194, A20, H⟩ := H
 replace H : (if t194 = true then ((floatBits .mul .f64 a0 4661225614328463360).bind fun t195 => ((math_Floor.f t195).bind fun t196 => (some (FloatKind.f64.format.order t196 t195 == some .eq)))) else (some false)) = some r := H
 have A2 := Aside0.mk A20
 clear A20
 by_cases c3 : t194 = true
 ·subst c3
  have H1 : ((floatBits .mul .f64 a0 4661225614328463360).bind fun t195 => ((math_Floor.f t195).bind fun t196 => (some (FloatKind.f64.format.order t196 t195 == some .eq)))) = some r := by rw [if_pos rfl] at H; exact H
  clear H
  have H := H1
  clear H1
  replace H := Option.bind_eq_some_iff.mp H
  obtain ⟨t195, A40, H⟩ := H
  replace H : ((math_Floor.f t195).bind fun t196 => (some (FloatKind.f64.format.order t196 t195 == some .eq))) = some r := H
  have A4 := Aside0.mk A40
  clear A40
  replace H := Option.bind_eq_some_iff.mp H
  obtain ⟨t196, A50, H⟩ := H
  replace H : (some (FloatKind.f64.format.order t196 t195 == some .eq)) = some r := H
  have A5 := Aside0.mk A50
  clear A50
  obtain rfl := Option.some.inj H
  go_enter Try.func106, Try.ntmps106
  go_wp2_with (first | ((with_reducible refine gate_callee (f := 145) rfl ?_); refine goesL_ (some 4) rfl rfl Try.func145 (by kernel_rfl) rfl #[.float .f64 a0] rfl (by (try simp only [List.map_toArray, List.map_cons, List.map_nil]); first | done | rfl | (simp only [List.length_drop, List.length_take]; rfl)) ?_; (with_reducible refine (grid_within.calls a0 true _ A2.out).mono ?_); rintro e w' ⟨rfl, ⟨nd, rfl⟩⟩; refine ⟨_, rfl, ?_⟩; have hfoA4_ := fun (t_ : TypeId) (w_ : World) => run_float_arith (P := Try.prog) w_ .mul t_ .f64 a0 4661225614328463360 t195 A4.out) | (go_at_call 146; (with_reducible refine (math_Floor.calls t195 t196 _ A5.out).mono ?_); rintro e w' ⟨rfl, ⟨nd, rfl⟩⟩))
  go_ret
  exact ⟨by first | rfl | (simp; done) | (simp [*]; done), by repeat (first | exact Drawn0.refl _ | apply Drawn0.step)⟩
 ·replace c3 := Bool.eq_false_iff.mpr c3
  subst c3
  have H1 : (some false) = some r := by rw [if_neg (show ¬ (false = true) by decide)] at H; exact H
  clear H
  have H := H1
  clear H1
  obtain rfl := Option.some.inj H
  go_enter Try.func106, Try.ntmps106
  go_wp2_with ((with_reducible refine gate_callee (f := 145) rfl ?_); refine goesL_ (some 4) rfl rfl Try.func145 (by kernel_rfl) rfl #[.float .f64 a0] rfl (by (try simp only [List.map_toArray, List.map_cons, List.map_nil]); first | done | rfl | (simp only [List.length_drop, List.length_take]; rfl)) ?_; (with_reducible refine (grid_within.calls a0 false _ A2.out).mono ?_); rintro e w' ⟨rfl, ⟨nd, rfl⟩⟩; refine ⟨_, rfl, ?_⟩)
  go_ret
  exact ⟨by first | rfl | (simp; done) | (simp [*]; done), by repeat (first | exact Drawn0.refl _ | apply Drawn0.step)⟩
set_option maxHeartbeats 8000000 in
set_option maxRecDepth 100000 in
theorem feedback_times.calls (a0 : (Nat × Nat)) (a1 : (Nat × Nat)) (r1 : Nat) (r2 : Nat) (w : World) (h : feedback_times.f a0 a1 = some (r1, r2)) :
  Calls Try.prog 107 #[.complex .f64 a0.1 a0.2, .complex .f64 a1.1 a1.2] w fun e w' => e = .returned (.tuple #[.float .f64 r1, .float .f64 r2]) ∧ Below w.heap.size w w' := by
 have HB := Aside0.mk (Below.refl w.heap.size w)
 have H : ((floatBits .mul .f64 a0.1 a1.1).bind fun t197 => ((floatBits .mul .f64 a0.2 a1.2).bind fun t198 => ((floatBits .sub .f64 t197 t198).bind fun t199 => ((floatBits .mul .f64 a0.1 a1.2).bind fun t200 => ((floatBits .mul .f64 a0.2 a1.1).bind fun t201 => ((floatBits .add .f64 t200 t201).bind fun t202 => (some (t199, t202)))))))) = some (r1, r2) := h
 clear h
 replace H := Option.bind_eq_some_iff.mp H
 obtain ⟨t197, A30, H⟩ := H
 replace H : ((floatBits .mul .f64 a0.2 a1.2).bind fun t198 => ((floatBits .sub .f64 t197 t198).bind fun t199 => ((floatBits .mul .f64 a0.1 a1.2).bind fun t200 => ((floatBits .mul .f64 a0.2 a1.1).bind fun t201 => ((floatBits .add .f64 t200 t201).bind fun t202 => (some (t199, t202))))))) = some (r1, r2) := H
 have A3 := Aside0.mk A30
 clear A30
 replace H := Option.bind_eq_some_iff.mp H
 obtain ⟨t198, A40, H⟩ := H
 replace H : ((floatBits .sub .f64 t197 t198).bind fun t199 => ((floatBits .mul .f64 a0.1 a1.2).bind fun t200 => ((floatBits .mul .f64 a0.2 a1.1).bind fun t201 => ((floatBits .add .f64 t200 t201).bind fun t202 => (some (t199, t202)))))) = some (r1, r2) := H
 have A4 := Aside0.mk A40
 clear A40
 replace H := Option.bind_eq_some_iff.mp H
 obtain ⟨t199, A50, H⟩ := H
 replace H : ((floatBits .mul .f64 a0.1 a1.2).bind fun t200 => ((floatBits .mul .f64 a0.2 a1.1).bind fun t201 => ((floatBits .add .f64 t200 t201).bind fun t202 => (some (t199, t202))))) = some (r1, r2) := H
 have A5 := Aside0.mk A50
 clear A50
 replace H := Option.bind_eq_some_iff.mp H
 obtain ⟨t200, A60, H⟩ := H
 replace H : ((floatBits .mul .f64 a0.2 a1.1).bind fun t201 => ((floatBits .add .f64 t200 t201).bind fun t202 => (some (t199, t202)))) = some (r1, r2) := H
 have A6 := Aside0.mk A60
 clear A60
 replace H := Option.bind_eq_some_iff.mp H
 obtain ⟨t201, A70, H⟩ := H
 replace H : ((floatBits .add .f64 t200 t201).bind fun t202 => (some (t199, t202))) = some (r1, r2) := H
 have A7 := Aside0.mk A70
 clear A70
 replace H := Option.bind_eq_some_iff.mp H
 obtain ⟨t202, A80, H⟩ := H
 replace H : (some (t199, t202)) = some (r1, r2) := H
 have A8 := Aside0.mk A80
 clear A80
 simp only [Option.some.injEq, Prod.mk.injEq] at H
 obtain ⟨rfl, rfl⟩ := H
 have hfoA3_ := fun (t_ : TypeId) (w_ : World) => run_float_arith (P := Try.prog) w_ .mul t_ .f64 a0.1 a1.1 t197 A3.out
 have hfoA4_ := fun (t_ : TypeId) (w_ : World) => run_float_arith (P := Try.prog) w_ .mul t_ .f64 a0.2 a1.2 t198 A4.out
 have hfoA5_ := fun (t_ : TypeId) (w_ : World) => run_float_arith (P := Try.prog) w_ .sub t_ .f64 t197 t198 t199 A5.out
 have hfoA6_ := fun (t_ : TypeId) (w_ : World) => run_float_arith (P := Try.prog) w_ .mul t_ .f64 a0.1 a1.2 t200 A6.out
 have hfoA7_ := fun (t_ : TypeId) (w_ : World) => run_float_arith (P := Try.prog) w_ .mul t_ .f64 a0.2 a1.1 t201 A7.out
 have hfoA8_ := fun (t_ : TypeId) (w_ : World) => run_float_arith (P := Try.prog) w_ .add t_ .f64 t200 t201 t202 A8.out
 go_enter Try.func107, Try.ntmps107
 go_wp2
 go_ret2
 exact ⟨by first | rfl | (simp [errW_none, errW_some] <;> rfl) | (simp [*, errW_none, errW_some] <;> rfl), by repeat (first | (with_reducible first | exact HB.out | apply below_alloc | apply pw_below_drewN | apply below_drew1) | exact HB.out)⟩
set_option maxHeartbeats 8000000 in
set_option maxRecDepth 100000 in
theorem feedback_Echo.calls (k : Nat) (A0 : Option Addr) (c0 : Nat) (l0 : List (Nat × Nat)) (A1 : Option Addr) (c1 : Nat) (l1 : List (Nat × Nat)) (r1 : List (Nat × Nat)) (r2 : Int) (w : World) (hr0 : Kd.C Kd.cplx w A0 l0.length l0) (hc0 : l0.length ≤ c0) (hr1 : Kd.C Kd.cplx w A1 l1.length l1) (hc1 : l1.length ≤ c1) (h : feedback_Echo.f k l0 l1 = some (r1, r2)) :
  Calls Try.prog 26 #[.slice A0 l0.length c0, .slice A1 l1.length c1] w fun e w' => ∃ v0_ : Value, e = .returned (.tuple #[v0_, .int .i64 r2]) ∧ Kd.R Kd.cplx 32 w' w.heap.size (fun _ => True) v0_ r1 ∧ Below w.heap.size w w' := by
 have HR0 := Aside0.mk hr0
 have HC0 := Aside0.mk hc0
 clear hr0 hc0
 have HR1 := Aside0.mk hr1
 have HC1 := Aside0.mk hc1
 clear hr1 hc1
 have HB := Aside0.mk (Below.refl w.heap.size w)
 have H : ((feedback_taps.f k l0).bind fun t203 => (if t203 = true then (if (l1.length : Int) > 65536 then (some (([] : List (Nat × Nat)), 1)) else (feedback_Echo.l0 k l0 l1 l1 (l1.length : Int) 0)) else (some (([] : List (Nat × Nat)), 8)))) = some (r1, r2) := h
 clear h
 replace H := Option.bind_eq_some_iff.mp H
 obtain ⟨t203, A30, H⟩ := H
 replace H : (if t203 = true then (if (l1.length : Int) > 65536 then (some (([] : List (Nat × Nat)), 1)) else (feedback_Echo.l0 k l0 l1 l1 (l1.length : Int) 0)) else (some (([] : List (Nat × Nat)), 8))) = some (r1, r2) := H
 have A3 := Aside0.mk A30
 clear A30
 by_cases c4 : t203 = true
 ·subst c4
  have H1 : (if (l1.length : Int) > 65536 then (some (([] : List (Nat × Nat)), 1)) else (feedback_Echo.l0 k l0 l1 l1 (l1.length : Int) 0)) = some (r1, r2) := by rw [if_pos rfl] at H; exact H
  clear H
  have H := H1
  clear H1
  by_cases c5 : (l1.length : Int) > 65536
  ·rw [if_pos c5] at H
   have c5b0 : decide (65536 < (l1.length : Int)) = true := decide_eq_true c5
   have c5b1 : decide (65536 < l1.length) = true := decide_eq_true (by omega)
   clear c5
   simp only [Option.some.injEq, Prod.mk.injEq] at H
   obtain ⟨rfl, rfl⟩ := H
   go_enter Try.func26, Try.ntmps26
   go_wp2_with ((with_reducible refine gate_callee (f := 105) rfl ?_); refine goesL_ (some 18) rfl rfl Try.func105 (by kernel_rfl) rfl #[.slice A0 l0.length c0] rfl (by (try simp only [List.map_toArray, List.map_cons, List.map_nil]); first | done | rfl | (simp only [List.length_drop, List.length_take]; rfl)) ?_; (with_reducible refine (feedback_taps.calls k _ _ l0 true _ ?side1 ?side2 A3.out).mono ?_); (case side1 => repeat (first | exact HR0.out | (with_reducible refine Kd.C_alloc ?_ _) | (with_reducible refine Kd.C_drewN ?_ _) | (with_reducible refine Kd.C_drew ?_))); (case side2 => exact HC0.out); rintro e w6 ⟨rfl, hb⟩; refine ⟨_, rfl, ?_⟩; have n0_ := Aside0.mk (below_step (by repeat (first | (with_reducible first | exact HB.out | apply below_alloc | apply pw_below_drewN | apply below_drew1) | exact HB.out)) hb); clear HB; have HB := n0_; clear n0_; (try clear hb); (try clear hb2); (try clear hk); (try clear hi))
   go_ret2
   exact ⟨_, by first | rfl | (simp [errW_none, errW_some] <;> rfl) | (simp [*, errW_none, errW_some] <;> rfl), by first | exact Kd.R_nil _ _ _ _ _ | exact Kd.N_nil _ _ _ _ _ | exact Kd.V_nil _ _ _ _ _ | exact Kd.Q_nil _ _ _ _ _ | exact Kd.S_nil _ _ _ _ _, by repeat (first | (with_reducible first | exact HB.out | apply below_alloc | apply pw_below_drewN | apply below_drew1) | exact HB.out)⟩
  ·rw [if_neg c5] at H
   have c5b0 : decide (65536 < (l1.length : Int)) = false := decide_eq_false c5
   have c5b1 : decide (65536 < l1.length) = false := decide_eq_false (by omega)
   clear c5
   have H' := Aside0.mk H
   clear H
   go_enter Try.func26, Try.ntmps26
   go_wp2_with ((with_reducible refine gate_callee (f := 105) rfl ?_); refine goesL_ (some 18) rfl rfl Try.func105 (by kernel_rfl) rfl #[.slice A0 l0.length c0] rfl (by (try simp only [List.map_toArray, List.map_cons, List.map_nil]); first | done | rfl | (simp only [List.length_drop, List.length_take]; rfl)) ?_; (with_reducible refine (feedback_taps.calls k _ _ l0 true _ ?side1 ?side2 A3.out).mono ?_); (case side1 => repeat (first | exact HR0.out | (with_reducible refine Kd.C_alloc ?_ _) | (with_reducible refine Kd.C_drewN ?_ _) | (with_reducible refine Kd.C_drew ?_))); (case side2 => exact HC0.out); rintro e w7 ⟨rfl, hb⟩; refine ⟨_, rfl, ?_⟩; have n0_ := Aside0.mk (below_step (by repeat (first | (with_reducible first | exact HB.out | apply below_alloc | apply pw_below_drewN | apply below_drew1) | exact HB.out)) hb); clear HB; have HB := n0_; clear n0_; (try clear hb); (try clear hb2); (try clear hk); (try clear hi))
   go_loopg [26] k (fun kq v26 w' => ∃ (x26_1 : Int), v26 = .int .i64 x26_1 ∧ Aside0 (feedback_Echo.l0 kq l0 l1 l1 (l1.length : Int) x26_1 = some (r1, r2)) ∧ Aside0 (kq ≤ k) ∧ Aside0 (Below w.heap.size w w'))
   case atStart => exact ⟨(0), (by first | rfl | (simp; done) | (simp [*]; done)), H', ⟨Nat.le_refl _⟩, ⟨by repeat (first | (with_reducible first | exact HB.out | apply below_alloc | apply pw_below_drewN | apply below_drew1) | exact HB.out)⟩⟩
   case round =>
    clear H'
    try clear c1
    try clear c2
    try clear p2
    try clear c4
    try clear c5
    try clear c5b0
    try clear c5b1
    obtain ⟨x26_1, rfl, HA, HK1, HB⟩ := hrel
    cases gk with
    | zero => exact absurd HA.out (by simp [feedback_Echo.l0])
    | succ k1 =>
     have H := HA.out
     clear HA
     simp only [feedback_Echo.l0] at H
     by_cases c8 : x26_1 < (l1.length : Int)
     ·rw [if_pos c8] at H
      have c8b0 : decide (x26_1 < (l1.length : Int)) = true := decide_eq_true c8
      clear c8
      by_cases c9 : 0 ≤ x26_1
      ·rw [if_pos c9] at H
       have c9b0 : decide (0 ≤ x26_1) = true := decide_eq_true c9
       clear c9
       by_cases c10 : x26_1 < (l1.length : Int)
       ·rw [if_pos c10] at H
        have c10b0 : decide (x26_1 < (l1.length : Int)) = true := decide_eq_true c10
        clear c10
        replace H := Option.bind_eq_some_iff.mp H
        obtain ⟨t205, A110, H⟩ := H
        replace H : (if t205 = true then ((grid_On.f ((rdOf (0, 0) l1 x26_1).2)).bind fun t206 => (if t206 = true then (feedback_Echo.l0 k1 l0 l1 l1 (l1.length : Int) (wrap64 (x26_1 + 1))) else (some (([] : List (Nat × Nat)), 7)))) else (some (([] : List (Nat × Nat)), 7))) = some (r1, r2) := H
        have A11 := Aside0.mk A110
        clear A110
        by_cases c12 : t205 = true
        ·subst c12
         have H1 : ((grid_On.f ((rdOf (0, 0) l1 x26_1).2)).bind fun t206 => (if t206 = true then (feedback_Echo.l0 k1 l0 l1 l1 (l1.length : Int) (wrap64 (x26_1 + 1))) else (some (([] : List (Nat × Nat)), 7)))) = some (r1, r2) := by rw [if_pos rfl] at H; exact H
         clear H
         have H := H1
         clear H1
         replace H := Option.bind_eq_some_iff.mp H
         obtain ⟨t206, A130, H⟩ := H
         replace H : (if t206 = true then (feedback_Echo.l0 k1 l0 l1 l1 (l1.length : Int) (wrap64 (x26_1 + 1))) else (some (([] : List (Nat × Nat)), 7))) = some (r1, r2) := H
         have A13 := Aside0.mk A130
         clear A130
         by_cases c14 : t206 = true
         ·subst c14
          have H1 : (feedback_Echo.l0 k1 l0 l1 l1 (l1.length : Int) (wrap64 (x26_1 + 1))) = some (r1, r2) := by rw [if_pos rfl] at H; exact H
          clear H
          have H := H1
          clear H1
          have H' := Aside0.mk H
          clear H
          have p204 : 0 ≤ (x26_1 : Int) := of_decide_eq_true (by first | (with_reducible assumption) | assumption)
          have q204 : x26_1 < (l1.length : Int) := of_decide_eq_true (by first | (with_reducible assumption) | assumption)
          obtain ⟨ad204, e204, hx204_0⟩ := Kd.at_cplx HR1.out x26_1 p204 q204
          cases e204
          replace hx204_0 := (HB.out.cell (World.block_lt_of_cell? w _ hx204_0)).trans hx204_0
          replace p204 := eq_true p204
          replace q204 := eq_true q204
          go_wp2_with (first | ((with_reducible refine gate_callee (f := 106) rfl ?_); refine goesL_ (some 32) rfl rfl Try.func106 (by kernel_rfl) rfl #[.float .f64 ((rdOf (0, 0) l1 x26_1).1)] rfl (by (try simp only [List.map_toArray, List.map_cons, List.map_nil]); first | done | rfl | (simp only [List.length_drop, List.length_take]; rfl)) ?_; (with_reducible refine (grid_On.calls ((rdOf (0, 0) l1 x26_1).1) true _ A11.out).mono ?_); rintro e w' ⟨rfl, ⟨nd, rfl⟩⟩; refine ⟨_, rfl, ?_⟩) | (go_at_call 106; (with_reducible refine (grid_On.calls ((rdOf (0, 0) l1 x26_1).2) true _ A13.out).mono ?_); rintro e w' ⟨rfl, ⟨nd, rfl⟩⟩))
          first | go_roundg k1 | (simp only [add_plain] at *; go_roundg k1)
          case measure => have := HK1.out; omega
          case rel => exact ⟨(wrap64 (x26_1 + 1)), (by first | rfl | (simp; done) | (simp [*]; done)), H', ⟨by have := HK1.out; omega⟩, ⟨by repeat (first | (with_reducible first | exact HB.out | apply below_alloc | apply pw_below_drewN | apply below_drew1) | exact HB.out)⟩⟩
         ·replace c14 := Bool.eq_false_iff.mpr c14
          subst c14
          have H1 : (some (([] : List (Nat × Nat)), 7)) = some (r1, r2) := by rw [if_neg (show ¬ (false = true) by decide)] at H; exact H
          clear H
          have H := H1
          clear H1
          simp only [Option.some.injEq, Prod.mk.injEq] at H
          obtain ⟨rfl, rfl⟩ := H
          have p204 : 0 ≤ (x26_1 : Int) := of_decide_eq_true (by first | (with_reducible assumption) | assumption)
          have q204 : x26_1 < (l1.length : Int) := of_decide_eq_true (by first | (with_reducible assumption) | assumption)
          obtain ⟨ad204, e204, hx204_0⟩ := Kd.at_cplx HR1.out x26_1 p204 q204
          cases e204
          replace hx204_0 := (HB.out.cell (World.block_lt_of_cell? w _ hx204_0)).trans hx204_0
          replace p204 := eq_true p204
          replace q204 := eq_true q204
          go_wp2_with (first | ((with_reducible refine gate_callee (f := 106) rfl ?_); refine goesL_ (some 32) rfl rfl Try.func106 (by kernel_rfl) rfl #[.float .f64 ((rdOf (0, 0) l1 x26_1).1)] rfl (by (try simp only [List.map_toArray, List.map_cons, List.map_nil]); first | done | rfl | (simp only [List.length_drop, List.length_take]; rfl)) ?_; (with_reducible refine (grid_On.calls ((rdOf (0, 0) l1 x26_1).1) true _ A11.out).mono ?_); rintro e w' ⟨rfl, ⟨nd, rfl⟩⟩; refine ⟨_, rfl, ?_⟩) | (go_at_call 106; (with_reducible refine (grid_On.calls ((rdOf (0, 0) l1 x26_1).2) false _ A13.out).mono ?_); rintro e w' ⟨rfl, ⟨nd, rfl⟩⟩))
          go_ret2
          exact ⟨_, by first | rfl | (simp [errW_none, errW_some] <;> rfl) | (simp [*, errW_none, errW_some] <;> rfl), by first | exact Kd.R_nil _ _ _ _ _ | exact Kd.N_nil _ _ _ _ _ | exact Kd.V_nil _ _ _ _ _ | exact Kd.Q_nil _ _ _ _ _ | exact Kd.S_nil _ _ _ _ _, by repeat (first | (with_reducible first | exact HB.out | apply below_alloc | apply pw_below_drewN | apply below_drew1) | exact HB.out)⟩
        ·replace c12 := Bool.eq_false_iff.mpr c12
         subst c12
         have H1 : (some (([] : List (Nat × Nat)), 7)) = some (r1, r2) := by rw [if_neg (show ¬ (false = true) by decide)] at H; exact H
         clear H
         have H := H1
         clear H1
         simp only [Option.some.injEq, Prod.mk.injEq] at H
         obtain ⟨rfl, rfl⟩ := H
         have p204 : 0 ≤ (x26_1 : Int) := of_decide_eq_true (by first | (with_reducible assumption) | assumption)
         have q204 : x26_1 < (l1.length : Int) := of_decide_eq_true (by first | (with_reducible assumption) | assumption)
         obtain ⟨ad204, e204, hx204_0⟩ := Kd.at_cplx HR1.out x26_1 p204 q204
         cases e204
         replace hx204_0 := (HB.out.cell (World.block_lt_of_cell? w _ hx204_0)).trans hx204_0
         replace p204 := eq_true p204
         replace q204 := eq_true q204
         go_wp2_with ((with_reducible refine gate_callee (f := 106) rfl ?_); refine goesL_ (some 32) rfl rfl Try.func106 (by kernel_rfl) rfl #[.float .f64 ((rdOf (0, 0) l1 x26_1).1)] rfl (by (try simp only [List.map_toArray, List.map_cons, List.map_nil]); first | done | rfl | (simp only [List.length_drop, List.length_take]; rfl)) ?_; (with_reducible refine (grid_On.calls ((rdOf (0, 0) l1 x26_1).1) false _ A11.out).mono ?_); rintro e w' ⟨rfl, ⟨nd, rfl⟩⟩; refine ⟨_, rfl, ?_⟩)
         go_ret2
         exact ⟨_, by first | rfl | (simp [errW_none, errW_some] <;> rfl) | (simp [*, errW_none, errW_some] <;> rfl), by first | exact Kd.R_nil _ _ _ _ _ | exact Kd.N_nil _ _ _ _ _ | exact Kd.V_nil _ _ _ _ _ | exact Kd.Q_nil _ _ _ _ _ | exact Kd.S_nil _ _ _ _ _, by repeat (first | (with_reducible first | exact HB.out | apply below_alloc | apply pw_below_drewN | apply below_drew1) | exact HB.out)⟩
       ·rw [if_neg c10] at H
        exact absurd H (by simp)
      ·rw [if_neg c9] at H
       exact absurd H (by simp)
     ·rw [if_neg c8] at H
      have c8b0 : decide (x26_1 < (l1.length : Int)) = false := decide_eq_false c8
      clear c8
      by_cases c15 : 0 ≤ (l1.length : Int)
      ·rw [if_pos c15] at H
       have c15b0 := eq_true c15
       have c15b1 : decide (0 ≤ (l1.length : Int)) = true := decide_eq_true c15
       clear c15
       by_cases c16 : ((l1.length : Int) : Int).toNat ≤ 17592186044416
       ·rw [if_pos c16] at H
        have c16b0 := eq_true c16
        have c16b1 : decide (((l1.length : Int) : Int).toNat ≤ 17592186044416) = true := decide_eq_true c16
        clear c16
        obtain ⟨y207, hy207⟩ : ∃ y_ : List (Nat × Nat), y_ = (List.replicate 0 ((0, 0) : Nat × Nat)) := ⟨_, rfl⟩
        replace H : (feedback_Echo.l1 k1 l0 l1 y207 (l1.length : Int) 0) = some (r1, r2) := by first | (rw [hy207]; with_reducible exact H) | (have H2_ := (Option.bind_some _ _).symm.trans H; rw [hy207]; with_reducible exact H2_) | (have H2_ := (Option.bind_some _ _).symm.trans H; with_reducible exact H2_) | with_reducible exact H | (rw [hy207]; exact H) | exact H
        have Ny207 := Aside0.mk hy207
        clear hy207
        have H' := Aside0.mk H
        clear H
        go_wp2_with ((with_reducible refine gate_dst (N := 43) rfl ?_); (try (refine gate_guard (by rfl) ?_; dsimp only)); refine ArrW.R_makec Kd.cplx _ 32 rfl (N := 43) rfl 24 _ _ rfl 0 (l1.length : Int) rfl rfl Try.underlying24 (.complex .f64 0 0) 16 info32 rfl (by decide) (by omega) ((0, 0) : Nat × Nat) (ok := fun _ => True) (okp := fun _ => True) rfl (fun _ hk => hk) trivial (by omega) (of_decide_eq_true (by first | (with_reducible assumption) | assumption)) (Nat.le_trans (Nat.mul_le_mul_right _ (of_decide_eq_true (by first | (with_reducible assumption) | assumption) : ((l1.length : Int) : Int).toNat ≤ 17592186044416)) (by omega)) (Below.refl _ _) (Nat.le_refl _) ?_; intro v208 w17 ho18 hb hg_ hnew_; clear hg_ hnew_; (first | rw [← Ny207.out] at ho18 | (simp only [Int.reduceToNat] at ho18; rw [← Ny207.out] at ho18)); have n0_ := Aside0.mk (Kd.R_lower ho18 (below_size (by repeat (first | (with_reducible first | exact HB.out | apply below_alloc | apply pw_below_drewN | apply below_drew1) | exact HB.out)))); have n1_ := Aside0.mk (below_step (by repeat (first | (with_reducible first | exact HB.out | apply below_alloc | apply pw_below_drewN | apply below_drew1) | exact HB.out)) hb); clear HB; have HO209 := n0_; have HB := n1_; clear n0_ n1_; clear hb ho18)
        go_loopg [8, 46] k1 (fun kq v8 v46 w' => ∃ (x8_2 : List (Nat × Nat)) (x46_2 : Int), v46 = .int .i64 x46_2 ∧ Aside0 (feedback_Echo.l1 kq l0 l1 x8_2 (l1.length : Int) x46_2 = some (r1, r2)) ∧ Aside0 (kq ≤ k1) ∧ Aside0 (Kd.R Kd.cplx 32 w' w.heap.size (fun _ => True) v8 x8_2) ∧ Aside0 (Below w.heap.size w w'))
        case atStart => exact ⟨(y207), (0), (by first | rfl | (simp; done) | (simp [*]; done)), H', ⟨Nat.le_refl _⟩, ⟨by (with_reducible repeat (first | apply Kd.R_alloc | apply Kd.R_drewN | apply Kd.R_drew)); exact HO209.out⟩, ⟨by repeat (first | (with_reducible first | exact HB.out | apply below_alloc | apply pw_below_drewN | apply below_drew1) | exact HB.out)⟩⟩
        case round =>
         clear H'
         try clear c1
         try clear c2
         try clear p2
         try clear q2
         try clear hx2
         try clear c4
         try clear c5
         try clear c5b0
         try clear c5b1
         try clear p6
         try clear c8
         try clear c8b0
         try clear c9
         try clear c9b0
         try clear c10
         try clear c10b0
         try clear c12
         try clear c14
         try clear c15
         try clear c15b0
         try clear c15b1
         try clear c16
         try clear c16b0
         try clear c16b1
         try clear hx204_0
         try clear p2
         try clear p204
         try clear q204
         obtain ⟨x8_2, x46_2, rfl, HA, HK2, HO_8, HB⟩ := hrel
         cases gk with
         | zero => exact absurd HA.out (by simp [feedback_Echo.l1])
         | succ k2 =>
          have H := HA.out
          clear HA
          simp only [feedback_Echo.l1] at H
          by_cases c19 : x46_2 < (l1.length : Int)
          ·rw [if_pos c19] at H
           have c19b0 : decide (x46_2 < (l1.length : Int)) = true := decide_eq_true c19
           clear c19
           obtain ⟨ji20, hji20⟩ : ∃ j_ : Int, (mn (l0.length : Int) (wrap64 (x46_2 + 1))) = j_ := ⟨_, rfl⟩
           replace H : (if 0 ≤ (ji20) then (if (ji20) ≤ (l0.length : Int) then (feedback_Echo.l2 k2 l0 l1 x8_2 x46_2 0 0 (l1.length : Int) x46_2 (l0.take ((ji20) : Int).toNat) ((l0.take ((ji20) : Int).toNat).length : Int) 0) else (none)) else (none)) = some (r1, r2) := by first | (rw [hji20] at H; exact H) | (simp only [hji20] at H ⊢; exact H)
           have hji20_ : (if (wrap64 (x46_2 + 1)) < (l0.length : Int) then (wrap64 (x46_2 + 1)) else (l0.length : Int)) = ji20 := hji20
           by_cases c21 : 0 ≤ (ji20)
           ·rw [if_pos c21] at H
            have c21b0 := eq_true c21
            have c21b1 : decide (0 ≤ (ji20)) = true := decide_eq_true c21
            clear c21
            by_cases c22 : (ji20) ≤ (l0.length : Int)
            ·rw [if_pos c22] at H
             have c22b0 := eq_true c22
             have c22b1 : decide ((ji20) ≤ (l0.length : Int)) = true := decide_eq_true c22
             clear c22
             have H' := Aside0.mk H
             clear H
             obtain ⟨i023, hi023, _, hsz23, _⟩ := info_parts info32
             obtain ⟨hcut23, hA23, hC23⟩ := print_take_of (P := Try.prog) Kd.encC ((0, 0) : Nat × Nat) 24 32 .i64 Try.underlying24 hi023 hsz23 A0 c0 l0 (ji20) (of_decide_eq_true (by first | (with_reducible assumption) | assumption)) (of_decide_eq_true (by first | (with_reducible assumption) | assumption)) HC0.out
             have HR210 := Aside0.mk (Kd.C_of_reads (h1 := fun _ => rfl) (hA23 _ (Kd.reads_of_C HR0.out)))
             have HC210 := Aside0.mk hC23
             clear hA23 hC23 hi023 hsz23
             go_wp2
             go_loopg [10, 11, 57] k2 (fun kq v10 v11 v57 w' => ∃ (x10_3 : Nat) (x11_3 : Nat) (x57_3 : Int), v10 = .float .f64 x10_3 ∧ v11 = .float .f64 x11_3 ∧ v57 = .int .i64 x57_3 ∧ Aside0 (feedback_Echo.l2 kq l0 l1 x8_2 x46_2 x10_3 x11_3 (l1.length : Int) x46_2 (l0.take ((ji20) : Int).toNat) ((l0.take ((ji20) : Int).toNat).length : Int) x57_3 = some (r1, r2)) ∧ Aside0 (kq ≤ k2) ∧ Aside0 (Kd.R Kd.cplx 32 w' w.heap.size (fun _ => True) u8 x8_2) ∧ Aside0 (Below w.heap.size w w'))
             case atStart => exact ⟨(0), (0), (0), (by first | rfl | (simp; done) | (simp [*]; done)), (by first | rfl | (simp; done) | (simp [*]; done)), (by first | rfl | (simp; done) | (simp [*]; done)), H', ⟨Nat.le_refl _⟩, ⟨by (with_reducible repeat (first | apply Kd.R_alloc | apply Kd.R_drewN | apply Kd.R_drew)); exact HO_8.out⟩, ⟨by repeat (first | (with_reducible first | exact HB.out | apply below_alloc | apply pw_below_drewN | apply below_drew1) | exact HB.out)⟩⟩
             case round =>
              clear H'
              try clear c1
              try clear c2
              try clear p2
              try clear q2
              try clear hx2
              try clear c4
              try clear c5
              try clear c5b0
              try clear c5b1
              try clear p6
              try clear c8
              try clear c8b0
              try clear c9
              try clear c9b0
              try clear c10
              try clear c10b0
              try clear c12
              try clear c14
              try clear c15
              try clear c15b0
              try clear c15b1
              try clear c16
              try clear c16b0
              try clear c16b1
              try clear c19
              try clear c19b0
              try clear p20
              try clear q20
              try clear hx20
              try clear c21
              try clear c21b0
              try clear c21b1
              try clear c22
              try clear c22b0
              try clear c22b1
              try clear hx204_0
              try clear p2
              try clear p204
              try clear p6
              try clear q2
              try clear q204
              obtain ⟨x10_3, x11_3, x57_3, rfl, rfl, rfl, HA, HK3, HO_8, HB⟩ := hrel
              cases gk with
              | zero => exact absurd HA.out (by simp [feedback_Echo.l2])
              | succ k3 =>
               have H := HA.out
               clear HA
               simp only [feedback_Echo.l2] at H
               by_cases c24 : x57_3 < ((l0.take ((ji20) : Int).toNat).length : Int)
               ·rw [if_pos c24] at H
                have c24b0 : decide (x57_3 < ((l0.take ((ji20) : Int).toNat).length : Int)) = true := decide_eq_true c24
                (try (have c24b0z := c24b0; (try rw [show (l0.take ((ji20) : Int).toNat).length = (ji20).toNat from (by rw [List.length_take]; have h_ : ((ji20) : Int) ≤ (l0.length : Int) := (by first | exact of_decide_eq_true (by first | (with_reducible assumption) | assumption) | (rw [← hji20]; unfold mn; split <;> omega)); omega)] at c24b0z)))
                (try (have c24b0w := c24b0z; rw [Int.ofNat_toNat] at c24b0w))
                clear c24
                by_cases c25 : 0 ≤ x57_3
                ·rw [if_pos c25] at H
                 have c25b0 : decide (0 ≤ x57_3) = true := decide_eq_true c25
                 clear c25
                 by_cases c26 : x57_3 < ((l0.take ((ji20) : Int).toNat).length : Int)
                 ·rw [if_pos c26] at H
                  have c26b0 : decide (x57_3 < ((l0.take ((ji20) : Int).toNat).length : Int)) = true := decide_eq_true c26
                  (try (have c26b0z := c26b0; (try rw [show (l0.take ((ji20) : Int).toNat).length = (ji20).toNat from (by rw [List.length_take]; have h_ : ((ji20) : Int) ≤ (l0.length : Int) := (by first | exact of_decide_eq_true (by first | (with_reducible assumption) | assumption) | (rw [← hji20]; unfold mn; split <;> omega)); omega)] at c26b0z)))
                  (try (have c26b0w := c26b0z; rw [Int.ofNat_toNat] at c26b0w))
                  clear c26
                  obtain ⟨ji27, hji27⟩ : ∃ j_ : Int, (wrap64 (x46_2 - x57_3)) = j_ := ⟨_, rfl⟩
                  replace H : (if 0 ≤ (ji27) then (if (ji27) < (l1.length : Int) then ((feedback_times.f (rdOf (0, 0) (l0.take ((ji20) : Int).toNat) x57_3) (rdOf (0, 0) l1 (ji27))).bind fun bt213 => ((floatBits .add .f64 x10_3 bt213.1).bind fun t215 => ((floatBits .add .f64 x11_3 bt213.2).bind fun t216 => (feedback_Echo.l2 k3 l0 l1 x8_2 x46_2 t215 t216 (l1.length : Int) x46_2 (l0.take ((ji20) : Int).toNat) ((l0.take ((ji20) : Int).toNat).length : Int) (wrap64 (x57_3 + 1)))))) else (none)) else (none)) = some (r1, r2) := by first | (rw [hji27] at H; exact H) | (simp only [hji27] at H ⊢; exact H)
                  have hji27w : (IntKind.i64.wrap (x46_2 - x57_3)) = ji27 := (i64_w _).trans hji27
                  by_cases c28 : 0 ≤ (ji27)
                  ·rw [if_pos c28] at H
                   have c28b0 : decide (0 ≤ (ji27)) = true := decide_eq_true c28
                   clear c28
                   by_cases c29 : (ji27) < (l1.length : Int)
                   ·rw [if_pos c29] at H
                    have c29b0 : decide ((ji27) < (l1.length : Int)) = true := decide_eq_true c29
                    clear c29
                    replace H := Option.bind_eq_some_iff.mp H
                    obtain ⟨⟨t213, t214⟩, A300, H⟩ := H
                    replace H : ((floatBits .add .f64 x10_3 t213).bind fun t215 => ((floatBits .add .f64 x11_3 t214).bind fun t216 => (feedback_Echo.l2 k3 l0 l1 x8_2 x46_2 t215 t216 (l1.length : Int) x46_2 (l0.take ((ji20) : Int).toNat) ((l0.take ((ji20) : Int).toNat).length : Int) (wrap64 (x57_3 + 1))))) = some (r1, r2) := H
                    have A30 := Aside0.mk A300
                    clear A300
                    replace H := Option.bind_eq_some_iff.mp H
                    obtain ⟨t215, A310, H⟩ := H
                    replace H : ((floatBits .add .f64 x11_3 t214).bind fun t216 => (feedback_Echo.l2 k3 l0 l1 x8_2 x46_2 t215 t216 (l1.length : Int) x46_2 (l0.take ((ji20) : Int).toNat) ((l0.take ((ji20) : Int).toNat).length : Int) (wrap64 (x57_3 + 1)))) = some (r1, r2) := H
                    have A31 := Aside0.mk A310
                    clear A310
                    replace H := Option.bind_eq_some_iff.mp H
                    obtain ⟨t216, A320, H⟩ := H
                    replace H : (feedback_Echo.l2 k3 l0 l1 x8_2 x46_2 t215 t216 (l1.length : Int) x46_2 (l0.take ((ji20) : Int).toNat) ((l0.take ((ji20) : Int).toNat).length : Int) (wrap64 (x57_3 + 1))) = some (r1, r2) := H
                    have A32 := Aside0.mk A320
                    clear A320
                    have H' := Aside0.mk H
                    clear H
                    have p211 : 0 ≤ (x57_3 : Int) := of_decide_eq_true (by first | (with_reducible assumption) | assumption)
                    have q211 : x57_3 < ((l0.take ((ji20) : Int).toNat).length : Int) := of_decide_eq_true (by first | (with_reducible assumption) | assumption)
                    obtain ⟨ad211, e211, hx211_0⟩ := Kd.at_cplx HR210.out x57_3 p211 q211
                    cases e211
                    replace hx211_0 := (HB.out.cell (World.block_lt_of_cell? w _ hx211_0)).trans hx211_0
                    replace p211 := eq_true p211
                    replace q211 := eq_true q211; (try (have q211z := q211; rw [show (l0.take ((ji20) : Int).toNat).length = (ji20).toNat from (by rw [List.length_take]; have h_ : ((ji20) : Int) ≤ (l0.length : Int) := (by first | exact of_decide_eq_true (by first | (with_reducible assumption) | assumption) | (rw [← hji20]; unfold mn; split <;> omega)); omega)] at q211z; (try (have q211w := q211z; rw [Int.ofNat_toNat] at q211w))))
                    have p212 : 0 ≤ ((ji27) : Int) := of_decide_eq_true (by first | (with_reducible assumption) | assumption)
                    have q212 : (ji27) < (l1.length : Int) := of_decide_eq_true (by first | (with_reducible assumption) | assumption)
                    obtain ⟨ad212, e212, hx212_0⟩ := Kd.at_cplx HR1.out (ji27) p212 q212
                    cases e212
                    replace hx212_0 := (HB.out.cell (World.block_lt_of_cell? w _ hx212_0)).trans hx212_0
                    replace p212 := eq_true p212
                    replace q212 := eq_true q212
                    go_wp2_with ((with_reducible refine gate_callee (f := 107) rfl ?_); refine goesL_ (some 70) rfl rfl Try.func107 (by kernel_rfl) rfl #[.complex .f64 ((rdOf (0, 0) (l0.take ((ji20) : Int).toNat) x57_3).1) ((rdOf (0, 0) (l0.take ((ji20) : Int).toNat) x57_3).2), .complex .f64 ((rdOf (0, 0) l1 (ji27)).1) ((rdOf (0, 0) l1 (ji27)).2)] rfl (by (try simp only [List.map_toArray, List.map_cons, List.map_nil]); first | done | (simp only [hji20, hji27]; rfl) | rfl | (simp only [List.length_drop, List.length_take]; rfl)) ?_; (with_reducible refine (feedback_times.calls (rdOf (0, 0) (l0.take ((ji20) : Int).toNat) x57_3) (rdOf (0, 0) l1 (ji27)) t213 t214 _ A30.out).mono ?_); rintro e w33 ⟨rfl, hb⟩; refine ⟨_, rfl, ?_⟩; have n0_ := Aside0.mk (Kd.R_below (by (with_reducible repeat (first | apply Kd.R_alloc | apply Kd.R_drewN | apply Kd.R_drew)); exact HO_8.out) hb); have n1_ := Aside0.mk (below_step (by repeat (first | (with_reducible first | exact HB.out | apply below_alloc | apply pw_below_drewN | apply below_drew1) | exact HB.out)) hb); clear HO_8; clear HB; have HO_8 := n0_; have HB := n1_; clear n0_ n1_; (try clear hb); (try clear hb2); (try clear hk); (try clear hi); have hfoA31_ := fun (t_ : TypeId) (w_ : World) => run_float_arith (P := Try.prog) w_ .add t_ .f64 x10_3 t213 t215 A31.out; have hfoA32_ := fun (t_ : TypeId) (w_ : World) => run_float_arith (P := Try.prog) w_ .add t_ .f64 x11_3 t214 t216 A32.out)
                    first | go_roundg k3 | (simp only [add_plain] at *; go_roundg k3)
                    case measure => have := HK1.out; have := HK2.out; have := HK3.out; omega
                    case rel => exact ⟨(t215), (t216), (wrap64 (x57_3 + 1)), (by first | rfl | (simp; done) | (simp [*]; done)), (by first | rfl | (simp; done) | (simp [*]; done)), (by first | rfl | (simp; done) | (simp [*]; done)), H', ⟨by have := HK1.out; have := HK2.out; have := HK3.out; omega⟩, ⟨by (with_reducible repeat (first | apply Kd.R_alloc | apply Kd.R_drewN | apply Kd.R_drew)); exact HO_8.out⟩, ⟨by repeat (first | (with_reducible first | exact HB.out | apply below_alloc | apply pw_below_drewN | apply below_drew1) | exact HB.out)⟩⟩
                   ·rw [if_neg c29] at H
                    exact absurd H (by simp)
                  ·rw [if_neg c28] at H
                   exact absurd H (by simp)
                 ·rw [if_neg c26] at H
                  exact absurd H (by simp)
                ·rw [if_neg c25] at H
                 exact absurd H (by simp)
               ·rw [if_neg c24] at H
                have c24b0 : decide (x57_3 < ((l0.take ((ji20) : Int).toNat).length : Int)) = false := decide_eq_false c24
                (try (have c24b0z := c24b0; (try rw [show (l0.take ((ji20) : Int).toNat).length = (ji20).toNat from (by rw [List.length_take]; have h_ : ((ji20) : Int) ≤ (l0.length : Int) := (by first | exact of_decide_eq_true (by first | (with_reducible assumption) | assumption) | (rw [← hji20]; unfold mn; split <;> omega)); omega)] at c24b0z)))
                (try (have c24b0w := c24b0z; rw [Int.ofNat_toNat] at c24b0w))
                clear c24
                by_cases c34 : x8_2.length < 8796093022208
                ·rw [if_pos c34] at H
                 have LMc34 := Aside0.mk c34
                 clear c34
                 obtain ⟨y217, hy217⟩ : ∃ y_ : List (Nat × Nat), y_ = (x8_2 ++ [(x10_3, x11_3)]) := ⟨_, rfl⟩
                 replace H : (feedback_Echo.l1 k3 l0 l1 y217 (l1.length : Int) (wrap64 (x46_2 + 1))) = some (r1, r2) := by first | (rw [hy217]; with_reducible exact H) | (have H2_ := (Option.bind_some _ _).symm.trans H; rw [hy217]; with_reducible exact H2_) | (have H2_ := (Option.bind_some _ _).symm.trans H; with_reducible exact H2_) | with_reducible exact H | (rw [hy217]; exact H) | exact H
                 have Ny217 := Aside0.mk hy217
                 clear hy217
                 have H' := Aside0.mk H
                 clear H
                 go_wp2_with ((with_reducible refine gate_builtin (b := .append) (xs := #[.tmp 80, .tmp 84]) rfl ?_); (try (refine gate_guard (by rfl) ?_; dsimp only)); at_builtin; refine Kd.R_append Kd.cplx (w0 := w) w.heap.size rfl (.tmp 80) (.tmp 84) 24 32 (.complex .f64 0 0) 16 rfl Try.underlying24 info32 rfl (by decide) (by omega) u8 x8_2 (x10_3, x11_3) [.complex .f64 x10_3 x11_3] (fun _ => True) (fun _ => False) rfl rfl ?aP (fun _ hk => hk.elim) ?aF ?aO ?aB ?aS ?aL ?_; (case aP => exact rfl); (case aB => exact (by repeat (first | (with_reducible first | exact HB.out | apply below_alloc | apply pw_below_drewN | apply below_drew1) | exact HB.out))); (case aF => exact (fun _ _ => trivial)); (case aO => exact (by (with_reducible repeat (first | apply Kd.R_alloc | apply Kd.R_drewN | apply Kd.R_drew)); exact HO_8.out)); (case aS => exact (below_size (by repeat (first | (with_reducible first | exact HB.out | apply below_alloc | apply pw_below_drewN | apply below_drew1) | exact HB.out)))); (case aL => have := LMc34.out; omega); intro v218 w35 ho hb hg hat; rw [← Ny217.out] at ho; have n0_ := Aside0.mk (hb); have n1_ := Aside0.mk (ho); clear HB; clear HO_8; have HB := n0_; have HO219 := n1_; clear n0_ n1_; clear ho hb hg hat)
                 first | go_roundg k3 | (simp only [add_plain] at *; go_roundg k3)
                 case measure => have := HK1.out; have := HK2.out; have := HK3.out; omega
                 case rel => exact ⟨(y217), (wrap64 (x46_2 + 1)), (by first | rfl | (simp; done) | (simp [*]; done)), H', ⟨by have := HK1.out; have := HK2.out; have := HK3.out; omega⟩, ⟨by (with_reducible repeat (first | apply Kd.R_alloc | apply Kd.R_drewN | apply Kd.R_drew)); exact HO219.out⟩, ⟨by repeat (first | (with_reducible first | exact HB.out | apply below_alloc | apply pw_below_drewN | apply below_drew1) | exact HB.out)⟩⟩
                ·rw [if_neg c34] at H
                 exact absurd H (by simp)
            ·rw [if_neg c22] at H
             exact absurd H (by simp)
           ·rw [if_neg c21] at H
            exact absurd H (by simp)
          ·rw [if_neg c19] at H
           have c19b0 : decide (x46_2 < (l1.length : Int)) = false := decide_eq_false c19
           clear c19
           simp only [Option.some.injEq, Prod.mk.injEq] at H
           obtain ⟨rfl, rfl⟩ := H
           go_wp2
           go_ret2
           exact ⟨_, by first | rfl | (simp [errW_none, errW_some] <;> rfl) | (simp [*, errW_none, errW_some] <;> rfl), by (with_reducible repeat (first | apply Kd.R_alloc | apply Kd.R_drewN | apply Kd.R_drew)); exact HO_8.out, by repeat (first | (with_reducible first | exact HB.out | apply below_alloc | apply pw_below_drewN | apply below_drew1) | exact HB.out)⟩
       ·rw [if_neg c16] at H
        exact absurd H (by simp)
      ·rw [if_neg c15] at H
       exact absurd H (by simp)
 ·replace c4 := Bool.eq_false_iff.mpr c4
  subst c4
  have H1 : (some (([] : List (Nat × Nat)), 8)) = some (r1, r2) := by rw [if_neg (show ¬ (false = true) by decide)] at H; exact H
  clear H
  have H := H1
  clear H1
  simp only [Option.some.injEq, Prod.mk.injEq] at H
  obtain ⟨rfl, rfl⟩ := H
  go_enter Try.func26, Try.ntmps26
  go_wp2_with ((with_reducible refine gate_callee (f := 105) rfl ?_); refine goesL_ (some 18) rfl rfl Try.func105 (by kernel_rfl) rfl #[.slice A0 l0.length c0] rfl (by (try simp only [List.map_toArray, List.map_cons, List.map_nil]); first | done | rfl | (simp only [List.length_drop, List.length_take]; rfl)) ?_; (with_reducible refine (feedback_taps.calls k _ _ l0 false _ ?side1 ?side2 A3.out).mono ?_); (case side1 => repeat (first | exact HR0.out | (with_reducible refine Kd.C_alloc ?_ _) | (with_reducible refine Kd.C_drewN ?_ _) | (with_reducible refine Kd.C_drew ?_))); (case side2 => exact HC0.out); rintro e w36 ⟨rfl, hb⟩; refine ⟨_, rfl, ?_⟩; have n0_ := Aside0.mk (below_step (by repeat (first | (with_reducible first | exact HB.out | apply below_alloc | apply pw_below_drewN | apply below_drew1) | exact HB.out)) hb); clear HB; have HB := n0_; clear n0_; (try clear hb); (try clear hb2); (try clear hk); (try clear hi))
  go_ret2
  exact ⟨_, by first | rfl | (simp [errW_none, errW_some] <;> rfl) | (simp [*, errW_none, errW_some] <;> rfl), by first | exact Kd.R_nil _ _ _ _ _ | exact Kd.N_nil _ _ _ _ _ | exact Kd.V_nil _ _ _ _ _ | exact Kd.Q_nil _ _ _ _ _ | exact Kd.S_nil _ _ _ _ _, by repeat (first | (with_reducible first | exact HB.out | apply below_alloc | apply pw_below_drewN | apply below_drew1) | exact HB.out)⟩
set_option maxHeartbeats 8000000 in
set_option maxRecDepth 100000 in
theorem feedback_turned.calls (k : Nat) (a0 : (Nat × Nat)) (a1 : Int) (r : (Nat × Nat)) (w : World) (h : feedback_turned.f k a0 a1 = some r) :
  Calls Try.prog 138 #[.complex .f64 a0.1 a0.2, .int .i64 a1] w fun e w' => e = .returned (.complex .f64 r.1 r.2) ∧ Below w.heap.size w w' := by
 have HB := Aside0.mk (Below.refl w.heap.size w)
 have H : (feedback_turned.l0 k a0 a1 0) = some r := h
 clear h
 have H' := Aside0.mk H
 clear H
 go_enter Try.func138, Try.ntmps138
 go_wp2
 go_loopg [0, 6] k (fun kq v0 v6 w' => ∃ (x0_1 : (Nat × Nat)) (x6_1 : Int), v0 = .complex .f64 x0_1.1 x0_1.2 ∧ v6 = .int .i64 x6_1 ∧ Aside0 (feedback_turned.l0 kq x0_1 a1 x6_1 = some r) ∧ Aside0 (kq ≤ k) ∧ Aside0 (Below w.heap.size w w'))
 case atStart => exact ⟨(a0), (0), (by first | rfl | (simp; done) | (simp [*]; done)), (by first | rfl | (simp; done) | (simp [*]; done)), H', ⟨Nat.le_refl _⟩, ⟨by repeat (first | (with_reducible first | exact HB.out | apply below_alloc | apply pw_below_drewN | apply below_drew1) | exact HB.out)⟩⟩
 case round =>
  clear H'
  try clear c1
  try clear p2
  obtain ⟨x0_1, x6_1, rfl, rfl, HA, HK1, HB⟩ := hrel
  cases gk with
  | zero => exact absurd HA.out (by simp [feedback_turned.l0])
  | succ k1 =>
   have H := HA.out
   clear HA
   simp only [feedback_turned.l0] at H
   by_cases c3 : x6_1 < a1
   ·rw [if_pos c3] at H
    have c3b0 : decide (x6_1 < a1) = true := decide_eq_true c3
    clear c3
    have H' := Aside0.mk H
    clear H
    go_wp2
    first | go_roundg k1 | (simp only [add_plain] at *; go_roundg k1)
    case measure => have := HK1.out; omega
    case rel => exact ⟨((x0_1.2, Op.negFloat .f64 x0_1.1)), (wrap64 (x6_1 + 1)), (by first | rfl | (simp; done) | (simp [*]; done)), (by first | rfl | (simp; done) | (simp [*]; done)), H', ⟨by have := HK1.out; omega⟩, ⟨by repeat (first | (with_reducible first | exact HB.out | apply below_alloc | apply pw_below_drewN | apply below_drew1) | exact HB.out)⟩⟩
   ·rw [if_neg c3] at H
    have c3b0 : decide (x6_1 < a1) = false := decide_eq_false c3
    clear c3
    obtain rfl := Option.some.inj H
    go_wp2
    go_ret
    exact ⟨by first | rfl | (simp [errW_none, errW_some] <;> rfl) | (simp [*, errW_none, errW_some] <;> rfl), by repeat (first | (with_reducible first | exact HB.out | apply below_alloc | apply pw_below_drewN | apply below_drew1) | exact HB.out)⟩
end Go.Proofs.Ythfcafllcgjepaa.Q
