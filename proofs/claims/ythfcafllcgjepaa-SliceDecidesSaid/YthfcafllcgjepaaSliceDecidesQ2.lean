-- Printed by myprint.py (ours) over the kit's printer, out of the translation.
import Derived.Test.YthfcafllcgjepaaSliceDecidesK0
import Derived.Test.YthfcafllcgjepaaSliceDecidesF0
import Derived.Test.YthfcafllcgjepaaSliceDecidesQ0
import Derived.Test.YthfcafllcgjepaaSliceDecidesQ1
namespace Go.Proofs.Ythfcafllcgjepaa.Q
open Go.RowKit Go.Proofs.YthfcafllcgjepaaW.PrintWords Go.Proofs.YthfcafllcgjepaaW.PrintLast Go.Proofs.YthfcafllcgjepaaW.PrintMore
attribute [local go_sem] ArrW.ptrOf_slice unary_neg_float unary_neg_complex run_store_float run_store_complex max2_int min2_int max_two min_two max_three min_three max_four min_four   -- for this text's walks alone
set_option linter.unusedVariables false
set_option linter.unusedSimpArgs false

/-! ### foghornref05_gap: function 121 -/
set_option maxHeartbeats 8000000 in
set_option maxRecDepth 100000 in
theorem foghornref05_gap.calls (a0 : (Nat × Nat)) (a1 : (Nat × Nat)) (r : Nat) (w : World) (h : foghornref05_gap.f a0 a1 = some r) :
  Calls Try.prog 121 #[.complex .f64 a0.1 a0.2, .complex .f64 a1.1 a1.2] w fun e w' => e = .returned (.float .f64 r) ∧ Below w.heap.size w w' := by
 have HB := Aside0.mk (Below.refl w.heap.size w)
 have H : ((floatBits .sub .f64 a0.1 a1.1).bind fun t523 => ((floatBits .sub .f64 a0.2 a1.2).bind fun t524 => ((floatBits .mul .f64 t523 t523).bind fun t525 => ((floatBits .mul .f64 t524 t524).bind fun t526 => ((floatBits .add .f64 t525 t526).bind fun t527 => (some t527)))))) = some r := h
 clear h
 replace H := Option.bind_eq_some_iff.mp H
 obtain ⟨t523, A30, H⟩ := H
 replace H : ((floatBits .sub .f64 a0.2 a1.2).bind fun t524 => ((floatBits .mul .f64 t523 t523).bind fun t525 => ((floatBits .mul .f64 t524 t524).bind fun t526 => ((floatBits .add .f64 t525 t526).bind fun t527 => (some t527))))) = some r := H
 have A3 := Aside0.mk A30
 clear A30
 replace H := Option.bind_eq_some_iff.mp H
 obtain ⟨t524, A40, H⟩ := H
 replace H : ((floatBits .mul .f64 t523 t523).bind fun t525 => ((floatBits .mul .f64 t524 t524).bind fun t526 => ((floatBits .add .f64 t525 t526).bind fun t527 => (some t527)))) = some r := H
 have A4 := Aside0.mk A40
 clear A40
 replace H := Option.bind_eq_some_iff.mp H
 obtain ⟨t525, A50, H⟩ := H
 replace H : ((floatBits .mul .f64 t524 t524).bind fun t526 => ((floatBits .add .f64 t525 t526).bind fun t527 => (some t527))) = some r := H
 have A5 := Aside0.mk A50
 clear A50
 replace H := Option.bind_eq_some_iff.mp H
 obtain ⟨t526, A60, H⟩ := H
 replace H : ((floatBits .add .f64 t525 t526).bind fun t527 => (some t527)) = some r := H
 have A6 := Aside0.mk A60
 clear A60
 replace H := Option.bind_eq_some_iff.mp H
 obtain ⟨t527, A70, H⟩ := H
 replace H : (some t527) = some r := H
 have A7 := Aside0.mk A70
 clear A70
 obtain rfl := Option.some.inj H
 have hfoA3_ := fun (t_ : TypeId) (w_ : World) => run_float_arith (P := Try.prog) w_ .sub t_ .f64 a0.1 a1.1 t523 A3.out
 have hfoA4_ := fun (t_ : TypeId) (w_ : World) => run_float_arith (P := Try.prog) w_ .sub t_ .f64 a0.2 a1.2 t524 A4.out
 have hfoA5_ := fun (t_ : TypeId) (w_ : World) => run_float_arith (P := Try.prog) w_ .mul t_ .f64 t523 t523 t525 A5.out
 have hfoA6_ := fun (t_ : TypeId) (w_ : World) => run_float_arith (P := Try.prog) w_ .mul t_ .f64 t524 t524 t526 A6.out
 have hfoA7_ := fun (t_ : TypeId) (w_ : World) => run_float_arith (P := Try.prog) w_ .add t_ .f64 t525 t526 t527 A7.out
 go_enter Try.func121, Try.ntmps121
 go_wp2
 go_ret
 exact ⟨by first | rfl | (simp [errW_none, errW_some] <;> rfl) | (simp [*, errW_none, errW_some] <;> rfl), by repeat (first | (with_reducible first | exact HB.out | apply below_alloc | apply pw_below_drewN | apply below_drew1) | exact HB.out)⟩

/-! ### slice_gap: function 123 -/
set_option maxHeartbeats 8000000 in
set_option maxRecDepth 100000 in
theorem slice_gap.calls (a0 : (Nat × Nat)) (a1 : (Nat × Nat)) (r : Nat) (w : World) (h : slice_gap.f a0 a1 = some r) :
  Calls Try.prog 123 #[.complex .f64 a0.1 a0.2, .complex .f64 a1.1 a1.2] w fun e w' => e = .returned (.float .f64 r) ∧ Below w.heap.size w w' := by
 have HB := Aside0.mk (Below.refl w.heap.size w)
 have H : ((floatBits .sub .f64 a0.1 a1.1).bind fun t533 => ((floatBits .sub .f64 a0.2 a1.2).bind fun t534 => ((floatBits .mul .f64 t533 t533).bind fun t535 => ((floatBits .mul .f64 t534 t534).bind fun t536 => ((floatBits .add .f64 t535 t536).bind fun t537 => (some t537)))))) = some r := h
 clear h
 replace H := Option.bind_eq_some_iff.mp H
 obtain ⟨t533, A30, H⟩ := H
 replace H : ((floatBits .sub .f64 a0.2 a1.2).bind fun t534 => ((floatBits .mul .f64 t533 t533).bind fun t535 => ((floatBits .mul .f64 t534 t534).bind fun t536 => ((floatBits .add .f64 t535 t536).bind fun t537 => (some t537))))) = some r := H
 have A3 := Aside0.mk A30
 clear A30
 replace H := Option.bind_eq_some_iff.mp H
 obtain ⟨t534, A40, H⟩ := H
 replace H : ((floatBits .mul .f64 t533 t533).bind fun t535 => ((floatBits .mul .f64 t534 t534).bind fun t536 => ((floatBits .add .f64 t535 t536).bind fun t537 => (some t537)))) = some r := H
 have A4 := Aside0.mk A40
 clear A40
 replace H := Option.bind_eq_some_iff.mp H
 obtain ⟨t535, A50, H⟩ := H
 replace H : ((floatBits .mul .f64 t534 t534).bind fun t536 => ((floatBits .add .f64 t535 t536).bind fun t537 => (some t537))) = some r := H
 have A5 := Aside0.mk A50
 clear A50
 replace H := Option.bind_eq_some_iff.mp H
 obtain ⟨t536, A60, H⟩ := H
 replace H : ((floatBits .add .f64 t535 t536).bind fun t537 => (some t537)) = some r := H
 have A6 := Aside0.mk A60
 clear A60
 replace H := Option.bind_eq_some_iff.mp H
 obtain ⟨t537, A70, H⟩ := H
 replace H : (some t537) = some r := H
 have A7 := Aside0.mk A70
 clear A70
 obtain rfl := Option.some.inj H
 have hfoA3_ := fun (t_ : TypeId) (w_ : World) => run_float_arith (P := Try.prog) w_ .sub t_ .f64 a0.1 a1.1 t533 A3.out
 have hfoA4_ := fun (t_ : TypeId) (w_ : World) => run_float_arith (P := Try.prog) w_ .sub t_ .f64 a0.2 a1.2 t534 A4.out
 have hfoA5_ := fun (t_ : TypeId) (w_ : World) => run_float_arith (P := Try.prog) w_ .mul t_ .f64 t533 t533 t535 A5.out
 have hfoA6_ := fun (t_ : TypeId) (w_ : World) => run_float_arith (P := Try.prog) w_ .mul t_ .f64 t534 t534 t536 A6.out
 have hfoA7_ := fun (t_ : TypeId) (w_ : World) => run_float_arith (P := Try.prog) w_ .add t_ .f64 t535 t536 t537 A7.out
 go_enter Try.func123, Try.ntmps123
 go_wp2
 go_ret
 exact ⟨by first | rfl | (simp [errW_none, errW_some] <;> rfl) | (simp [*, errW_none, errW_some] <;> rfl), by repeat (first | (with_reducible first | exact HB.out | apply below_alloc | apply pw_below_drewN | apply below_drew1) | exact HB.out)⟩

/-! ### foghornref02_Finite: function 124 -/
--WALK
theorem dec_nan_read (t : Nat) : ∃ s f, FloatKind.f64.decode ((t % 2) * 2 ^ 63 + 0x7ff0000000000000 + 1 + (t / 2) % (2 ^ 52 - 1)) = .nan s f := by
 show ∃ s f, Ieee.double.read _ = _
 unfold Ieee.Format.read
 have hs : Ieee.double.signWeight = 2 ^ 63 := by decide
 have hb : Ieee.double.binade = 2 ^ 52 := by decide
 have hi : Ieee.double.infRung = 2047 * 2 ^ 52 := by decide
 dsimp only
 rw [hs, hb, hi]
 have h : (t / 2) % (2 ^ 52 - 1) < 2 ^ 52 - 1 := Nat.mod_lt _ (by decide)
 have h2 : t % 2 < 2 := Nat.mod_lt _ (by decide)
 generalize (t / 2) % (2 ^ 52 - 1) = b at *
 generalize t % 2 = a at *
 rw [if_neg (by omega), if_neg (by omega), if_neg (by omega)]
 exact ⟨_, _, rfl⟩
theorem foghornref02_Finite.calls (a0 : Nat) (r : Bool) (w : World) (h : foghornref02_Finite.f a0 = some r) :
  Calls Try.prog 124 #[.float .f64 a0] w fun e w' => e = .returned (.bool r) ∧ Drawn0 w w' := by
 unfold foghornref02_Finite.f at h
 cases hs : floatBits .sub .f64 a0 a0 with
 | some t =>
  rw [hs] at h
  obtain rfl := Option.some.inj h
  clear h
  have hfo := fun (t_ : TypeId) (w_ : World) => run_float_arith (P := Try.prog) w_ .sub t_ .f64 a0 a0 t hs
  clear hs
  go_enter Try.func124, Try.ntmps124
  go_wp2
  go_ret
  exact ⟨by first | rfl | (simp; done) | (simp [*]; done), by repeat (first | exact Drawn0.refl _ | apply Drawn0.step)⟩
 | none =>
  rw [hs] at h
  obtain rfl := Option.some.inj h
  clear h
  have hr : ∀ (t : TypeId) (w : World), ∃ n, FloatKind.f64.format.order n 0 = none ∧ (binOp .sub t (.float .f64 a0) (.float .f64 a0)).run Try.prog w = .ok (.float .f64 n) w.drew := by
   intro t w
   obtain ⟨s, f, hd⟩ := dec_nan_read (w.tape w.drawn (.nanBits .f64 a0 a0))
   refine ⟨_, ?_, show _ = Result.ok (Value.float .f64 ((w.tape w.drawn (.nanBits .f64 a0 a0) % 2) * 2 ^ 63 + 0x7ff0000000000000 + 1 + (w.tape w.drawn (.nanBits .f64 a0 a0) / 2) % (2 ^ 52 - 1))) w.drew from ?_⟩
   ·show (FloatKind.f64.decode _).order (FloatKind.f64.decode 0) = none
    rw [hd]; rfl
   ·have h2 : FloatKind.f64.format.sub a0 a0 = none := hs
    simp [binOp, Op.floatArith, h2, Question.forced, Question.cut, Result.andThen]
  obtain ⟨n, hn, hrun⟩ := hr 34 w
  have hc : (FloatKind.f64.format.order n 0 == some .eq) = false := by rw [hn]; rfl
  clear hr hs
  go_enter Try.func124, Try.ntmps124
  go_wp2
  go_ret
  exact ⟨rfl, ⟨1, rfl⟩⟩

/-! ### foghornref04_Label: function 125 -/
set_option maxHeartbeats 8000000 in
set_option maxRecDepth 100000 in
theorem foghornref04_Label.calls (k : Nat) (a0 : Int) (a1 : (Nat × Nat)) (r1 : Int) (r2 : Int) (w : World) (h : foghornref04_Label.f k a0 a1 = some (r1, r2)) :
  Calls Try.prog 125 #[.int .i64 a0, .complex .f64 a1.1 a1.2] w fun e w' => e = .returned (.tuple #[.int .i64 r1, .int .i64 r2]) ∧ Below w.heap.size w w' := by
 have HB := Aside0.mk (Below.refl w.heap.size w)
 have H : ((foghornref04_All.f k a0).bind fun bt556 => (if bt556.2 = 0 then (foghornref04_Label.l0 k a1 bt556.1 0) else (some (0, bt556.2)))) = some (r1, r2) := h
 clear h
 replace H := Option.bind_eq_some_iff.mp H
 obtain ⟨⟨t556, t557⟩, A30, H⟩ := H
 replace H : (if t557 = 0 then (foghornref04_Label.l0 k a1 t556 0) else (some (0, t557))) = some (r1, r2) := H
 have A3 := Aside0.mk A30
 clear A30
 by_cases c4 : t557 = 0
 ·rw [if_pos c4] at H
  have c4b0 : (t557 == 0) = true := beq_iff_eq.mpr c4
  have c4b1 : (t557 != 0) = false := bne_eq_false_iff_eq.mpr c4
  clear c4
  have H' := Aside0.mk H
  clear H
  go_enter Try.func125, Try.ntmps125
  go_wp2_with (first | ((with_reducible refine gate_callee (f := 98) rfl ?_); refine goesL_ (some 11) rfl rfl Try.func98 (by kernel_rfl) rfl #[.int .i64 a0] rfl (by (try simp only [List.map_toArray, List.map_cons, List.map_nil]); first | done | rfl | (simp only [List.length_drop, List.length_take]; rfl)) ?_; (with_reducible refine (foghornref04_All.calls k a0 t556 t557 _ A3.out).mono ?_); rintro e w5 ⟨v558, rfl, ho0, hb⟩; refine ⟨_, rfl, ?_⟩; have n0_ := Aside0.mk (Kd.R_lower ho0 (below_size (by repeat (first | (with_reducible first | exact HB.out | apply below_alloc | apply pw_below_drewN | apply below_drew1) | exact HB.out)))); have n1_ := Aside0.mk (below_step (by repeat (first | (with_reducible first | exact HB.out | apply below_alloc | apply pw_below_drewN | apply below_drew1) | exact HB.out)) hb); clear HB; have HO559 := n0_; have HB := n1_; clear n0_ n1_; (try clear hb); (try clear hb2); (try clear hk); (try clear hi); (try clear ho0)))
  go_loopg [8] k (fun kq v8 w' => ∃ (x8_1 : Int), v8 = .int .i64 x8_1 ∧ Aside0 (foghornref04_Label.l0 kq a1 t556 x8_1 = some (r1, r2)) ∧ Aside0 (kq ≤ k) ∧ Aside0 (Kd.R Kd.cplx 32 w' w.heap.size (fun _ => True) v558 t556) ∧ Aside0 (Below w.heap.size w w'))
  case atStart => exact ⟨(0), (by first | rfl | (simp; done) | (simp [*]; done)), H', ⟨Nat.le_refl _⟩, ⟨by (with_reducible repeat (first | apply Kd.R_alloc | apply Kd.R_drewN | apply Kd.R_drew)); exact HO559.out⟩, ⟨by repeat (first | (with_reducible first | exact HB.out | apply below_alloc | apply pw_below_drewN | apply below_drew1) | exact HB.out)⟩⟩
  case round =>
   clear H'
   try clear c1
   try clear p2
   try clear c4
   try clear c4b0
   try clear c4b1
   obtain ⟨x8_1, rfl, HA, HK1, HO_6, HB⟩ := hrel
   cases gk with
   | zero => exact absurd HA.out (by simp [foghornref04_Label.l0])
   | succ k1 =>
    have H := HA.out
    clear HA
    simp only [foghornref04_Label.l0] at H
    by_cases c6 : x8_1 < (t556.length : Int)
    ·rw [if_pos c6] at H
     have c6b0 : decide (x8_1 < (t556.length : Int)) = true := decide_eq_true c6
     clear c6
     by_cases c7 : 0 ≤ x8_1
     ·rw [if_pos c7] at H
      have c7b0 : decide (0 ≤ x8_1) = true := decide_eq_true c7
      clear c7
      by_cases c8 : ((FloatKind.f64.format.order ((rdOf (0, 0) t556 x8_1).1) a1.1 == some .eq) && (FloatKind.f64.format.order ((rdOf (0, 0) t556 x8_1).2) a1.2 == some .eq)) = true
      ·rw [if_pos c8] at H
       have c8b0 : ((FloatKind.f64.format.order ((rdOf (0, 0) t556 x8_1).1) a1.1 == some .eq) && (FloatKind.f64.format.order ((rdOf (0, 0) t556 x8_1).2) a1.2 == some .eq)) = true := c8
       clear c8
       simp only [Option.some.injEq, Prod.mk.injEq] at H
       obtain ⟨rfl, rfl⟩ := H
       obtain ⟨Ao9, co9, eo9⟩ := Kd.R_slice HO_6.out
       subst eo9
       have p560 : 0 ≤ (x8_1 : Int) := of_decide_eq_true (by first | (with_reducible assumption) | assumption)
       have q560 : x8_1 < (t556.length : Int) := of_decide_eq_true (by first | (with_reducible assumption) | assumption)
       obtain ⟨ad560, e560, hx560_0⟩ := Kd.at_cplx (Kd.R_reads' HO_6.out).2.2 x8_1 p560 q560
       cases e560
       replace p560 := eq_true p560
       replace q560 := eq_true q560
       go_wp2
       go_ret2
       exact ⟨by first | rfl | (simp [errW_none, errW_some] <;> rfl) | (simp [*, errW_none, errW_some] <;> rfl), by repeat (first | (with_reducible first | exact HB.out | apply below_alloc | apply pw_below_drewN | apply below_drew1) | exact HB.out)⟩
      ·rw [if_neg c8] at H
       have c8b0 : ((FloatKind.f64.format.order ((rdOf (0, 0) t556 x8_1).1) a1.1 == some .eq) && (FloatKind.f64.format.order ((rdOf (0, 0) t556 x8_1).2) a1.2 == some .eq)) = false := by simpa using c8
       clear c8
       have H' := Aside0.mk H
       clear H
       obtain ⟨Ao10, co10, eo10⟩ := Kd.R_slice HO_6.out
       subst eo10
       have p560 : 0 ≤ (x8_1 : Int) := of_decide_eq_true (by first | (with_reducible assumption) | assumption)
       have q560 : x8_1 < (t556.length : Int) := of_decide_eq_true (by first | (with_reducible assumption) | assumption)
       obtain ⟨ad560, e560, hx560_0⟩ := Kd.at_cplx (Kd.R_reads' HO_6.out).2.2 x8_1 p560 q560
       cases e560
       replace p560 := eq_true p560
       replace q560 := eq_true q560
       go_wp2
       first | go_roundg k1 | (simp only [add_plain] at *; go_roundg k1)
       case measure => have := HK1.out; omega
       case rel => exact ⟨(wrap64 (x8_1 + 1)), (by first | rfl | (simp; done) | (simp [*]; done)), H', ⟨by have := HK1.out; omega⟩, ⟨by (with_reducible repeat (first | apply Kd.R_alloc | apply Kd.R_drewN | apply Kd.R_drew)); exact HO_6.out⟩, ⟨by repeat (first | (with_reducible first | exact HB.out | apply below_alloc | apply pw_below_drewN | apply below_drew1) | exact HB.out)⟩⟩
     ·rw [if_neg c7] at H
      exact absurd H (by simp)
    ·rw [if_neg c6] at H
     have c6b0 : decide (x8_1 < (t556.length : Int)) = false := decide_eq_false c6
     clear c6
     simp only [Option.some.injEq, Prod.mk.injEq] at H
     obtain ⟨rfl, rfl⟩ := H
     obtain ⟨Ao11, co11, eo11⟩ := Kd.R_slice HO_6.out
     subst eo11
     go_wp2
     go_ret2
     exact ⟨by first | rfl | (simp [errW_none, errW_some] <;> rfl) | (simp [*, errW_none, errW_some] <;> rfl), by repeat (first | (with_reducible first | exact HB.out | apply below_alloc | apply pw_below_drewN | apply below_drew1) | exact HB.out)⟩
 ·rw [if_neg c4] at H
  have c4b0 : (t557 == 0) = false := beq_eq_false_iff_ne.mpr c4
  have c4b1 : (t557 != 0) = true := bne_iff_ne.mpr c4
  simp only [Option.some.injEq, Prod.mk.injEq] at H
  obtain ⟨rfl, rfl⟩ := H
  go_enter Try.func125, Try.ntmps125
  go_wp2_with (first | ((with_reducible refine gate_callee (f := 98) rfl ?_); refine goesL_ (some 11) rfl rfl Try.func98 (by kernel_rfl) rfl #[.int .i64 a0] rfl (by (try simp only [List.map_toArray, List.map_cons, List.map_nil]); first | done | rfl | (simp only [List.length_drop, List.length_take]; rfl)) ?_; (with_reducible refine (foghornref04_All.calls k a0 t556 t557 _ A3.out).mono ?_); rintro e w12 ⟨v558, rfl, ho0, hb⟩; refine ⟨_, rfl, ?_⟩; have n0_ := Aside0.mk (Kd.R_lower ho0 (below_size (by repeat (first | (with_reducible first | exact HB.out | apply below_alloc | apply pw_below_drewN | apply below_drew1) | exact HB.out)))); have n1_ := Aside0.mk (below_step (by repeat (first | (with_reducible first | exact HB.out | apply below_alloc | apply pw_below_drewN | apply below_drew1) | exact HB.out)) hb); clear HB; have HO559 := n0_; have HB := n1_; clear n0_ n1_; (try clear hb); (try clear hb2); (try clear hk); (try clear hi); (try clear ho0)))
  go_ret2
  exact ⟨by first | rfl | (simp [errW_none, errW_some] <;> rfl) | (simp [*, errW_none, errW_some] <;> rfl), by repeat (first | (with_reducible first | exact HB.out | apply below_alloc | apply pw_below_drewN | apply below_drew1) | exact HB.out)⟩

/-! ### foghornref05_Decide: function 52 -/
set_option maxHeartbeats 8000000 in
set_option maxRecDepth 100000 in
theorem foghornref05_Decide.calls (k : Nat) (a0 : Int) (a1 : (Nat × Nat)) (r1 : Int) (r2 : (Nat × Nat)) (r3 : Bool) (r4 : Int) (w : World) (h : foghornref05_Decide.f k a0 a1 = some (r1, r2, r3, r4)) :
  Calls Try.prog 52 #[.int .i64 a0, .complex .f64 a1.1 a1.2] w fun e w' => e = .returned (.tuple #[.agg #[.int .i64 r1, .complex .f64 r2.1 r2.2, .bool r3], .int .i64 r4]) ∧ Below w.heap.size w w' := by
 have hu80 := Try.underlying80
 have HB := Aside0.mk (Below.refl w.heap.size w)
 have H : ((foghornref04_Edge.f a0).bind fun bt562 => (if bt562.2 = 0 then ((foghornref02_Finite.f a1.1).bind fun t564 => (if t564 = true then ((foghornref02_Finite.f a1.2).bind fun t565 => (foghornref05_Decide.j0 k a0 a1 bt562.1 (!t565))) else (foghornref05_Decide.j0 k a0 a1 bt562.1 true))) else (some (0, (0, 0), false, 1)))) = some (r1, r2, r3, r4) := h
 clear h
 replace H := Option.bind_eq_some_iff.mp H
 obtain ⟨⟨t562, t563⟩, A30, H⟩ := H
 replace H : (if t563 = 0 then ((foghornref02_Finite.f a1.1).bind fun t564 => (if t564 = true then ((foghornref02_Finite.f a1.2).bind fun t565 => (foghornref05_Decide.j0 k a0 a1 t562 (!t565))) else (foghornref05_Decide.j0 k a0 a1 t562 true))) else (some (0, (0, 0), false, 1))) = some (r1, r2, r3, r4) := H
 have A3 := Aside0.mk A30
 clear A30
 by_cases c4 : t563 = 0
 ·rw [if_pos c4] at H
  have c4b0 : (t563 == 0) = true := beq_iff_eq.mpr c4
  have c4b1 : (t563 != 0) = false := bne_eq_false_iff_eq.mpr c4
  clear c4
  have HC5 := Aside0.mk H
  clear H
  go_enter Try.func52, Try.ntmps52
  go_upto_region 4 with (first | ((with_reducible refine gate_dst (N := 4) rfl ?_); (try (refine gate_guard (by rfl) ?_; dsimp only)); refine box_event ?hg (N := 4) ?hd (cs := #[.int .i64 0, .complex .f64 0 0, .bool false]) (t := 80) ?hr ?_; (case hd => rfl); (case hg => rfl); (case hr => first | (go_simp; done) | (go_simp; rfl)); intro gb561 hg w6 hbox hb; have n0_ := Aside0.mk (below_step (by repeat (first | (with_reducible first | exact HB.out | apply below_alloc | apply pw_below_drewN | apply below_drew1) | exact HB.out)) hb); have n1_ := Aside0.mk (hbox); have n2_ := Aside0.mk ((by rw [hg]; exact (below_size (by repeat (first | (with_reducible first | exact HB.out | apply below_alloc | apply pw_below_drewN | apply below_drew1) | exact HB.out))) : w.heap.size ≤ gb561)); have n3_ := Aside0.mk ((by rw [hg]; exact (below_size (by repeat (first | (with_reducible first | exact HB.out | apply below_alloc | apply pw_below_drewN | apply below_drew1) | exact HB.out))) : w.heap.size ≤ gb561)); clear HB; have HB := n0_; have BK561 := n1_; have GW561 := n2_; have GE561 := n3_; clear n0_ n1_ n2_ n3_; clear hb hbox hg) | ((with_reducible refine gate_callee (f := 65) rfl ?_); refine goesL_ (some 23) rfl rfl Try.func65 (by kernel_rfl) rfl #[.int .i64 a0] rfl (by (try simp only [List.map_toArray, List.map_cons, List.map_nil]); first | done | rfl | (simp only [List.length_drop, List.length_take]; rfl)) ?_; (with_reducible refine (foghornref04_Edge.calls a0 t562 t563 _ A3.out).mono ?_); rintro e w' ⟨rfl, ⟨nd, rfl⟩⟩; refine ⟨_, rfl, ?_⟩))
  (try simp only [Act.put, List.setIfInBounds_toArray, List.set_cons_zero, List.set_cons_succ])
  go_cut [38] (fun v38 wc => ∃ (kq : Nat) (x38_4 : Bool), v38 = .bool x38_4 ∧ Aside0 (foghornref05_Decide.j0 kq a0 a1 t562 x38_4 = some (r1, r2, r3, r4)) ∧ Aside0 (kq ≤ k) ∧ Aside0 (wc.heap[gb561]? = some (.cells #[.int .i64 0, .complex .f64 0 0, .bool false] 80 (0, 0))) ∧ Aside0 (Below w.heap.size w wc))
  case first =>
   have H := HC5.out
   clear HC5
   replace H := Option.bind_eq_some_iff.mp H
   obtain ⟨t564, A70, H⟩ := H
   replace H : (if t564 = true then ((foghornref02_Finite.f a1.2).bind fun t565 => (foghornref05_Decide.j0 k a0 a1 t562 (!t565))) else (foghornref05_Decide.j0 k a0 a1 t562 true)) = some (r1, r2, r3, r4) := H
   have A7 := Aside0.mk A70
   clear A70
   by_cases c8 : t564 = true
   ·subst c8
    have H1 : ((foghornref02_Finite.f a1.2).bind fun t565 => (foghornref05_Decide.j0 k a0 a1 t562 (!t565))) = some (r1, r2, r3, r4) := by rw [if_pos rfl] at H; exact H
    clear H
    have H := H1
    clear H1
    replace H := Option.bind_eq_some_iff.mp H
    obtain ⟨t565, A90, H⟩ := H
    replace H : (foghornref05_Decide.j0 k a0 a1 t562 (!t565)) = some (r1, r2, r3, r4) := H
    have A9 := Aside0.mk A90
    clear A90
    have H' := Aside0.mk H
    clear H
    go_wp2_with (first | ((with_reducible refine gate_callee (f := 124) rfl ?_); refine goesL_ (some 31) rfl rfl Try.func124 (by kernel_rfl) rfl #[.float .f64 a1.1] rfl (by (try simp only [List.map_toArray, List.map_cons, List.map_nil]); first | done | rfl | (simp only [List.length_drop, List.length_take]; rfl)) ?_; (with_reducible refine (foghornref02_Finite.calls a1.1 true _ A7.out).mono ?_); rintro e w' ⟨rfl, ⟨nd, rfl⟩⟩; refine ⟨_, rfl, ?_⟩) | (go_at_call 124; (with_reducible refine (foghornref02_Finite.calls a1.2 t565 _ A9.out).mono ?_); rintro e w' ⟨rfl, ⟨nd, rfl⟩⟩))
    go_meet
    case rel => exact ⟨_, (!t565), (by first | rfl | (simp; done) | (simp [*]; done)), H', ⟨by first | omega | exact Nat.le_refl _⟩, ⟨by (with_reducible repeat (first | refine blk_drewN ?_ _ | refine blk_drew ?_ | refine blk_alloc ?_ _)); exact BK561.out⟩, ⟨by repeat (first | (with_reducible first | exact HB.out | apply below_alloc | apply pw_below_drewN | apply below_drew1 | refine below_set ?_ GE561.out) | exact HB.out)⟩⟩
   ·replace c8 := Bool.eq_false_iff.mpr c8
    subst c8
    have H1 : (foghornref05_Decide.j0 k a0 a1 t562 true) = some (r1, r2, r3, r4) := by rw [if_neg (show ¬ (false = true) by decide)] at H; exact H
    clear H
    have H := H1
    clear H1
    have H' := Aside0.mk H
    clear H
    go_wp2_with (first | ((with_reducible refine gate_callee (f := 124) rfl ?_); refine goesL_ (some 31) rfl rfl Try.func124 (by kernel_rfl) rfl #[.float .f64 a1.1] rfl (by (try simp only [List.map_toArray, List.map_cons, List.map_nil]); first | done | rfl | (simp only [List.length_drop, List.length_take]; rfl)) ?_; (with_reducible refine (foghornref02_Finite.calls a1.1 false _ A7.out).mono ?_); rintro e w' ⟨rfl, ⟨nd, rfl⟩⟩; refine ⟨_, rfl, ?_⟩))
    go_meet
    case rel => exact ⟨_, (true), (by first | rfl | (simp; done) | (simp [*]; done)), H', ⟨by first | omega | exact Nat.le_refl _⟩, ⟨by (with_reducible repeat (first | refine blk_drewN ?_ _ | refine blk_drew ?_ | refine blk_alloc ?_ _)); exact BK561.out⟩, ⟨by repeat (first | (with_reducible first | exact HB.out | apply below_alloc | apply pw_below_drewN | apply below_drew1 | refine below_set ?_ GE561.out) | exact HB.out)⟩⟩
  case rest =>
   clear HC5
   try clear c1
   try clear p2
   try clear c4
   try clear c4b0
   try clear c4b1
   try clear c5
   try clear c6
   try clear c8
   obtain ⟨kq, x38_4, rfl, HA, HJ4, BK561, HB⟩ := hcut
   cases kq with
   | zero => exact absurd HA.out (by simp [foghornref05_Decide.j0])
   | succ kj4 =>
    have H := HA.out
    clear HA
    simp only [foghornref05_Decide.j0] at H
    by_cases c10 : x38_4 = true
    ·subst c10
     have H1 : (some (0, (0, 0), true, 0)) = some (r1, r2, r3, r4) := by rw [if_pos rfl] at H; exact H
     clear H
     have H := H1
     clear H1
     simp only [Option.some.injEq, Prod.mk.injEq] at H
     obtain ⟨rfl, rfl, rfl, rfl⟩ := H
     have hcz11_0 : wc.cell? ⟨gb561, 0, none⟩ = some (.int .i64 0) := (blk_cell BK561.out 0).trans rfl
     have hcz11_1 : wc.cell? ⟨gb561, 1, none⟩ = some (.complex .f64 0 0) := (blk_cell BK561.out 1).trans rfl
     have hcz11_2 : wc.cell? ⟨gb561, 2, none⟩ = some (.bool false) := (blk_cell BK561.out 2).trans rfl
     have hfz11_0 := blk_frozen BK561.out 0
     have hfz11_1 := blk_frozen BK561.out 1
     have hfz11_2 := blk_frozen BK561.out 2
     go_wp2
     refine bodyPost_ret (results_ct rfl _ _ gb561 80 #[.int .i64 0, .complex .f64 0 0, .bool true] (0, 0) _ rfl (by (with_reducible repeat (first | refine blk_drewN ?_ _ | refine blk_drew ?_ | refine blk_alloc ?_ _)); refine blk_put (cs := #[.int .i64 0, .complex .f64 0 0, .bool false]) ?_ 2 _ rfl; (with_reducible repeat (first | refine blk_drewN ?_ _ | refine blk_drew ?_ | refine blk_alloc ?_ _)); refine blk_put (cs := #[.int .i64 0, .complex .f64 0 0, .bool false]) ?_ 1 _ rfl; (with_reducible repeat (first | refine blk_drewN ?_ _ | refine blk_drew ?_ | refine blk_alloc ?_ _)); refine blk_put (cs := #[.int .i64 0, .complex .f64 0 0, .bool false]) ?_ 0 _ rfl; (with_reducible repeat (first | refine blk_drewN ?_ _ | refine blk_drew ?_ | refine blk_alloc ?_ _)); exact BK561.out) Try.underlying80 rfl (by kernel_rfl)) rfl ?_
     exact ⟨by first | rfl | (simp [errW_none, errW_some] <;> rfl) | (simp [*, errW_none, errW_some] <;> rfl), by repeat (first | (with_reducible first | exact HB.out | apply below_alloc | apply pw_below_drewN | apply below_drew1 | refine below_set ?_ GE561.out) | exact HB.out)⟩
    ·replace c10 := Bool.eq_false_iff.mpr c10
     subst c10
     have H1 : (if a0 = 32 then (foghornref05_Decide.j1 kj4 a0 a1 t562 false) else (foghornref05_Decide.j1 kj4 a0 a1 t562 (a0 != 128))) = some (r1, r2, r3, r4) := by rw [if_neg (show ¬ (false = true) by decide)] at H; exact H
     clear H
     have H := H1
     clear H1
     have HC12 := Aside0.mk H
     clear H
     go_upto_region 6 with (fail)
     go_cut [45] (fun v45 wc => ∃ (kq : Nat) (x45_11 : Bool), v45 = .bool x45_11 ∧ Aside0 (foghornref05_Decide.j1 kq a0 a1 t562 x45_11 = some (r1, r2, r3, r4)) ∧ Aside0 (kq ≤ kj4) ∧ Aside0 (wc.heap[gb561]? = some (.cells #[.int .i64 0, .complex .f64 0 0, .bool false] 80 (0, 0))) ∧ Aside0 (Below w.heap.size w wc))
     case first =>
      have H := HC12.out
      clear HC12
      by_cases c13 : a0 = 32
      ·rw [if_pos c13] at H
       have c13b0 : (a0 == 32) = true := beq_iff_eq.mpr c13
       have c13b1 : (a0 != 32) = false := bne_eq_false_iff_eq.mpr c13
       clear c13
       (first | rw [c13b0] | (simp only [i64_w, i32_w]; rw [c13b0]) | skip)
       have H' := Aside0.mk H
       clear H
       go_wp2
       go_meet
       case rel => exact ⟨_, (false), (by first | rfl | (simp; done) | (simp [*]; done)), H', ⟨by have := HJ4.out; first | omega | exact Nat.le_refl _⟩, ⟨by (with_reducible repeat (first | refine blk_drewN ?_ _ | refine blk_drew ?_ | refine blk_alloc ?_ _)); exact BK561.out⟩, ⟨by repeat (first | (with_reducible first | exact HB.out | apply below_alloc | apply pw_below_drewN | apply below_drew1 | refine below_set ?_ GE561.out) | exact HB.out)⟩⟩
      ·rw [if_neg c13] at H
       have c13b0 : (a0 == 32) = false := beq_eq_false_iff_ne.mpr c13
       have c13b1 : (a0 != 32) = true := bne_iff_ne.mpr c13
       (first | rw [c13b0] | (simp only [i64_w, i32_w]; rw [c13b0]) | skip)
       have H' := Aside0.mk H
       clear H
       go_wp2
       go_meet
       case rel => exact ⟨_, ((a0 != 128)), (by first | rfl | (simp; done) | (simp [*]; done)), H', ⟨by have := HJ4.out; first | omega | exact Nat.le_refl _⟩, ⟨by (with_reducible repeat (first | refine blk_drewN ?_ _ | refine blk_drew ?_ | refine blk_alloc ?_ _)); exact BK561.out⟩, ⟨by repeat (first | (with_reducible first | exact HB.out | apply below_alloc | apply pw_below_drewN | apply below_drew1 | refine below_set ?_ GE561.out) | exact HB.out)⟩⟩
     case rest =>
      clear HC12
      try clear c1
      try clear p2
      try clear c4
      try clear c4b0
      try clear c4b1
      try clear c5
      try clear c6
      try clear c8
      try clear c10
      try clear c12
      try clear c13
      try clear c13b0
      try clear c13b1
      try clear hcz11_0
      try clear hcz11_1
      try clear hcz11_2
      try clear hfz11_0
      try clear hfz11_1
      try clear hfz11_2
      try clear p2
      obtain ⟨kq, x45_11, rfl, HA, HJ11, BK561, HB⟩ := hcut
      cases kq with
      | zero => exact absurd HA.out (by simp [foghornref05_Decide.j1])
      | succ kj11 =>
       have H := HA.out
       clear HA
       simp only [foghornref05_Decide.j1] at H
       by_cases c14 : x45_11 = true
       ·subst c14
        have H1 : ((foghornref05_Axis.f kj11 a1.1 t562).bind fun bt566 => ((foghornref05_Axis.f kj11 a1.2 t562).bind fun bt568 => ((foghornref04_Label.f kj11 a0 (floatOfInt .f64 bt566.1, floatOfInt .f64 bt568.1)).bind fun bt570 => (some (bt570.1, (floatOfInt .f64 bt566.1, floatOfInt .f64 bt568.1), false, 0))))) = some (r1, r2, r3, r4) := by rw [if_pos rfl] at H; exact H
        clear H
        have H := H1
        clear H1
        replace H := Option.bind_eq_some_iff.mp H
        obtain ⟨⟨t566, t567⟩, A150, H⟩ := H
        replace H : ((foghornref05_Axis.f kj11 a1.2 t562).bind fun bt568 => ((foghornref04_Label.f kj11 a0 (floatOfInt .f64 t566, floatOfInt .f64 bt568.1)).bind fun bt570 => (some (bt570.1, (floatOfInt .f64 t566, floatOfInt .f64 bt568.1), false, 0)))) = some (r1, r2, r3, r4) := H
        have A15 := Aside0.mk A150
        clear A150
        replace H := Option.bind_eq_some_iff.mp H
        obtain ⟨⟨t568, t569⟩, A160, H⟩ := H
        replace H : ((foghornref04_Label.f kj11 a0 (floatOfInt .f64 t566, floatOfInt .f64 t568)).bind fun bt570 => (some (bt570.1, (floatOfInt .f64 t566, floatOfInt .f64 t568), false, 0))) = some (r1, r2, r3, r4) := H
        have A16 := Aside0.mk A160
        clear A160
        replace H := Option.bind_eq_some_iff.mp H
        obtain ⟨⟨t570, t571⟩, A170, H⟩ := H
        replace H : (some (t570, (floatOfInt .f64 t566, floatOfInt .f64 t568), false, 0)) = some (r1, r2, r3, r4) := H
        have A17 := Aside0.mk A170
        clear A170
        simp only [Option.some.injEq, Prod.mk.injEq] at H
        obtain ⟨rfl, rfl, rfl, rfl⟩ := H
        go_wp2_with (first | ((with_reducible refine gate_callee (f := 46) rfl ?_); refine goesL_ (some 50) rfl rfl Try.func46 (by kernel_rfl) rfl #[.float .f64 a1.1, .int .i64 t562] rfl (by (try simp only [List.map_toArray, List.map_cons, List.map_nil]); first | done | rfl | (simp only [List.length_drop, List.length_take]; rfl)) ?_; (with_reducible refine (foghornref05_Axis.calls kj11 a1.1 t562 t566 t567 _ A15.out).mono ?_); rintro e w' ⟨rfl, ⟨nd, rfl⟩⟩; refine ⟨_, rfl, ?_⟩; (try (rw [drewN_self wc]; generalize hq_ : World.drewN wc _ = wc; have n0_ : Aside0 (wc.heap[gb561]? = some (.cells #[.int .i64 0, .complex .f64 0 0, .bool false] 80 (0, 0))) := ⟨by rw [← hq_]; exact (by (with_reducible repeat (first | refine blk_drewN ?_ _ | refine blk_drew ?_ | refine blk_alloc ?_ _)); exact BK561.out)⟩; have n1_ : Aside0 (Below w.heap.size w wc) := ⟨by rw [← hq_]; exact (by repeat (first | (with_reducible first | exact HB.out | apply below_alloc | apply pw_below_drewN | apply below_drew1 | refine below_set ?_ GE561.out) | exact HB.out))⟩; clear BK561 HB hq_; have BK561 := n0_; have HB := n1_; clear n0_ n1_))) | ((with_reducible refine gate_callee (f := 46) rfl ?_); refine goesL_ (some 57) rfl rfl Try.func46 (by kernel_rfl) rfl #[.float .f64 a1.2, .int .i64 t562] rfl (by (try simp only [List.map_toArray, List.map_cons, List.map_nil]); first | done | rfl | (simp only [List.length_drop, List.length_take]; rfl)) ?_; (with_reducible refine (foghornref05_Axis.calls kj11 a1.2 t562 t568 t569 _ A16.out).mono ?_); rintro e w' ⟨rfl, ⟨nd, rfl⟩⟩; refine ⟨_, rfl, ?_⟩; (try (rw [drewN_self wc]; generalize hq_ : World.drewN wc _ = wc; have n0_ : Aside0 (wc.heap[gb561]? = some (.cells #[.int .i64 0, .complex .f64 0 0, .bool false] 80 (0, 0))) := ⟨by rw [← hq_]; exact (by (with_reducible repeat (first | refine blk_drewN ?_ _ | refine blk_drew ?_ | refine blk_alloc ?_ _)); exact BK561.out)⟩; have n1_ : Aside0 (Below w.heap.size w wc) := ⟨by rw [← hq_]; exact (by repeat (first | (with_reducible first | exact HB.out | apply below_alloc | apply pw_below_drewN | apply below_drew1 | refine below_set ?_ GE561.out) | exact HB.out))⟩; clear BK561 HB hq_; have BK561 := n0_; have HB := n1_; clear n0_ n1_))) | ((with_reducible refine gate_callee (f := 125) rfl ?_); refine goesL_ (some 68) rfl rfl Try.func125 (by kernel_rfl) rfl #[.int .i64 a0, .complex .f64 (floatOfInt .f64 t566) (floatOfInt .f64 t568)] rfl (by (try simp only [List.map_toArray, List.map_cons, List.map_nil]); first | done | rfl | (simp only [List.length_drop, List.length_take]; rfl)) ?_; (with_reducible refine (foghornref04_Label.calls kj11 a0 (floatOfInt .f64 t566, floatOfInt .f64 t568) t570 t571 _ A17.out).mono ?_); rintro e w18 ⟨rfl, hb⟩; refine ⟨_, rfl, ?_⟩; have n0_ := Aside0.mk (blk_below (g := gb561) (o := .cells #[.int .i64 0, .complex .f64 0 0, .bool false] 80 (0, 0)) (by (with_reducible repeat (first | refine blk_drewN ?_ _ | refine blk_drew ?_ | refine blk_alloc ?_ _)); exact BK561.out) hb); have n1_ := Aside0.mk (below_step (by repeat (first | (with_reducible first | exact HB.out | apply below_alloc | apply pw_below_drewN | apply below_drew1 | refine below_set ?_ GE561.out) | exact HB.out)) hb); clear BK561; clear HB; have BK561 := n0_; have HB := n1_; clear n0_ n1_; (try clear hb); (try clear hb2); (try clear hk); (try clear hi); have hcz19_0 : w18.cell? ⟨gb561, 0, none⟩ = some (.int .i64 0) := (blk_cell BK561.out 0).trans rfl; have hcz19_1 : w18.cell? ⟨gb561, 1, none⟩ = some (.complex .f64 0 0) := (blk_cell BK561.out 1).trans rfl; have hcz19_2 : w18.cell? ⟨gb561, 2, none⟩ = some (.bool false) := (blk_cell BK561.out 2).trans rfl; have hfz19_0 := blk_frozen BK561.out 0; have hfz19_1 := blk_frozen BK561.out 1; have hfz19_2 := blk_frozen BK561.out 2))
        refine bodyPost_ret (results_ct rfl _ _ gb561 80 #[.int .i64 t570, .complex .f64 (floatOfInt .f64 t566) (floatOfInt .f64 t568), .bool false] (0, 0) _ rfl (by (with_reducible repeat (first | refine blk_drewN ?_ _ | refine blk_drew ?_ | refine blk_alloc ?_ _)); refine blk_put (cs := #[.int .i64 t570, .complex .f64 (floatOfInt .f64 t566) (floatOfInt .f64 t568), .bool false]) ?_ 2 _ rfl; (with_reducible repeat (first | refine blk_drewN ?_ _ | refine blk_drew ?_ | refine blk_alloc ?_ _)); refine blk_put (cs := #[.int .i64 t570, .complex .f64 0 0, .bool false]) ?_ 1 _ rfl; (with_reducible repeat (first | refine blk_drewN ?_ _ | refine blk_drew ?_ | refine blk_alloc ?_ _)); refine blk_put (cs := #[.int .i64 0, .complex .f64 0 0, .bool false]) ?_ 0 _ rfl; (with_reducible repeat (first | refine blk_drewN ?_ _ | refine blk_drew ?_ | refine blk_alloc ?_ _)); exact BK561.out) Try.underlying80 rfl (by kernel_rfl)) rfl ?_
        exact ⟨by first | rfl | (simp [errW_none, errW_some] <;> rfl) | (simp [*, errW_none, errW_some] <;> rfl), by repeat (first | (with_reducible first | exact HB.out | apply below_alloc | apply pw_below_drewN | apply below_drew1 | refine below_set ?_ GE561.out) | exact HB.out)⟩
       ·replace c14 := Bool.eq_false_iff.mpr c14
        subst c14
        have H1 : ((foghornref04_All.f kj11 a0).bind fun bt572 => ((foghornref05_Cut.f kj11 a0 a1).bind fun bt576 => (foghornref05_Decide.l0 kj11 bt572.1 bt576.1 0 1))) = some (r1, r2, r3, r4) := by rw [if_neg (show ¬ (false = true) by decide)] at H; exact H
        clear H
        have H := H1
        clear H1
        replace H := Option.bind_eq_some_iff.mp H
        obtain ⟨⟨t572, t573⟩, A200, H⟩ := H
        replace H : ((foghornref05_Cut.f kj11 a0 a1).bind fun bt576 => (foghornref05_Decide.l0 kj11 t572 bt576.1 0 1)) = some (r1, r2, r3, r4) := H
        have A20 := Aside0.mk A200
        clear A200
        replace H := Option.bind_eq_some_iff.mp H
        obtain ⟨⟨t576, t577⟩, A210, H⟩ := H
        replace H : (foghornref05_Decide.l0 kj11 t572 t576 0 1) = some (r1, r2, r3, r4) := H
        have A21 := Aside0.mk A210
        clear A210
        have H' := Aside0.mk H
        clear H
        go_wp2_with (first | ((with_reducible refine gate_callee (f := 98) rfl ?_); refine goesL_ (some 76) rfl rfl Try.func98 (by kernel_rfl) rfl #[.int .i64 a0] rfl (by (try simp only [List.map_toArray, List.map_cons, List.map_nil]); first | done | rfl | (simp only [List.length_drop, List.length_take]; rfl)) ?_; (with_reducible refine (foghornref04_All.calls kj11 a0 t572 t573 _ A20.out).mono ?_); rintro e w22 ⟨v574, rfl, ho0, hb⟩; refine ⟨_, rfl, ?_⟩; have n0_ := Aside0.mk (Kd.R_lower ho0 (below_size (by repeat (first | (with_reducible first | exact HB.out | apply below_alloc | apply pw_below_drewN | apply below_drew1 | refine below_set ?_ GE561.out) | exact HB.out)))); have n1_ := Aside0.mk (blk_below (g := gb561) (o := .cells #[.int .i64 0, .complex .f64 0 0, .bool false] 80 (0, 0)) (by (with_reducible repeat (first | refine blk_drewN ?_ _ | refine blk_drew ?_ | refine blk_alloc ?_ _)); exact BK561.out) hb); have n2_ := Aside0.mk (below_step (by repeat (first | (with_reducible first | exact HB.out | apply below_alloc | apply pw_below_drewN | apply below_drew1 | refine below_set ?_ GE561.out) | exact HB.out)) hb); clear BK561; clear HB; have HO575 := n0_; have BK561 := n1_; have HB := n2_; clear n0_ n1_ n2_; (try clear hb); (try clear hb2); (try clear hk); (try clear hi); (try clear ho0)) | ((with_reducible refine gate_callee (f := 48) rfl ?_); refine goesL_ (some 82) rfl rfl Try.func48 (by kernel_rfl) rfl #[.int .i64 a0, .complex .f64 a1.1 a1.2] rfl (by (try simp only [List.map_toArray, List.map_cons, List.map_nil]); first | done | rfl | (simp only [List.length_drop, List.length_take]; rfl)) ?_; (with_reducible refine (foghornref05_Cut.calls kj11 a0 a1 t576 t577 _ A21.out).mono ?_); rintro e w23 ⟨rfl, hb⟩; refine ⟨_, rfl, ?_⟩; have n0_ := Aside0.mk (Kd.R_below (by (with_reducible repeat (first | apply Kd.R_alloc | apply Kd.R_drewN | apply Kd.R_drew)); exact HO575.out) hb); have n1_ := Aside0.mk (blk_below (g := gb561) (o := .cells #[.int .i64 0, .complex .f64 0 0, .bool false] 80 (0, 0)) (by (with_reducible repeat (first | refine blk_drewN ?_ _ | refine blk_drew ?_ | refine blk_alloc ?_ _)); exact BK561.out) hb); have n2_ := Aside0.mk (below_step (by repeat (first | (with_reducible first | exact HB.out | apply below_alloc | apply pw_below_drewN | apply below_drew1 | refine below_set ?_ GE561.out) | exact HB.out)) hb); clear HO575; clear BK561; clear HB; have HO575 := n0_; have BK561 := n1_; have HB := n2_; clear n0_ n1_ n2_; (try clear hb); (try clear hb2); (try clear hk); (try clear hi)))
        go_loopg [19, 20] kj11 (fun kq v19 v20 w' => ∃ (x19_3 : Int) (x20_3 : Int), v19 = .int .i64 x19_3 ∧ v20 = .int .i64 x20_3 ∧ Aside0 (foghornref05_Decide.l0 kq t572 t576 x19_3 x20_3 = some (r1, r2, r3, r4)) ∧ Aside0 (kq ≤ kj11) ∧ Aside0 (Kd.R Kd.cplx 32 w' w.heap.size (fun _ => True) v574 t572) ∧ Aside0 (w'.heap[gb561]? = some (.cells #[.int .i64 0, .complex .f64 0 0, .bool false] 80 (0, 0))) ∧ Aside0 (Below w.heap.size w w'))
        case atStart => exact ⟨(0), (1), (by first | rfl | (simp; done) | (simp [*]; done)), (by first | rfl | (simp; done) | (simp [*]; done)), H', ⟨Nat.le_refl _⟩, ⟨by (with_reducible repeat (first | apply Kd.R_alloc | apply Kd.R_drewN | apply Kd.R_drew)); exact HO575.out⟩, ⟨by (with_reducible repeat (first | refine blk_drewN ?_ _ | refine blk_drew ?_ | refine blk_alloc ?_ _)); exact BK561.out⟩, ⟨by repeat (first | (with_reducible first | exact HB.out | apply below_alloc | apply pw_below_drewN | apply below_drew1 | refine below_set ?_ GE561.out) | exact HB.out)⟩⟩
        case round =>
         clear H'
         try clear c1
         try clear p2
         try clear c4
         try clear c4b0
         try clear c4b1
         try clear c5
         try clear c6
         try clear c8
         try clear c9
         try clear c10
         try clear c12
         try clear c13
         try clear c13b0
         try clear c13b1
         try clear c14
         try clear hcz11_0
         try clear hcz11_1
         try clear hcz11_2
         try clear hcz19_0
         try clear hcz19_1
         try clear hcz19_2
         try clear hfz11_0
         try clear hfz11_1
         try clear hfz11_2
         try clear hfz19_0
         try clear hfz19_1
         try clear hfz19_2
         try clear p2
         obtain ⟨x19_3, x20_3, rfl, rfl, HA, HK3, HO_15, BK561, HB⟩ := hrel
         cases gk with
         | zero => exact absurd HA.out (by simp [foghornref05_Decide.l0])
         | succ k3 =>
          have H := HA.out
          clear HA
          simp only [foghornref05_Decide.l0] at H
          by_cases c24 : x20_3 < (t572.length : Int)
          ·rw [if_pos c24] at H
           have c24b0 : decide (x20_3 < (t572.length : Int)) = true := decide_eq_true c24
           clear c24
           by_cases c25 : 0 ≤ x20_3
           ·rw [if_pos c25] at H
            have c25b0 : decide (0 ≤ x20_3) = true := decide_eq_true c25
            clear c25
            replace H := Option.bind_eq_some_iff.mp H
            obtain ⟨t580, A260, H⟩ := H
            replace H : (if 0 ≤ x19_3 then (if x19_3 < (t572.length : Int) then ((foghornref05_gap.f t576 (rdOf (0, 0) t572 x19_3)).bind fun t582 => (if (FloatKind.f64.format.order t580 t582 == some .lt) = true then (foghornref05_Decide.l0 k3 t572 t576 x20_3 (wrap64 (x20_3 + 1))) else (foghornref05_Decide.l0 k3 t572 t576 x19_3 (wrap64 (x20_3 + 1))))) else (none)) else (none)) = some (r1, r2, r3, r4) := H
            have A26 := Aside0.mk A260
            clear A260
            by_cases c27 : 0 ≤ x19_3
            ·rw [if_pos c27] at H
             have c27b0 : decide (0 ≤ x19_3) = true := decide_eq_true c27
             clear c27
             by_cases c28 : x19_3 < (t572.length : Int)
             ·rw [if_pos c28] at H
              have c28b0 : decide (x19_3 < (t572.length : Int)) = true := decide_eq_true c28
              clear c28
              replace H := Option.bind_eq_some_iff.mp H
              obtain ⟨t582, A290, H⟩ := H
              replace H : (if (FloatKind.f64.format.order t580 t582 == some .lt) = true then (foghornref05_Decide.l0 k3 t572 t576 x20_3 (wrap64 (x20_3 + 1))) else (foghornref05_Decide.l0 k3 t572 t576 x19_3 (wrap64 (x20_3 + 1)))) = some (r1, r2, r3, r4) := H
              have A29 := Aside0.mk A290
              clear A290
              by_cases c30 : (FloatKind.f64.format.order t580 t582 == some .lt) = true
              ·rw [if_pos c30] at H
               have c30b0 : (FloatKind.f64.format.order t580 t582 == some .lt) = true := c30
               (try (have c30b1 : decide (FloatKind.f64.format.order t580 t582 = some .lt) = true := by simpa using c30))
               (try (have c30b2 : (FloatKind.f64.format.order t580 t582 == some .lt) = true := by simpa using c30))
               clear c30
               have H' := Aside0.mk H
               clear H
               obtain ⟨Ao31, co31, eo31⟩ := Kd.R_slice HO_15.out
               subst eo31
               try go_wp2
               have n0_ := Aside0.mk (Kd.R_drew HO_15.out)
               have n1_ := Aside0.mk (blk_drew BK561.out)
               have n2_ := Aside0.mk (below_drew1 HB.out)
               clear HO_15
               clear BK561
               clear HB
               have HO_15 := n0_
               have BK561 := n1_
               have HB := n2_
               clear n0_ n1_ n2_
               have p579 : 0 ≤ (x20_3 : Int) := of_decide_eq_true (by first | (with_reducible assumption) | assumption)
               have q579 : x20_3 < (t572.length : Int) := of_decide_eq_true (by first | (with_reducible assumption) | assumption)
               obtain ⟨ad579, e579, hx579_0⟩ := Kd.at_cplx (Kd.R_reads' HO_15.out).2.2 x20_3 p579 q579
               cases e579
               replace p579 := eq_true p579
               replace q579 := eq_true q579
               have p581 : 0 ≤ (x19_3 : Int) := of_decide_eq_true (by first | (with_reducible assumption) | assumption)
               have q581 : x19_3 < (t572.length : Int) := of_decide_eq_true (by first | (with_reducible assumption) | assumption)
               obtain ⟨ad581, e581, hx581_0⟩ := Kd.at_cplx (Kd.R_reads' HO_15.out).2.2 x19_3 p581 q581
               obtain rfl : ad579 = ad581 := (by injection e581)
               replace p581 := eq_true p581
               replace q581 := eq_true q581
               refine start_ (n := 13) (S := fun w' => w'.cell? (ad579.add (x20_3).toNat) = some (.complex .f64 ((rdOf (0, 0) t572 x20_3).1) ((rdOf (0, 0) t572 x20_3).2)) ∧ w'.cell? (ad579.add (x19_3).toNat) = some (.complex .f64 ((rdOf (0, 0) t572 x19_3).1) ((rdOf (0, 0) t572 x19_3).2))) (ds := []) #[false, false, false, false, false, false, false, false, false, false, false, false, false] (by kernel_rfl) rfl rfl ⟨hx579_0, hx581_0⟩ (fun hHeld => ?_); refine with_tabW foghornref05_Decide.tab18 foghornref05_Decide.bits18 (fun HT_ HW_ => ?_)
               generalize wr.drew = w32 at HO_15 BK561 HB hx579_0 hx581_0 hHeld ⊢
               refine pure_ (i := 0) (N := some 91) (v := ?_) (a' := ?_) #[true, false, false, false, false, false, false, false, false, false, false, false, false] rfl rfl (any_of HT_.out (by kernel_rfl)) (fun _ _ _ h => h) (Or.inl ⟨by rfl, ?_⟩) ?_ ?_
               rotate_left
               ·intro w'
                go_simp
                with_reducible rfl
               rotate_left
               ·simp only [Act.put, List.setIfInBounds_toArray, List.set_cons_zero, List.set_cons_succ, i64_w, i32_w]
                rfl
               refine pure_ (i := 1) (N := some 92) (v := ?_) (a' := ?_) #[true, true, false, false, false, false, false, false, false, false, false, false, false] rfl rfl (any_of HT_.out (by kernel_rfl)) (fun _ _ _ h => h) (Or.inl ⟨by rfl, ?_⟩) ?_ ?_
               rotate_left
               ·intro w'
                go_simp
                with_reducible rfl
               rotate_left
               ·simp only [Act.put, List.setIfInBounds_toArray, List.set_cons_zero, List.set_cons_succ, i64_w, i32_w]
                rfl
               refine pure_ (i := 2) (N := some 93) (v := ?_) (a' := ?_) #[true, true, true, false, false, false, false, false, false, false, false, false, false] rfl rfl (any_of HT_.out (by kernel_rfl)) (fun _ _ _ h => h) (Or.inl ⟨by rfl, ?_⟩) ?_ ?_
               rotate_left
               ·intro w'
                go_simp
                with_reducible rfl
               rotate_left
               ·simp only [Act.put, List.setIfInBounds_toArray, List.set_cons_zero, List.set_cons_succ, i64_w, i32_w]
                rfl
               refine pure_ (i := 3) (N := some 94) (v := ?_) (a' := ?_) #[true, true, true, true, false, false, false, false, false, false, false, false, false] rfl rfl (any_of HT_.out (by kernel_rfl)) (fun _ _ _ h => h) (Or.inl ⟨by rfl, ?_⟩) ?_ ?_
               rotate_left
               ·intro w'
                go_simp
                with_reducible rfl
               rotate_left
               ·simp only [Act.put, List.setIfInBounds_toArray, List.set_cons_zero, List.set_cons_succ, i64_w, i32_w]
                rfl
               refine pure_ (i := 6) (N := some 97) (v := ?_) (a' := ?_) #[true, true, true, true, false, false, true, false, false, false, false, false, false] rfl rfl (any_of HT_.out (by kernel_rfl)) (fun _ _ _ h => h) (Or.inl ⟨by rfl, ?_⟩) ?_ ?_
               rotate_left
               ·intro w'
                go_simp
                with_reducible rfl
               rotate_left
               ·simp only [Act.put, List.setIfInBounds_toArray, List.set_cons_zero, List.set_cons_succ, i64_w, i32_w]
                rfl
               refine pure_ (i := 7) (N := some 98) (v := ?_) (a' := ?_) #[true, true, true, true, false, false, true, true, false, false, false, false, false] rfl rfl (any_of HT_.out (by kernel_rfl)) (fun _ _ _ h => h) (Or.inl ⟨by rfl, ?_⟩) ?_ ?_
               rotate_left
               ·intro w'
                go_simp
                with_reducible rfl
               rotate_left
               ·simp only [Act.put, List.setIfInBounds_toArray, List.set_cons_zero, List.set_cons_succ, i64_w, i32_w]
                rfl
               refine pure_ (i := 8) (N := some 99) (v := ?_) (a' := ?_) #[true, true, true, true, false, false, true, true, true, false, false, false, false] rfl rfl (any_of HT_.out (by kernel_rfl)) (fun _ _ _ h => h) (Or.inl ⟨by rfl, ?_⟩) ?_ ?_
               rotate_left
               ·intro w'
                go_simp
                with_reducible rfl
               rotate_left
               ·simp only [Act.put, List.setIfInBounds_toArray, List.set_cons_zero, List.set_cons_succ, i64_w, i32_w]
                rfl
               refine pure_ (i := 9) (N := some 100) (v := ?_) (a' := ?_) #[true, true, true, true, false, false, true, true, true, true, false, false, false] rfl rfl (any_of HT_.out (by kernel_rfl)) (fun _ _ _ h => h) (Or.inl ⟨by rfl, ?_⟩) ?_ ?_
               rotate_left
               ·intro w'
                go_simp
                with_reducible rfl
               rotate_left
               ·simp only [Act.put, List.setIfInBounds_toArray, List.set_cons_zero, List.set_cons_succ, i64_w, i32_w]
                rfl
               refine take_ (i := 4) (N := some 95) (v := ?_) (a' := ?_) #[true, true, true, true, true, false, true, true, true, true, false, false, false] rfl rfl (take_ofW HT_.out HW_.out (by kernel_rfl)) (fun _ _ _ h => h) (Or.inl ⟨by rfl, ?_⟩) hHeld ?_ ?_
               rotate_left
               ·rintro w' ⟨s0, s1⟩
                go_simp
                with_reducible rfl
               rotate_left
               ·simp only [Act.put, List.setIfInBounds_toArray, List.set_cons_zero, List.set_cons_succ, i64_w, i32_w]
                rfl
               refine take_ (i := 10) (N := some 101) (v := ?_) (a' := ?_) #[true, true, true, true, true, false, true, true, true, true, true, false, false] rfl rfl (take_ofW HT_.out HW_.out (by kernel_rfl)) (fun _ _ _ h => h) (Or.inl ⟨by rfl, ?_⟩) hHeld ?_ ?_
               rotate_left
               ·rintro w' ⟨s0, s1⟩
                go_simp
                with_reducible rfl
               rotate_left
               ·simp only [Act.put, List.setIfInBounds_toArray, List.set_cons_zero, List.set_cons_succ, i64_w, i32_w]
                rfl
               refine one_ (i := 5) (N := some 96) #[true, true, true, true, true, true, true, true, true, true, true, false, false] rfl rfl (one_of HT_.out (by kernel_rfl)) (by decide) (fun K hK => ?_)
               refine goes_ Try.func121 (by kernel_rfl) rfl #[.complex .f64 t576.1 t576.2, .complex .f64 ((rdOf (0, 0) t572 x20_3).1) ((rdOf (0, 0) t572 x20_3).2)] (by rfl) rfl rfl (by (try simp only [List.map_toArray, List.map_cons, List.map_nil]); first | done | rfl | (simp only [List.length_drop, List.length_take]; rfl)) ?_
               with_reducible refine (foghornref05_gap.calls t576 (rdOf (0, 0) t572 x20_3) t580 _ A26.out).mono ?_
               rintro e w33 ⟨rfl, hb⟩
               have HS0_ := (hb.cell (World.block_lt_of_cell? _ _ (hHeld.1))).trans (hHeld.1)
               have HS1_ := (hb.cell (World.block_lt_of_cell? _ _ (hHeld.2))).trans (hHeld.2)
               refine ⟨_, rfl, ?_⟩
               have n0_ := Aside0.mk (Kd.R_below (by (with_reducible repeat (first | apply Kd.R_alloc | apply Kd.R_drewN | apply Kd.R_drew)); exact HO_15.out) hb)
               have n1_ := Aside0.mk (blk_below (g := gb561) (o := .cells #[.int .i64 0, .complex .f64 0 0, .bool false] 80 (0, 0)) (by (with_reducible repeat (first | refine blk_drewN ?_ _ | refine blk_drew ?_ | refine blk_alloc ?_ _)); exact BK561.out) hb)
               have n2_ := Aside0.mk (below_step (by repeat (first | (with_reducible first | exact HB.out | apply below_alloc | apply pw_below_drewN | apply below_drew1 | refine below_set ?_ GE561.out) | exact HB.out)) hb)
               clear HO_15
               clear BK561
               clear HB
               have HO_15 := n0_
               have BK561 := n1_
               have HB := n2_
               clear n0_ n1_ n2_
               (try clear hb)
               (try clear hb2)
               (try clear hk)
               (try clear hi)
               refine hK.out _ _ ⟨HS0_, HS1_⟩ (fun hHeld => ?_)
               clear hK K
               refine norm_ (a' := ?_) ?_ ?_
               rotate_left
               ·show Act.put _ (some 96) _ = _
                simp only [Act.put, List.setIfInBounds_toArray, List.set_cons_zero, List.set_cons_succ, i64_w, i32_w]
                rfl
               refine one_ (i := 11) (N := some 102) #[true, true, true, true, true, true, true, true, true, true, true, true, false] rfl rfl (one_of HT_.out (by kernel_rfl)) (by decide) (fun K hK => ?_)
               refine goes_ Try.func121 (by kernel_rfl) rfl #[.complex .f64 t576.1 t576.2, .complex .f64 ((rdOf (0, 0) t572 x19_3).1) ((rdOf (0, 0) t572 x19_3).2)] (by rfl) rfl rfl (by (try simp only [List.map_toArray, List.map_cons, List.map_nil]); first | done | rfl | (simp only [List.length_drop, List.length_take]; rfl)) ?_
               with_reducible refine (foghornref05_gap.calls t576 (rdOf (0, 0) t572 x19_3) t582 _ A29.out).mono ?_
               rintro e w34 ⟨rfl, hb⟩
               have HS0_ := (hb.cell (World.block_lt_of_cell? _ _ (hHeld.1))).trans (hHeld.1)
               have HS1_ := (hb.cell (World.block_lt_of_cell? _ _ (hHeld.2))).trans (hHeld.2)
               refine ⟨_, rfl, ?_⟩
               have n0_ := Aside0.mk (Kd.R_below (by (with_reducible repeat (first | apply Kd.R_alloc | apply Kd.R_drewN | apply Kd.R_drew)); exact HO_15.out) hb)
               have n1_ := Aside0.mk (blk_below (g := gb561) (o := .cells #[.int .i64 0, .complex .f64 0 0, .bool false] 80 (0, 0)) (by (with_reducible repeat (first | refine blk_drewN ?_ _ | refine blk_drew ?_ | refine blk_alloc ?_ _)); exact BK561.out) hb)
               have n2_ := Aside0.mk (below_step (by repeat (first | (with_reducible first | exact HB.out | apply below_alloc | apply pw_below_drewN | apply below_drew1 | refine below_set ?_ GE561.out) | exact HB.out)) hb)
               clear HO_15
               clear BK561
               clear HB
               have HO_15 := n0_
               have BK561 := n1_
               have HB := n2_
               clear n0_ n1_ n2_
               (try clear hb)
               (try clear hb2)
               (try clear hk)
               (try clear hi)
               refine hK.out _ _ ⟨HS0_, HS1_⟩ (fun hHeld => ?_)
               clear hK K
               refine norm_ (a' := ?_) ?_ ?_
               rotate_left
               ·show Act.put _ (some 102) _ = _
                simp only [Act.put, List.setIfInBounds_toArray, List.set_cons_zero, List.set_cons_succ, i64_w, i32_w]
                rfl
               refine pure_ (i := 12) (N := some 103) (v := ?_) (a' := ?_) #[true, true, true, true, true, true, true, true, true, true, true, true, true] rfl rfl (any_of HT_.out (by kernel_rfl)) (fun _ _ _ h => h) (Or.inl ⟨by rfl, ?_⟩) ?_ ?_
               rotate_left
               ·intro w'
                go_simp
                with_reducible rfl
               rotate_left
               ·simp only [Act.put, List.setIfInBounds_toArray, List.set_cons_zero, List.set_cons_succ, i64_w, i32_w]
                rfl
               refine done_ (done_of HT_.out (by kernel_rfl)) ?_
               try go_wp2
               first | go_roundg k3 | (simp only [add_plain] at *; go_roundg k3)
               case measure => have := HJ4.out; have := HJ11.out; have := HK3.out; omega
               case rel => exact ⟨(x20_3), (wrap64 (x20_3 + 1)), (by first | rfl | (simp; done) | (simp [*]; done)), (by first | rfl | (simp; done) | (simp [*]; done)), H', ⟨by have := HJ4.out; have := HJ11.out; have := HK3.out; omega⟩, ⟨by (with_reducible repeat (first | apply Kd.R_alloc | apply Kd.R_drewN | apply Kd.R_drew)); exact HO_15.out⟩, ⟨by (with_reducible repeat (first | refine blk_drewN ?_ _ | refine blk_drew ?_ | refine blk_alloc ?_ _)); exact BK561.out⟩, ⟨by repeat (first | (with_reducible first | exact HB.out | apply below_alloc | apply pw_below_drewN | apply below_drew1 | refine below_set ?_ GE561.out) | exact HB.out)⟩⟩
              ·rw [if_neg c30] at H
               have c30b0 : (FloatKind.f64.format.order t580 t582 == some .lt) = false := by simpa using c30
               (try (have c30b1 : decide (FloatKind.f64.format.order t580 t582 = some .lt) = false := by simpa using c30))
               (try (have c30b2 : (FloatKind.f64.format.order t580 t582 == some .lt) = false := by simpa using c30))
               (try (have c30b3 : ¬ (FloatKind.f64.format.order t580 t582 = some .lt) := by simpa using c30))
               clear c30
               have H' := Aside0.mk H
               clear H
               obtain ⟨Ao35, co35, eo35⟩ := Kd.R_slice HO_15.out
               subst eo35
               try go_wp2
               have n0_ := Aside0.mk (Kd.R_drew HO_15.out)
               have n1_ := Aside0.mk (blk_drew BK561.out)
               have n2_ := Aside0.mk (below_drew1 HB.out)
               clear HO_15
               clear BK561
               clear HB
               have HO_15 := n0_
               have BK561 := n1_
               have HB := n2_
               clear n0_ n1_ n2_
               have p579 : 0 ≤ (x20_3 : Int) := of_decide_eq_true (by first | (with_reducible assumption) | assumption)
               have q579 : x20_3 < (t572.length : Int) := of_decide_eq_true (by first | (with_reducible assumption) | assumption)
               obtain ⟨ad579, e579, hx579_0⟩ := Kd.at_cplx (Kd.R_reads' HO_15.out).2.2 x20_3 p579 q579
               cases e579
               replace p579 := eq_true p579
               replace q579 := eq_true q579
               have p581 : 0 ≤ (x19_3 : Int) := of_decide_eq_true (by first | (with_reducible assumption) | assumption)
               have q581 : x19_3 < (t572.length : Int) := of_decide_eq_true (by first | (with_reducible assumption) | assumption)
               obtain ⟨ad581, e581, hx581_0⟩ := Kd.at_cplx (Kd.R_reads' HO_15.out).2.2 x19_3 p581 q581
               obtain rfl : ad579 = ad581 := (by injection e581)
               replace p581 := eq_true p581
               replace q581 := eq_true q581
               refine start_ (n := 13) (S := fun w' => w'.cell? (ad579.add (x20_3).toNat) = some (.complex .f64 ((rdOf (0, 0) t572 x20_3).1) ((rdOf (0, 0) t572 x20_3).2)) ∧ w'.cell? (ad579.add (x19_3).toNat) = some (.complex .f64 ((rdOf (0, 0) t572 x19_3).1) ((rdOf (0, 0) t572 x19_3).2))) (ds := []) #[false, false, false, false, false, false, false, false, false, false, false, false, false] (by kernel_rfl) rfl rfl ⟨hx579_0, hx581_0⟩ (fun hHeld => ?_); refine with_tabW foghornref05_Decide.tab18 foghornref05_Decide.bits18 (fun HT_ HW_ => ?_)
               generalize wr.drew = w36 at HO_15 BK561 HB hx579_0 hx581_0 hHeld ⊢
               refine pure_ (i := 0) (N := some 91) (v := ?_) (a' := ?_) #[true, false, false, false, false, false, false, false, false, false, false, false, false] rfl rfl (any_of HT_.out (by kernel_rfl)) (fun _ _ _ h => h) (Or.inl ⟨by rfl, ?_⟩) ?_ ?_
               rotate_left
               ·intro w'
                go_simp
                with_reducible rfl
               rotate_left
               ·simp only [Act.put, List.setIfInBounds_toArray, List.set_cons_zero, List.set_cons_succ, i64_w, i32_w]
                rfl
               refine pure_ (i := 1) (N := some 92) (v := ?_) (a' := ?_) #[true, true, false, false, false, false, false, false, false, false, false, false, false] rfl rfl (any_of HT_.out (by kernel_rfl)) (fun _ _ _ h => h) (Or.inl ⟨by rfl, ?_⟩) ?_ ?_
               rotate_left
               ·intro w'
                go_simp
                with_reducible rfl
               rotate_left
               ·simp only [Act.put, List.setIfInBounds_toArray, List.set_cons_zero, List.set_cons_succ, i64_w, i32_w]
                rfl
               refine pure_ (i := 2) (N := some 93) (v := ?_) (a' := ?_) #[true, true, true, false, false, false, false, false, false, false, false, false, false] rfl rfl (any_of HT_.out (by kernel_rfl)) (fun _ _ _ h => h) (Or.inl ⟨by rfl, ?_⟩) ?_ ?_
               rotate_left
               ·intro w'
                go_simp
                with_reducible rfl
               rotate_left
               ·simp only [Act.put, List.setIfInBounds_toArray, List.set_cons_zero, List.set_cons_succ, i64_w, i32_w]
                rfl
               refine pure_ (i := 3) (N := some 94) (v := ?_) (a' := ?_) #[true, true, true, true, false, false, false, false, false, false, false, false, false] rfl rfl (any_of HT_.out (by kernel_rfl)) (fun _ _ _ h => h) (Or.inl ⟨by rfl, ?_⟩) ?_ ?_
               rotate_left
               ·intro w'
                go_simp
                with_reducible rfl
               rotate_left
               ·simp only [Act.put, List.setIfInBounds_toArray, List.set_cons_zero, List.set_cons_succ, i64_w, i32_w]
                rfl
               refine pure_ (i := 6) (N := some 97) (v := ?_) (a' := ?_) #[true, true, true, true, false, false, true, false, false, false, false, false, false] rfl rfl (any_of HT_.out (by kernel_rfl)) (fun _ _ _ h => h) (Or.inl ⟨by rfl, ?_⟩) ?_ ?_
               rotate_left
               ·intro w'
                go_simp
                with_reducible rfl
               rotate_left
               ·simp only [Act.put, List.setIfInBounds_toArray, List.set_cons_zero, List.set_cons_succ, i64_w, i32_w]
                rfl
               refine pure_ (i := 7) (N := some 98) (v := ?_) (a' := ?_) #[true, true, true, true, false, false, true, true, false, false, false, false, false] rfl rfl (any_of HT_.out (by kernel_rfl)) (fun _ _ _ h => h) (Or.inl ⟨by rfl, ?_⟩) ?_ ?_
               rotate_left
               ·intro w'
                go_simp
                with_reducible rfl
               rotate_left
               ·simp only [Act.put, List.setIfInBounds_toArray, List.set_cons_zero, List.set_cons_succ, i64_w, i32_w]
                rfl
               refine pure_ (i := 8) (N := some 99) (v := ?_) (a' := ?_) #[true, true, true, true, false, false, true, true, true, false, false, false, false] rfl rfl (any_of HT_.out (by kernel_rfl)) (fun _ _ _ h => h) (Or.inl ⟨by rfl, ?_⟩) ?_ ?_
               rotate_left
               ·intro w'
                go_simp
                with_reducible rfl
               rotate_left
               ·simp only [Act.put, List.setIfInBounds_toArray, List.set_cons_zero, List.set_cons_succ, i64_w, i32_w]
                rfl
               refine pure_ (i := 9) (N := some 100) (v := ?_) (a' := ?_) #[true, true, true, true, false, false, true, true, true, true, false, false, false] rfl rfl (any_of HT_.out (by kernel_rfl)) (fun _ _ _ h => h) (Or.inl ⟨by rfl, ?_⟩) ?_ ?_
               rotate_left
               ·intro w'
                go_simp
                with_reducible rfl
               rotate_left
               ·simp only [Act.put, List.setIfInBounds_toArray, List.set_cons_zero, List.set_cons_succ, i64_w, i32_w]
                rfl
               refine take_ (i := 4) (N := some 95) (v := ?_) (a' := ?_) #[true, true, true, true, true, false, true, true, true, true, false, false, false] rfl rfl (take_ofW HT_.out HW_.out (by kernel_rfl)) (fun _ _ _ h => h) (Or.inl ⟨by rfl, ?_⟩) hHeld ?_ ?_
               rotate_left
               ·rintro w' ⟨s0, s1⟩
                go_simp
                with_reducible rfl
               rotate_left
               ·simp only [Act.put, List.setIfInBounds_toArray, List.set_cons_zero, List.set_cons_succ, i64_w, i32_w]
                rfl
               refine take_ (i := 10) (N := some 101) (v := ?_) (a' := ?_) #[true, true, true, true, true, false, true, true, true, true, true, false, false] rfl rfl (take_ofW HT_.out HW_.out (by kernel_rfl)) (fun _ _ _ h => h) (Or.inl ⟨by rfl, ?_⟩) hHeld ?_ ?_
               rotate_left
               ·rintro w' ⟨s0, s1⟩
                go_simp
                with_reducible rfl
               rotate_left
               ·simp only [Act.put, List.setIfInBounds_toArray, List.set_cons_zero, List.set_cons_succ, i64_w, i32_w]
                rfl
               refine one_ (i := 5) (N := some 96) #[true, true, true, true, true, true, true, true, true, true, true, false, false] rfl rfl (one_of HT_.out (by kernel_rfl)) (by decide) (fun K hK => ?_)
               refine goes_ Try.func121 (by kernel_rfl) rfl #[.complex .f64 t576.1 t576.2, .complex .f64 ((rdOf (0, 0) t572 x20_3).1) ((rdOf (0, 0) t572 x20_3).2)] (by rfl) rfl rfl (by (try simp only [List.map_toArray, List.map_cons, List.map_nil]); first | done | rfl | (simp only [List.length_drop, List.length_take]; rfl)) ?_
               with_reducible refine (foghornref05_gap.calls t576 (rdOf (0, 0) t572 x20_3) t580 _ A26.out).mono ?_
               rintro e w37 ⟨rfl, hb⟩
               have HS0_ := (hb.cell (World.block_lt_of_cell? _ _ (hHeld.1))).trans (hHeld.1)
               have HS1_ := (hb.cell (World.block_lt_of_cell? _ _ (hHeld.2))).trans (hHeld.2)
               refine ⟨_, rfl, ?_⟩
               have n0_ := Aside0.mk (Kd.R_below (by (with_reducible repeat (first | apply Kd.R_alloc | apply Kd.R_drewN | apply Kd.R_drew)); exact HO_15.out) hb)
               have n1_ := Aside0.mk (blk_below (g := gb561) (o := .cells #[.int .i64 0, .complex .f64 0 0, .bool false] 80 (0, 0)) (by (with_reducible repeat (first | refine blk_drewN ?_ _ | refine blk_drew ?_ | refine blk_alloc ?_ _)); exact BK561.out) hb)
               have n2_ := Aside0.mk (below_step (by repeat (first | (with_reducible first | exact HB.out | apply below_alloc | apply pw_below_drewN | apply below_drew1 | refine below_set ?_ GE561.out) | exact HB.out)) hb)
               clear HO_15
               clear BK561
               clear HB
               have HO_15 := n0_
               have BK561 := n1_
               have HB := n2_
               clear n0_ n1_ n2_
               (try clear hb)
               (try clear hb2)
               (try clear hk)
               (try clear hi)
               refine hK.out _ _ ⟨HS0_, HS1_⟩ (fun hHeld => ?_)
               clear hK K
               refine norm_ (a' := ?_) ?_ ?_
               rotate_left
               ·show Act.put _ (some 96) _ = _
                simp only [Act.put, List.setIfInBounds_toArray, List.set_cons_zero, List.set_cons_succ, i64_w, i32_w]
                rfl
               refine one_ (i := 11) (N := some 102) #[true, true, true, true, true, true, true, true, true, true, true, true, false] rfl rfl (one_of HT_.out (by kernel_rfl)) (by decide) (fun K hK => ?_)
               refine goes_ Try.func121 (by kernel_rfl) rfl #[.complex .f64 t576.1 t576.2, .complex .f64 ((rdOf (0, 0) t572 x19_3).1) ((rdOf (0, 0) t572 x19_3).2)] (by rfl) rfl rfl (by (try simp only [List.map_toArray, List.map_cons, List.map_nil]); first | done | rfl | (simp only [List.length_drop, List.length_take]; rfl)) ?_
               with_reducible refine (foghornref05_gap.calls t576 (rdOf (0, 0) t572 x19_3) t582 _ A29.out).mono ?_
               rintro e w38 ⟨rfl, hb⟩
               have HS0_ := (hb.cell (World.block_lt_of_cell? _ _ (hHeld.1))).trans (hHeld.1)
               have HS1_ := (hb.cell (World.block_lt_of_cell? _ _ (hHeld.2))).trans (hHeld.2)
               refine ⟨_, rfl, ?_⟩
               have n0_ := Aside0.mk (Kd.R_below (by (with_reducible repeat (first | apply Kd.R_alloc | apply Kd.R_drewN | apply Kd.R_drew)); exact HO_15.out) hb)
               have n1_ := Aside0.mk (blk_below (g := gb561) (o := .cells #[.int .i64 0, .complex .f64 0 0, .bool false] 80 (0, 0)) (by (with_reducible repeat (first | refine blk_drewN ?_ _ | refine blk_drew ?_ | refine blk_alloc ?_ _)); exact BK561.out) hb)
               have n2_ := Aside0.mk (below_step (by repeat (first | (with_reducible first | exact HB.out | apply below_alloc | apply pw_below_drewN | apply below_drew1 | refine below_set ?_ GE561.out) | exact HB.out)) hb)
               clear HO_15
               clear BK561
               clear HB
               have HO_15 := n0_
               have BK561 := n1_
               have HB := n2_
               clear n0_ n1_ n2_
               (try clear hb)
               (try clear hb2)
               (try clear hk)
               (try clear hi)
               refine hK.out _ _ ⟨HS0_, HS1_⟩ (fun hHeld => ?_)
               clear hK K
               refine norm_ (a' := ?_) ?_ ?_
               rotate_left
               ·show Act.put _ (some 102) _ = _
                simp only [Act.put, List.setIfInBounds_toArray, List.set_cons_zero, List.set_cons_succ, i64_w, i32_w]
                rfl
               refine pure_ (i := 12) (N := some 103) (v := ?_) (a' := ?_) #[true, true, true, true, true, true, true, true, true, true, true, true, true] rfl rfl (any_of HT_.out (by kernel_rfl)) (fun _ _ _ h => h) (Or.inl ⟨by rfl, ?_⟩) ?_ ?_
               rotate_left
               ·intro w'
                go_simp
                with_reducible rfl
               rotate_left
               ·simp only [Act.put, List.setIfInBounds_toArray, List.set_cons_zero, List.set_cons_succ, i64_w, i32_w]
                rfl
               refine done_ (done_of HT_.out (by kernel_rfl)) ?_
               try go_wp2
               first | go_roundg k3 | (simp only [add_plain] at *; go_roundg k3)
               case measure => have := HJ4.out; have := HJ11.out; have := HK3.out; omega
               case rel => exact ⟨(x19_3), (wrap64 (x20_3 + 1)), (by first | rfl | (simp; done) | (simp [*]; done)), (by first | rfl | (simp; done) | (simp [*]; done)), H', ⟨by have := HJ4.out; have := HJ11.out; have := HK3.out; omega⟩, ⟨by (with_reducible repeat (first | apply Kd.R_alloc | apply Kd.R_drewN | apply Kd.R_drew)); exact HO_15.out⟩, ⟨by (with_reducible repeat (first | refine blk_drewN ?_ _ | refine blk_drew ?_ | refine blk_alloc ?_ _)); exact BK561.out⟩, ⟨by repeat (first | (with_reducible first | exact HB.out | apply below_alloc | apply pw_below_drewN | apply below_drew1 | refine below_set ?_ GE561.out) | exact HB.out)⟩⟩
             ·rw [if_neg c28] at H
              exact absurd H (by simp)
            ·rw [if_neg c27] at H
             exact absurd H (by simp)
           ·rw [if_neg c25] at H
            exact absurd H (by simp)
          ·rw [if_neg c24] at H
           have c24b0 : decide (x20_3 < (t572.length : Int)) = false := decide_eq_false c24
           clear c24
           by_cases c39 : 0 ≤ x19_3
           ·rw [if_pos c39] at H
            have c39b0 : decide (0 ≤ x19_3) = true := decide_eq_true c39
            clear c39
            by_cases c40 : x19_3 < (t572.length : Int)
            ·rw [if_pos c40] at H
             have c40b0 : decide (x19_3 < (t572.length : Int)) = true := decide_eq_true c40
             clear c40
             simp only [Option.some.injEq, Prod.mk.injEq] at H
             obtain ⟨rfl, rfl, rfl, rfl⟩ := H
             obtain ⟨Ao41, co41, eo41⟩ := Kd.R_slice HO_15.out
             subst eo41
             have p578 : 0 ≤ (x19_3 : Int) := of_decide_eq_true (by first | (with_reducible assumption) | assumption)
             have q578 : x19_3 < (t572.length : Int) := of_decide_eq_true (by first | (with_reducible assumption) | assumption)
             obtain ⟨ad578, e578, hx578_0⟩ := Kd.at_cplx (Kd.R_reads' HO_15.out).2.2 x19_3 p578 q578
             cases e578
             replace p578 := eq_true p578
             replace q578 := eq_true q578
             have hcz42_0 : wr.cell? ⟨gb561, 0, none⟩ = some (.int .i64 0) := (blk_cell BK561.out 0).trans rfl
             have hcz42_1 : wr.cell? ⟨gb561, 1, none⟩ = some (.complex .f64 0 0) := (blk_cell BK561.out 1).trans rfl
             have hcz42_2 : wr.cell? ⟨gb561, 2, none⟩ = some (.bool false) := (blk_cell BK561.out 2).trans rfl
             have hfz42_0 := blk_frozen BK561.out 0
             have hfz42_1 := blk_frozen BK561.out 1
             have hfz42_2 := blk_frozen BK561.out 2
             go_wp2
             refine bodyPost_ret (results_ct rfl _ _ gb561 80 #[.int .i64 x19_3, .complex .f64 ((rdOf (0, 0) t572 x19_3).1) ((rdOf (0, 0) t572 x19_3).2), .bool false] (0, 0) _ rfl (by (with_reducible repeat (first | refine blk_drewN ?_ _ | refine blk_drew ?_ | refine blk_alloc ?_ _)); refine blk_put (cs := #[.int .i64 x19_3, .complex .f64 ((rdOf (0, 0) t572 x19_3).1) ((rdOf (0, 0) t572 x19_3).2), .bool false]) ?_ 2 _ rfl; (with_reducible repeat (first | refine blk_drewN ?_ _ | refine blk_drew ?_ | refine blk_alloc ?_ _)); refine blk_put (cs := #[.int .i64 x19_3, .complex .f64 0 0, .bool false]) ?_ 1 _ rfl; (with_reducible repeat (first | refine blk_drewN ?_ _ | refine blk_drew ?_ | refine blk_alloc ?_ _)); refine blk_put (cs := #[.int .i64 0, .complex .f64 0 0, .bool false]) ?_ 0 _ rfl; (with_reducible repeat (first | refine blk_drewN ?_ _ | refine blk_drew ?_ | refine blk_alloc ?_ _)); exact BK561.out) Try.underlying80 rfl (by kernel_rfl)) rfl ?_
             exact ⟨by first | rfl | (simp [errW_none, errW_some] <;> rfl) | (simp [*, errW_none, errW_some] <;> rfl), by repeat (first | (with_reducible first | exact HB.out | apply below_alloc | apply pw_below_drewN | apply below_drew1 | refine below_set ?_ GE561.out) | exact HB.out)⟩
            ·rw [if_neg c40] at H
             exact absurd H (by simp)
           ·rw [if_neg c39] at H
            exact absurd H (by simp)
 ·rw [if_neg c4] at H
  have c4b0 : (t563 == 0) = false := beq_eq_false_iff_ne.mpr c4
  have c4b1 : (t563 != 0) = true := bne_iff_ne.mpr c4
  simp only [Option.some.injEq, Prod.mk.injEq] at H
  obtain ⟨rfl, rfl, rfl, rfl⟩ := H
  go_enter Try.func52, Try.ntmps52
  go_wp2_with (first | ((with_reducible refine gate_dst (N := 4) rfl ?_); (try (refine gate_guard (by rfl) ?_; dsimp only)); refine box_event ?hg (N := 4) ?hd (cs := #[.int .i64 0, .complex .f64 0 0, .bool false]) (t := 80) ?hr ?_; (case hd => rfl); (case hg => rfl); (case hr => first | (go_simp; done) | (go_simp; rfl)); intro gb561 hg w43 hbox hb; have n0_ := Aside0.mk (below_step (by repeat (first | (with_reducible first | exact HB.out | apply below_alloc | apply pw_below_drewN | apply below_drew1) | exact HB.out)) hb); have n1_ := Aside0.mk (hbox); have n2_ := Aside0.mk ((by rw [hg]; exact (below_size (by repeat (first | (with_reducible first | exact HB.out | apply below_alloc | apply pw_below_drewN | apply below_drew1) | exact HB.out))) : w.heap.size ≤ gb561)); have n3_ := Aside0.mk ((by rw [hg]; exact (below_size (by repeat (first | (with_reducible first | exact HB.out | apply below_alloc | apply pw_below_drewN | apply below_drew1) | exact HB.out))) : w.heap.size ≤ gb561)); clear HB; have HB := n0_; have BK561 := n1_; have GW561 := n2_; have GE561 := n3_; clear n0_ n1_ n2_ n3_; clear hb hbox hg) | ((with_reducible refine gate_callee (f := 65) rfl ?_); refine goesL_ (some 23) rfl rfl Try.func65 (by kernel_rfl) rfl #[.int .i64 a0] rfl (by (try simp only [List.map_toArray, List.map_cons, List.map_nil]); first | done | rfl | (simp only [List.length_drop, List.length_take]; rfl)) ?_; (with_reducible refine (foghornref04_Edge.calls a0 t562 t563 _ A3.out).mono ?_); rintro e w' ⟨rfl, ⟨nd, rfl⟩⟩; refine ⟨_, rfl, ?_⟩; (try (rw [drewN_self w43]; generalize hq_ : World.drewN w43 _ = w43; have n0_ : Aside0 (w43.heap[gb561]? = some (.cells #[.int .i64 0, .complex .f64 0 0, .bool false] 80 (0, 0))) := ⟨by rw [← hq_]; exact (by (with_reducible repeat (first | refine blk_drewN ?_ _ | refine blk_drew ?_ | refine blk_alloc ?_ _)); exact BK561.out)⟩; have n1_ : Aside0 (Below w.heap.size w w43) := ⟨by rw [← hq_]; exact (by repeat (first | (with_reducible first | exact HB.out | apply below_alloc | apply pw_below_drewN | apply below_drew1 | refine below_set ?_ GE561.out) | exact HB.out))⟩; clear BK561 HB hq_; have BK561 := n0_; have HB := n1_; clear n0_ n1_)); have hcz44_0 : w43.cell? ⟨gb561, 0, none⟩ = some (.int .i64 0) := (blk_cell BK561.out 0).trans rfl; have hcz44_1 : w43.cell? ⟨gb561, 1, none⟩ = some (.complex .f64 0 0) := (blk_cell BK561.out 1).trans rfl; have hcz44_2 : w43.cell? ⟨gb561, 2, none⟩ = some (.bool false) := (blk_cell BK561.out 2).trans rfl; have hfz44_0 := blk_frozen BK561.out 0; have hfz44_1 := blk_frozen BK561.out 1; have hfz44_2 := blk_frozen BK561.out 2))
  refine bodyPost_ret (results_ct rfl _ _ gb561 80 #[.int .i64 0, .complex .f64 0 0, .bool false] (0, 0) _ rfl (by (with_reducible repeat (first | refine blk_drewN ?_ _ | refine blk_drew ?_ | refine blk_alloc ?_ _)); refine blk_put (cs := #[.int .i64 0, .complex .f64 0 0, .bool false]) ?_ 2 _ rfl; (with_reducible repeat (first | refine blk_drewN ?_ _ | refine blk_drew ?_ | refine blk_alloc ?_ _)); refine blk_put (cs := #[.int .i64 0, .complex .f64 0 0, .bool false]) ?_ 1 _ rfl; (with_reducible repeat (first | refine blk_drewN ?_ _ | refine blk_drew ?_ | refine blk_alloc ?_ _)); refine blk_put (cs := #[.int .i64 0, .complex .f64 0 0, .bool false]) ?_ 0 _ rfl; (with_reducible repeat (first | refine blk_drewN ?_ _ | refine blk_drew ?_ | refine blk_alloc ?_ _)); exact BK561.out) Try.underlying80 rfl (by kernel_rfl)) rfl ?_
  exact ⟨by first | rfl | (simp [errW_none, errW_some] <;> rfl) | (simp [*, errW_none, errW_some] <;> rfl), by repeat (first | (with_reducible first | exact HB.out | apply below_alloc | apply pw_below_drewN | apply below_drew1 | refine below_set ?_ GE561.out) | exact HB.out)⟩

/-! ### points_Label: function 176 -/
set_option maxHeartbeats 8000000 in
set_option maxRecDepth 100000 in
theorem points_Label.calls (k : Nat) (a0 : Int) (a1 : (Nat × Nat)) (r1 : Int) (r2 : Int) (w : World) (h : points_Label.f k a0 a1 = some (r1, r2)) :
  Calls Try.prog 176 #[.int .i64 a0, .complex .f64 a1.1 a1.2] w fun e w' => e = .returned (.tuple #[.int .i64 r1, .int .i64 r2]) ∧ Below w.heap.size w w' := by
 have HB := Aside0.mk (Below.refl w.heap.size w)
 have H : ((points_All.f a0).bind fun bt583 => (if bt583.2 = 0 then (points_Label.l0 k a1 bt583.1 (bt583.1.length : Int) 0) else (some (0, bt583.2)))) = some (r1, r2) := h
 clear h
 replace H := Option.bind_eq_some_iff.mp H
 obtain ⟨⟨t583, t584⟩, A30, H⟩ := H
 replace H : (if t584 = 0 then (points_Label.l0 k a1 t583 (t583.length : Int) 0) else (some (0, t584))) = some (r1, r2) := H
 have A3 := Aside0.mk A30
 clear A30
 by_cases c4 : t584 = 0
 ·rw [if_pos c4] at H
  have c4b0 : (t584 == 0) = true := beq_iff_eq.mpr c4
  have c4b1 : (t584 != 0) = false := bne_eq_false_iff_eq.mpr c4
  clear c4
  have H' := Aside0.mk H
  clear H
  go_enter Try.func176, Try.ntmps176
  go_wp2_with (first | ((with_reducible refine gate_callee (f := 56) rfl ?_); refine goesL_ (some 12) rfl rfl Try.func56 (by kernel_rfl) rfl #[.int .i64 a0] rfl (by (try simp only [List.map_toArray, List.map_cons, List.map_nil]); first | done | rfl | (simp only [List.length_drop, List.length_take]; rfl)) ?_; (with_reducible refine (points_All.calls a0 t583 t584 _ A3.out).mono ?_); rintro e w5 ⟨v585, rfl, ho0, hb⟩; refine ⟨_, rfl, ?_⟩; have n0_ := Aside0.mk (Kd.R_lower ho0 (below_size (by repeat (first | (with_reducible first | exact HB.out | apply below_alloc | apply pw_below_drewN | apply below_drew1) | exact HB.out)))); have n1_ := Aside0.mk (below_step (by repeat (first | (with_reducible first | exact HB.out | apply below_alloc | apply pw_below_drewN | apply below_drew1) | exact HB.out)) hb); clear HB; have HO586 := n0_; have HB := n1_; clear n0_ n1_; (try clear hb); (try clear hb2); (try clear hk); (try clear hi); (try clear ho0); obtain ⟨Ao6, co6, eo6⟩ := Kd.R_slice HO586.out; subst eo6))
  go_loopg [20] k (fun kq v20 w' => ∃ (x20_1 : Int), v20 = .int .i64 x20_1 ∧ Aside0 (points_Label.l0 kq a1 t583 (t583.length : Int) x20_1 = some (r1, r2)) ∧ Aside0 (kq ≤ k) ∧ Aside0 (Kd.R Kd.cplx 32 w' w.heap.size (fun _ => True) (.slice Ao6 t583.length co6) t583) ∧ Aside0 (Below w.heap.size w w'))
  case atStart => exact ⟨(0), (by first | rfl | (simp; done) | (simp [*]; done)), H', ⟨Nat.le_refl _⟩, ⟨by (with_reducible repeat (first | apply Kd.R_alloc | apply Kd.R_drewN | apply Kd.R_drew)); exact HO586.out⟩, ⟨by repeat (first | (with_reducible first | exact HB.out | apply below_alloc | apply pw_below_drewN | apply below_drew1) | exact HB.out)⟩⟩
  case round =>
   clear H'
   try clear c1
   try clear p2
   try clear c4
   try clear c4b0
   try clear c4b1
   try clear c5
   obtain ⟨x20_1, rfl, HA, HK1, HO_18, HB⟩ := hrel
   cases gk with
   | zero => exact absurd HA.out (by simp [points_Label.l0])
   | succ k1 =>
    have H := HA.out
    clear HA
    simp only [points_Label.l0] at H
    by_cases c7 : x20_1 < (t583.length : Int)
    ·rw [if_pos c7] at H
     have c7b0 : decide (x20_1 < (t583.length : Int)) = true := decide_eq_true c7
     clear c7
     by_cases c8 : 0 ≤ x20_1
     ·rw [if_pos c8] at H
      have c8b0 : decide (0 ≤ x20_1) = true := decide_eq_true c8
      clear c8
      by_cases c9 : x20_1 < (t583.length : Int)
      ·rw [if_pos c9] at H
       have c9b0 : decide (x20_1 < (t583.length : Int)) = true := decide_eq_true c9
       clear c9
       by_cases c10 : ((FloatKind.f64.format.order ((rdOf (0, 0) t583 x20_1).1) a1.1 == some .eq) && (FloatKind.f64.format.order ((rdOf (0, 0) t583 x20_1).2) a1.2 == some .eq)) = true
       ·rw [if_pos c10] at H
        have c10b0 : ((FloatKind.f64.format.order ((rdOf (0, 0) t583 x20_1).1) a1.1 == some .eq) && (FloatKind.f64.format.order ((rdOf (0, 0) t583 x20_1).2) a1.2 == some .eq)) = true := c10
        clear c10
        simp only [Option.some.injEq, Prod.mk.injEq] at H
        obtain ⟨rfl, rfl⟩ := H
        have p587 : 0 ≤ (x20_1 : Int) := of_decide_eq_true (by first | (with_reducible assumption) | assumption)
        have q587 : x20_1 < (t583.length : Int) := of_decide_eq_true (by first | (with_reducible assumption) | assumption)
        obtain ⟨ad587, e587, hx587_0⟩ := Kd.at_cplx (Kd.R_reads' HO_18.out).2.2 x20_1 p587 q587
        cases e587
        replace p587 := eq_true p587
        replace q587 := eq_true q587
        go_wp2
        go_ret2
        exact ⟨by first | rfl | (simp [errW_none, errW_some] <;> rfl) | (simp [*, errW_none, errW_some] <;> rfl), by repeat (first | (with_reducible first | exact HB.out | apply below_alloc | apply pw_below_drewN | apply below_drew1) | exact HB.out)⟩
       ·rw [if_neg c10] at H
        have c10b0 : ((FloatKind.f64.format.order ((rdOf (0, 0) t583 x20_1).1) a1.1 == some .eq) && (FloatKind.f64.format.order ((rdOf (0, 0) t583 x20_1).2) a1.2 == some .eq)) = false := by simpa using c10
        clear c10
        have H' := Aside0.mk H
        clear H
        have p587 : 0 ≤ (x20_1 : Int) := of_decide_eq_true (by first | (with_reducible assumption) | assumption)
        have q587 : x20_1 < (t583.length : Int) := of_decide_eq_true (by first | (with_reducible assumption) | assumption)
        obtain ⟨ad587, e587, hx587_0⟩ := Kd.at_cplx (Kd.R_reads' HO_18.out).2.2 x20_1 p587 q587
        cases e587
        replace p587 := eq_true p587
        replace q587 := eq_true q587
        go_wp2
        first | go_roundg k1 | (simp only [add_plain] at *; go_roundg k1)
        case measure => have := HK1.out; omega
        case rel => exact ⟨(wrap64 (x20_1 + 1)), (by first | rfl | (simp; done) | (simp [*]; done)), H', ⟨by have := HK1.out; omega⟩, ⟨by (with_reducible repeat (first | apply Kd.R_alloc | apply Kd.R_drewN | apply Kd.R_drew)); exact HO_18.out⟩, ⟨by repeat (first | (with_reducible first | exact HB.out | apply below_alloc | apply pw_below_drewN | apply below_drew1) | exact HB.out)⟩⟩
      ·rw [if_neg c9] at H
       exact absurd H (by simp)
     ·rw [if_neg c8] at H
      exact absurd H (by simp)
    ·rw [if_neg c7] at H
     have c7b0 : decide (x20_1 < (t583.length : Int)) = false := decide_eq_false c7
     clear c7
     simp only [Option.some.injEq, Prod.mk.injEq] at H
     obtain ⟨rfl, rfl⟩ := H
     go_wp2
     go_ret2
     exact ⟨by first | rfl | (simp [errW_none, errW_some] <;> rfl) | (simp [*, errW_none, errW_some] <;> rfl), by repeat (first | (with_reducible first | exact HB.out | apply below_alloc | apply pw_below_drewN | apply below_drew1) | exact HB.out)⟩
 ·rw [if_neg c4] at H
  have c4b0 : (t584 == 0) = false := beq_eq_false_iff_ne.mpr c4
  have c4b1 : (t584 != 0) = true := bne_iff_ne.mpr c4
  simp only [Option.some.injEq, Prod.mk.injEq] at H
  obtain ⟨rfl, rfl⟩ := H
  go_enter Try.func176, Try.ntmps176
  go_wp2_with (first | ((with_reducible refine gate_callee (f := 56) rfl ?_); refine goesL_ (some 12) rfl rfl Try.func56 (by kernel_rfl) rfl #[.int .i64 a0] rfl (by (try simp only [List.map_toArray, List.map_cons, List.map_nil]); first | done | rfl | (simp only [List.length_drop, List.length_take]; rfl)) ?_; (with_reducible refine (points_All.calls a0 t583 t584 _ A3.out).mono ?_); rintro e w11 ⟨v585, rfl, ho0, hb⟩; refine ⟨_, rfl, ?_⟩; have n0_ := Aside0.mk (Kd.R_lower ho0 (below_size (by repeat (first | (with_reducible first | exact HB.out | apply below_alloc | apply pw_below_drewN | apply below_drew1) | exact HB.out)))); have n1_ := Aside0.mk (below_step (by repeat (first | (with_reducible first | exact HB.out | apply below_alloc | apply pw_below_drewN | apply below_drew1) | exact HB.out)) hb); clear HB; have HO586 := n0_; have HB := n1_; clear n0_ n1_; (try clear hb); (try clear hb2); (try clear hk); (try clear hi); (try clear ho0)))
  go_ret2
  exact ⟨by first | rfl | (simp [errW_none, errW_some] <;> rfl) | (simp [*, errW_none, errW_some] <;> rfl), by repeat (first | (with_reducible first | exact HB.out | apply below_alloc | apply pw_below_drewN | apply below_drew1) | exact HB.out)⟩

/-! ### slice_axes: function 166 -/
set_option maxHeartbeats 8000000 in
set_option maxRecDepth 100000 in
theorem slice_axes.calls (k : Nat) (a0 : Int) (a1 : Int) (a2 : (Nat × Nat)) (r1 : Int) (r2 : (Nat × Nat)) (r3 : Bool) (w : World) (h : slice_axes.f k a0 a1 a2 = some (r1, r2, r3)) :
  Calls Try.prog 166 #[.int .i64 a0, .int .i64 a1, .complex .f64 a2.1 a2.2] w fun e w' => e = .returned (.agg #[.int .i64 r1, .complex .f64 r2.1 r2.2, .bool r3]) ∧ Below w.heap.size w w' := by
 have hu83 := Try.underlying83
 have HB := Aside0.mk (Below.refl w.heap.size w)
 have H : ((slice_Axis.f k a2.1 a1).bind fun bt589 => ((slice_Axis.f k a2.2 a1).bind fun bt591 => ((points_Label.f k a0 (floatOfInt .f64 bt589.1, floatOfInt .f64 bt591.1)).bind fun bt593 => (some (bt593.1, (floatOfInt .f64 bt589.1, floatOfInt .f64 bt591.1), false))))) = some (r1, r2, r3) := h
 clear h
 replace H := Option.bind_eq_some_iff.mp H
 obtain ⟨⟨t589, t590⟩, A40, H⟩ := H
 replace H : ((slice_Axis.f k a2.2 a1).bind fun bt591 => ((points_Label.f k a0 (floatOfInt .f64 t589, floatOfInt .f64 bt591.1)).bind fun bt593 => (some (bt593.1, (floatOfInt .f64 t589, floatOfInt .f64 bt591.1), false)))) = some (r1, r2, r3) := H
 have A4 := Aside0.mk A40
 clear A40
 replace H := Option.bind_eq_some_iff.mp H
 obtain ⟨⟨t591, t592⟩, A50, H⟩ := H
 replace H : ((points_Label.f k a0 (floatOfInt .f64 t589, floatOfInt .f64 t591)).bind fun bt593 => (some (bt593.1, (floatOfInt .f64 t589, floatOfInt .f64 t591), false))) = some (r1, r2, r3) := H
 have A5 := Aside0.mk A50
 clear A50
 replace H := Option.bind_eq_some_iff.mp H
 obtain ⟨⟨t593, t594⟩, A60, H⟩ := H
 replace H : (some (t593, (floatOfInt .f64 t589, floatOfInt .f64 t591), false)) = some (r1, r2, r3) := H
 have A6 := Aside0.mk A60
 clear A60
 simp only [Option.some.injEq, Prod.mk.injEq] at H
 obtain ⟨rfl, rfl, rfl⟩ := H
 go_enter Try.func166, Try.ntmps166
 go_wp2_with (first | ((with_reducible refine gate_dst (N := 6) rfl ?_); refine box_event ?hg (N := 6) ?hd (cs := #[.int .i64 0, .complex .f64 0 0, .bool false]) (t := 83) ?hr ?_; (case hd => rfl); (case hg => rfl); (case hr => first | (go_simp; done) | (go_simp; rfl)); intro gb588 hg w7 hbox hb; have n0_ := Aside0.mk (below_step (by repeat (first | (with_reducible first | exact HB.out | apply below_alloc | apply pw_below_drewN | apply below_drew1) | exact HB.out)) hb); have n1_ := Aside0.mk (hbox); have n2_ := Aside0.mk ((by rw [hg]; exact (below_size (by repeat (first | (with_reducible first | exact HB.out | apply below_alloc | apply pw_below_drewN | apply below_drew1) | exact HB.out))) : w.heap.size ≤ gb588)); have n3_ := Aside0.mk ((by rw [hg]; exact (below_size (by repeat (first | (with_reducible first | exact HB.out | apply below_alloc | apply pw_below_drewN | apply below_drew1) | exact HB.out))) : w.heap.size ≤ gb588)); clear HB; have HB := n0_; have BK588 := n1_; have GW588 := n2_; have GE588 := n3_; clear n0_ n1_ n2_ n3_; clear hb hbox hg) | ((with_reducible refine gate_callee (f := 47) rfl ?_); refine goesL_ (some 18) rfl rfl Try.func47 (by kernel_rfl) rfl #[.float .f64 a2.1, .int .i64 a1] rfl (by (try simp only [List.map_toArray, List.map_cons, List.map_nil]); first | done | rfl | (simp only [List.length_drop, List.length_take]; rfl)) ?_; (with_reducible refine (slice_Axis.calls k a2.1 a1 t589 t590 _ A4.out).mono ?_); rintro e w8 ⟨rfl, hb⟩; refine ⟨_, rfl, ?_⟩; have n0_ := Aside0.mk (blk_below (g := gb588) (o := .cells #[.int .i64 0, .complex .f64 0 0, .bool false] 83 (0, 0)) (by (with_reducible repeat (first | refine blk_drewN ?_ _ | refine blk_drew ?_ | refine blk_alloc ?_ _)); exact BK588.out) hb); have n1_ := Aside0.mk (below_step (by repeat (first | (with_reducible first | exact HB.out | apply below_alloc | apply pw_below_drewN | apply below_drew1 | refine below_set ?_ GE588.out) | exact HB.out)) hb); clear BK588; clear HB; have BK588 := n0_; have HB := n1_; clear n0_ n1_; (try clear hb); (try clear hb2); (try clear hk); (try clear hi)) | ((with_reducible refine gate_callee (f := 47) rfl ?_); refine goesL_ (some 25) rfl rfl Try.func47 (by kernel_rfl) rfl #[.float .f64 a2.2, .int .i64 a1] rfl (by (try simp only [List.map_toArray, List.map_cons, List.map_nil]); first | done | rfl | (simp only [List.length_drop, List.length_take]; rfl)) ?_; (with_reducible refine (slice_Axis.calls k a2.2 a1 t591 t592 _ A5.out).mono ?_); rintro e w9 ⟨rfl, hb⟩; refine ⟨_, rfl, ?_⟩; have n0_ := Aside0.mk (blk_below (g := gb588) (o := .cells #[.int .i64 0, .complex .f64 0 0, .bool false] 83 (0, 0)) (by (with_reducible repeat (first | refine blk_drewN ?_ _ | refine blk_drew ?_ | refine blk_alloc ?_ _)); exact BK588.out) hb); have n1_ := Aside0.mk (below_step (by repeat (first | (with_reducible first | exact HB.out | apply below_alloc | apply pw_below_drewN | apply below_drew1 | refine below_set ?_ GE588.out) | exact HB.out)) hb); clear BK588; clear HB; have BK588 := n0_; have HB := n1_; clear n0_ n1_; (try clear hb); (try clear hb2); (try clear hk); (try clear hi)) | ((with_reducible refine gate_callee (f := 176) rfl ?_); refine goesL_ (some 36) rfl rfl Try.func176 (by kernel_rfl) rfl #[.int .i64 a0, .complex .f64 (floatOfInt .f64 t589) (floatOfInt .f64 t591)] rfl (by (try simp only [List.map_toArray, List.map_cons, List.map_nil]); first | done | rfl | (simp only [List.length_drop, List.length_take]; rfl)) ?_; (with_reducible refine (points_Label.calls k a0 (floatOfInt .f64 t589, floatOfInt .f64 t591) t593 t594 _ A6.out).mono ?_); rintro e w10 ⟨rfl, hb⟩; refine ⟨_, rfl, ?_⟩; have n0_ := Aside0.mk (blk_below (g := gb588) (o := .cells #[.int .i64 0, .complex .f64 0 0, .bool false] 83 (0, 0)) (by (with_reducible repeat (first | refine blk_drewN ?_ _ | refine blk_drew ?_ | refine blk_alloc ?_ _)); exact BK588.out) hb); have n1_ := Aside0.mk (below_step (by repeat (first | (with_reducible first | exact HB.out | apply below_alloc | apply pw_below_drewN | apply below_drew1 | refine below_set ?_ GE588.out) | exact HB.out)) hb); clear BK588; clear HB; have BK588 := n0_; have HB := n1_; clear n0_ n1_; (try clear hb); (try clear hb2); (try clear hk); (try clear hi); have hcz11_0 : w10.cell? ⟨gb588, 0, none⟩ = some (.int .i64 0) := (blk_cell BK588.out 0).trans rfl; have hcz11_1 : w10.cell? ⟨gb588, 1, none⟩ = some (.complex .f64 0 0) := (blk_cell BK588.out 1).trans rfl; have hcz11_2 : w10.cell? ⟨gb588, 2, none⟩ = some (.bool false) := (blk_cell BK588.out 2).trans rfl; have hfz11_0 := blk_frozen BK588.out 0; have hfz11_1 := blk_frozen BK588.out 1; have hfz11_2 := blk_frozen BK588.out 2))
 refine bodyPost_ret (results_cell_row rfl _ _ gb588 83 #[.int .i64 t593, .complex .f64 (floatOfInt .f64 t589) (floatOfInt .f64 t591), .bool false] (0, 0) _ rfl (by (with_reducible repeat (first | refine blk_drewN ?_ _ | refine blk_drew ?_ | refine blk_alloc ?_ _)); refine blk_put (cs := #[.int .i64 t593, .complex .f64 (floatOfInt .f64 t589) (floatOfInt .f64 t591), .bool false]) ?_ 2 _ rfl; (with_reducible repeat (first | refine blk_drewN ?_ _ | refine blk_drew ?_ | refine blk_alloc ?_ _)); refine blk_put (cs := #[.int .i64 t593, .complex .f64 0 0, .bool false]) ?_ 1 _ rfl; (with_reducible repeat (first | refine blk_drewN ?_ _ | refine blk_drew ?_ | refine blk_alloc ?_ _)); refine blk_put (cs := #[.int .i64 0, .complex .f64 0 0, .bool false]) ?_ 0 _ rfl; (with_reducible repeat (first | refine blk_drewN ?_ _ | refine blk_drew ?_ | refine blk_alloc ?_ _)); exact BK588.out) Try.underlying83 rfl (by kernel_rfl)) rfl ?_
 exact ⟨by first | rfl | (simp [errW_none, errW_some] <;> rfl) | (simp [*, errW_none, errW_some] <;> rfl), by repeat (first | (with_reducible first | exact HB.out | apply below_alloc | apply pw_below_drewN | apply below_drew1 | refine below_set ?_ GE588.out) | exact HB.out)⟩

end Go.Proofs.Ythfcafllcgjepaa.Q
