-- Printed by myprint.py (ours) over the kit's printer, out of the translation.
import Derived.Test.YthfcafllcgjepaaSliceNearK0
import Derived.Test.YthfcafllcgjepaaSliceNearF0
import Derived.Test.YthfcafllcgjepaaSliceNearE0
import Derived.Test.YthfcafllcgjepaaSliceNearQ2
import Derived.Test.YthfcafllcgjepaaSliceNearQ3
namespace Go.Proofs.Ythfcafllcgjepaa.Q
open Go.RowKit Go.Proofs.YthfcafllcgjepaaW.PrintWords Go.Proofs.YthfcafllcgjepaaW.PrintLast Go.Proofs.YthfcafllcgjepaaW.PrintMore
attribute [local go_sem] ArrW.ptrOf_slice unary_neg_float unary_neg_complex run_store_float run_store_complex max2_int min2_int max_two min_two max_three min_three max_four min_four   -- for this text's walks alone
set_option linter.unusedVariables false
set_option linter.unusedSimpArgs false

attribute [local go_sem high] eqA83
/-! ### foghornlaw05_SliceNear: function 10 -/
set_option maxHeartbeats 8000000 in
set_option maxRecDepth 100000 in
theorem foghornlaw05_SliceNear.calls (k : Nat) (a0 : Int) (a1 : Int) (a2 : Int) (a3 : Int) (r : Bool) (w : World) (h : foghornlaw05_SliceNear.f k a0 a1 a2 a3 = some r) (hq_ : r = true) :
  Calls Try.prog 10 #[.int .i64 a0, .int .i64 a1, .int .i16 a2, .int .i16 a3] w fun e w' => e = .returned (.bool r) ∧ Below w.heap.size w w' := by
 have HQ_ := Aside0.mk hq_
 clear hq_
 have hu83 := Try.underlying83
 have HB := Aside0.mk (Below.refl w.heap.size w)
 have H : ((foghornlaw05_awake.f k).bind fun t712 => (if t712 = true then ((foghornlaw05_size.f a0).bind fun t713 => (if t713 = 0 then (none) else ((foghornref04_At.f k t713 (Int.tmod (wrap64 ((Int.tmod a1 t713) + t713)) t713)).bind fun bt714 => (if bt714.2 = 0 then ((floatBits .quo .f64 (floatOfInt .f64 (Int.tmod (wrap64 (a2)) 16384)) 4670232813583204352).bind fun t716 => ((floatBits .quo .f64 (floatOfInt .f64 (Int.tmod (wrap64 (a3)) 16384)) 4670232813583204352).bind fun t717 => ((floatBits .add .f64 bt714.1.1 t716).bind fun t718 => ((floatBits .add .f64 bt714.1.2 t717).bind fun t719 => ((slice_Decide.f k t713 (t718, t719)).bind fun bt720 => ((slice_Decide.f k t713 bt720.2.1).bind fun bt725 => (if bt720.2.2.2 = 0 then (if bt725.2.2.2 = 0 then (if bt720.1 = (Int.tmod (wrap64 ((Int.tmod a1 t713) + t713)) t713) then (if ((FloatKind.f64.format.order bt720.2.1.1 bt714.1.1 == some .eq) && (FloatKind.f64.format.order bt720.2.1.2 bt714.1.2 == some .eq)) = true then (if bt720.2.2.1 = true then (some false) else (some (bt725.1 == bt720.1 && (((FloatKind.f64.format.order bt725.2.1.1 bt720.2.1.1 == some .eq) && (FloatKind.f64.format.order bt725.2.1.2 bt720.2.1.2 == some .eq)) && (bt725.2.2.1 == bt720.2.2.1))))) else (some false)) else (some false)) else (some false)) else (some false)))))))) else (some false))))) else (some false))) = some r := h
 clear h
 replace H := Option.bind_eq_some_iff.mp H
 obtain ⟨t712, A50, H⟩ := H
 replace H : (if t712 = true then ((foghornlaw05_size.f a0).bind fun t713 => (if t713 = 0 then (none) else ((foghornref04_At.f k t713 (Int.tmod (wrap64 ((Int.tmod a1 t713) + t713)) t713)).bind fun bt714 => (if bt714.2 = 0 then ((floatBits .quo .f64 (floatOfInt .f64 (Int.tmod (wrap64 (a2)) 16384)) 4670232813583204352).bind fun t716 => ((floatBits .quo .f64 (floatOfInt .f64 (Int.tmod (wrap64 (a3)) 16384)) 4670232813583204352).bind fun t717 => ((floatBits .add .f64 bt714.1.1 t716).bind fun t718 => ((floatBits .add .f64 bt714.1.2 t717).bind fun t719 => ((slice_Decide.f k t713 (t718, t719)).bind fun bt720 => ((slice_Decide.f k t713 bt720.2.1).bind fun bt725 => (if bt720.2.2.2 = 0 then (if bt725.2.2.2 = 0 then (if bt720.1 = (Int.tmod (wrap64 ((Int.tmod a1 t713) + t713)) t713) then (if ((FloatKind.f64.format.order bt720.2.1.1 bt714.1.1 == some .eq) && (FloatKind.f64.format.order bt720.2.1.2 bt714.1.2 == some .eq)) = true then (if bt720.2.2.1 = true then (some false) else (some (bt725.1 == bt720.1 && (((FloatKind.f64.format.order bt725.2.1.1 bt720.2.1.1 == some .eq) && (FloatKind.f64.format.order bt725.2.1.2 bt720.2.1.2 == some .eq)) && (bt725.2.2.1 == bt720.2.2.1))))) else (some false)) else (some false)) else (some false)) else (some false)))))))) else (some false))))) else (some false)) = some r := H
 have A5 := Aside0.mk A50
 clear A50
 by_cases c6 : t712 = true
 ·subst c6
  have H1 : ((foghornlaw05_size.f a0).bind fun t713 => (if t713 = 0 then (none) else ((foghornref04_At.f k t713 (Int.tmod (wrap64 ((Int.tmod a1 t713) + t713)) t713)).bind fun bt714 => (if bt714.2 = 0 then ((floatBits .quo .f64 (floatOfInt .f64 (Int.tmod (wrap64 (a2)) 16384)) 4670232813583204352).bind fun t716 => ((floatBits .quo .f64 (floatOfInt .f64 (Int.tmod (wrap64 (a3)) 16384)) 4670232813583204352).bind fun t717 => ((floatBits .add .f64 bt714.1.1 t716).bind fun t718 => ((floatBits .add .f64 bt714.1.2 t717).bind fun t719 => ((slice_Decide.f k t713 (t718, t719)).bind fun bt720 => ((slice_Decide.f k t713 bt720.2.1).bind fun bt725 => (if bt720.2.2.2 = 0 then (if bt725.2.2.2 = 0 then (if bt720.1 = (Int.tmod (wrap64 ((Int.tmod a1 t713) + t713)) t713) then (if ((FloatKind.f64.format.order bt720.2.1.1 bt714.1.1 == some .eq) && (FloatKind.f64.format.order bt720.2.1.2 bt714.1.2 == some .eq)) = true then (if bt720.2.2.1 = true then (some false) else (some (bt725.1 == bt720.1 && (((FloatKind.f64.format.order bt725.2.1.1 bt720.2.1.1 == some .eq) && (FloatKind.f64.format.order bt725.2.1.2 bt720.2.1.2 == some .eq)) && (bt725.2.2.1 == bt720.2.2.1))))) else (some false)) else (some false)) else (some false)) else (some false)))))))) else (some false))))) = some r := by rw [if_pos rfl] at H; exact H
  clear H
  have H := H1
  clear H1
  replace H := Option.bind_eq_some_iff.mp H
  obtain ⟨t713, A70, H⟩ := H
  replace H : (if t713 = 0 then (none) else ((foghornref04_At.f k t713 (Int.tmod (wrap64 ((Int.tmod a1 t713) + t713)) t713)).bind fun bt714 => (if bt714.2 = 0 then ((floatBits .quo .f64 (floatOfInt .f64 (Int.tmod (wrap64 (a2)) 16384)) 4670232813583204352).bind fun t716 => ((floatBits .quo .f64 (floatOfInt .f64 (Int.tmod (wrap64 (a3)) 16384)) 4670232813583204352).bind fun t717 => ((floatBits .add .f64 bt714.1.1 t716).bind fun t718 => ((floatBits .add .f64 bt714.1.2 t717).bind fun t719 => ((slice_Decide.f k t713 (t718, t719)).bind fun bt720 => ((slice_Decide.f k t713 bt720.2.1).bind fun bt725 => (if bt720.2.2.2 = 0 then (if bt725.2.2.2 = 0 then (if bt720.1 = (Int.tmod (wrap64 ((Int.tmod a1 t713) + t713)) t713) then (if ((FloatKind.f64.format.order bt720.2.1.1 bt714.1.1 == some .eq) && (FloatKind.f64.format.order bt720.2.1.2 bt714.1.2 == some .eq)) = true then (if bt720.2.2.1 = true then (some false) else (some (bt725.1 == bt720.1 && (((FloatKind.f64.format.order bt725.2.1.1 bt720.2.1.1 == some .eq) && (FloatKind.f64.format.order bt725.2.1.2 bt720.2.1.2 == some .eq)) && (bt725.2.2.1 == bt720.2.2.1))))) else (some false)) else (some false)) else (some false)) else (some false)))))))) else (some false)))) = some r := H
  have A7 := Aside0.mk A70
  clear A70
  by_cases c8 : t713 = 0
  ·rw [if_pos c8] at H
   exact absurd H (by simp)
  ·rw [if_neg c8] at H
   have c8b0 : (t713 == 0) = false := beq_eq_false_iff_ne.mpr c8
   have c8b1 : (t713 != 0) = true := bne_iff_ne.mpr c8
   replace H := Option.bind_eq_some_iff.mp H
   obtain ⟨⟨t714, t715⟩, A90, H⟩ := H
   replace H : (if t715 = 0 then ((floatBits .quo .f64 (floatOfInt .f64 (Int.tmod (wrap64 (a2)) 16384)) 4670232813583204352).bind fun t716 => ((floatBits .quo .f64 (floatOfInt .f64 (Int.tmod (wrap64 (a3)) 16384)) 4670232813583204352).bind fun t717 => ((floatBits .add .f64 t714.1 t716).bind fun t718 => ((floatBits .add .f64 t714.2 t717).bind fun t719 => ((slice_Decide.f k t713 (t718, t719)).bind fun bt720 => ((slice_Decide.f k t713 bt720.2.1).bind fun bt725 => (if bt720.2.2.2 = 0 then (if bt725.2.2.2 = 0 then (if bt720.1 = (Int.tmod (wrap64 ((Int.tmod a1 t713) + t713)) t713) then (if ((FloatKind.f64.format.order bt720.2.1.1 t714.1 == some .eq) && (FloatKind.f64.format.order bt720.2.1.2 t714.2 == some .eq)) = true then (if bt720.2.2.1 = true then (some false) else (some (bt725.1 == bt720.1 && (((FloatKind.f64.format.order bt725.2.1.1 bt720.2.1.1 == some .eq) && (FloatKind.f64.format.order bt725.2.1.2 bt720.2.1.2 == some .eq)) && (bt725.2.2.1 == bt720.2.2.1))))) else (some false)) else (some false)) else (some false)) else (some false)))))))) else (some false)) = some r := H
   have A9 := Aside0.mk A90
   clear A90
   by_cases c10 : t715 = 0
   ·rw [if_pos c10] at H
    have c10b0 : (t715 == 0) = true := beq_iff_eq.mpr c10
    have c10b1 : (t715 != 0) = false := bne_eq_false_iff_eq.mpr c10
    clear c10
    replace H := Option.bind_eq_some_iff.mp H
    obtain ⟨t716, A110, H⟩ := H
    replace H : ((floatBits .quo .f64 (floatOfInt .f64 (Int.tmod (wrap64 (a3)) 16384)) 4670232813583204352).bind fun t717 => ((floatBits .add .f64 t714.1 t716).bind fun t718 => ((floatBits .add .f64 t714.2 t717).bind fun t719 => ((slice_Decide.f k t713 (t718, t719)).bind fun bt720 => ((slice_Decide.f k t713 bt720.2.1).bind fun bt725 => (if bt720.2.2.2 = 0 then (if bt725.2.2.2 = 0 then (if bt720.1 = (Int.tmod (wrap64 ((Int.tmod a1 t713) + t713)) t713) then (if ((FloatKind.f64.format.order bt720.2.1.1 t714.1 == some .eq) && (FloatKind.f64.format.order bt720.2.1.2 t714.2 == some .eq)) = true then (if bt720.2.2.1 = true then (some false) else (some (bt725.1 == bt720.1 && (((FloatKind.f64.format.order bt725.2.1.1 bt720.2.1.1 == some .eq) && (FloatKind.f64.format.order bt725.2.1.2 bt720.2.1.2 == some .eq)) && (bt725.2.2.1 == bt720.2.2.1))))) else (some false)) else (some false)) else (some false)) else (some false))))))) = some r := H
    have A11 := Aside0.mk A110
    clear A110
    replace H := Option.bind_eq_some_iff.mp H
    obtain ⟨t717, A120, H⟩ := H
    replace H : ((floatBits .add .f64 t714.1 t716).bind fun t718 => ((floatBits .add .f64 t714.2 t717).bind fun t719 => ((slice_Decide.f k t713 (t718, t719)).bind fun bt720 => ((slice_Decide.f k t713 bt720.2.1).bind fun bt725 => (if bt720.2.2.2 = 0 then (if bt725.2.2.2 = 0 then (if bt720.1 = (Int.tmod (wrap64 ((Int.tmod a1 t713) + t713)) t713) then (if ((FloatKind.f64.format.order bt720.2.1.1 t714.1 == some .eq) && (FloatKind.f64.format.order bt720.2.1.2 t714.2 == some .eq)) = true then (if bt720.2.2.1 = true then (some false) else (some (bt725.1 == bt720.1 && (((FloatKind.f64.format.order bt725.2.1.1 bt720.2.1.1 == some .eq) && (FloatKind.f64.format.order bt725.2.1.2 bt720.2.1.2 == some .eq)) && (bt725.2.2.1 == bt720.2.2.1))))) else (some false)) else (some false)) else (some false)) else (some false)))))) = some r := H
    have A12 := Aside0.mk A120
    clear A120
    replace H := Option.bind_eq_some_iff.mp H
    obtain ⟨t718, A130, H⟩ := H
    replace H : ((floatBits .add .f64 t714.2 t717).bind fun t719 => ((slice_Decide.f k t713 (t718, t719)).bind fun bt720 => ((slice_Decide.f k t713 bt720.2.1).bind fun bt725 => (if bt720.2.2.2 = 0 then (if bt725.2.2.2 = 0 then (if bt720.1 = (Int.tmod (wrap64 ((Int.tmod a1 t713) + t713)) t713) then (if ((FloatKind.f64.format.order bt720.2.1.1 t714.1 == some .eq) && (FloatKind.f64.format.order bt720.2.1.2 t714.2 == some .eq)) = true then (if bt720.2.2.1 = true then (some false) else (some (bt725.1 == bt720.1 && (((FloatKind.f64.format.order bt725.2.1.1 bt720.2.1.1 == some .eq) && (FloatKind.f64.format.order bt725.2.1.2 bt720.2.1.2 == some .eq)) && (bt725.2.2.1 == bt720.2.2.1))))) else (some false)) else (some false)) else (some false)) else (some false))))) = some r := H
    have A13 := Aside0.mk A130
    clear A130
    replace H := Option.bind_eq_some_iff.mp H
    obtain ⟨t719, A140, H⟩ := H
    replace H : ((slice_Decide.f k t713 (t718, t719)).bind fun bt720 => ((slice_Decide.f k t713 bt720.2.1).bind fun bt725 => (if bt720.2.2.2 = 0 then (if bt725.2.2.2 = 0 then (if bt720.1 = (Int.tmod (wrap64 ((Int.tmod a1 t713) + t713)) t713) then (if ((FloatKind.f64.format.order bt720.2.1.1 t714.1 == some .eq) && (FloatKind.f64.format.order bt720.2.1.2 t714.2 == some .eq)) = true then (if bt720.2.2.1 = true then (some false) else (some (bt725.1 == bt720.1 && (((FloatKind.f64.format.order bt725.2.1.1 bt720.2.1.1 == some .eq) && (FloatKind.f64.format.order bt725.2.1.2 bt720.2.1.2 == some .eq)) && (bt725.2.2.1 == bt720.2.2.1))))) else (some false)) else (some false)) else (some false)) else (some false)))) = some r := H
    have A14 := Aside0.mk A140
    clear A140
    replace H := Option.bind_eq_some_iff.mp H
    obtain ⟨⟨t720, t721, t722, t723⟩, A150, H⟩ := H
    replace H : ((slice_Decide.f k t713 t721).bind fun bt725 => (if t723 = 0 then (if bt725.2.2.2 = 0 then (if t720 = (Int.tmod (wrap64 ((Int.tmod a1 t713) + t713)) t713) then (if ((FloatKind.f64.format.order t721.1 t714.1 == some .eq) && (FloatKind.f64.format.order t721.2 t714.2 == some .eq)) = true then (if t722 = true then (some false) else (some (bt725.1 == t720 && (((FloatKind.f64.format.order bt725.2.1.1 t721.1 == some .eq) && (FloatKind.f64.format.order bt725.2.1.2 t721.2 == some .eq)) && (bt725.2.2.1 == t722))))) else (some false)) else (some false)) else (some false)) else (some false))) = some r := H
    have A15 := Aside0.mk A150
    clear A150
    replace H := Option.bind_eq_some_iff.mp H
    obtain ⟨⟨t725, t726, t727, t728⟩, A160, H⟩ := H
    replace H : (if t723 = 0 then (if t728 = 0 then (if t720 = (Int.tmod (wrap64 ((Int.tmod a1 t713) + t713)) t713) then (if ((FloatKind.f64.format.order t721.1 t714.1 == some .eq) && (FloatKind.f64.format.order t721.2 t714.2 == some .eq)) = true then (if t722 = true then (some false) else (some (t725 == t720 && (((FloatKind.f64.format.order t726.1 t721.1 == some .eq) && (FloatKind.f64.format.order t726.2 t721.2 == some .eq)) && (t727 == t722))))) else (some false)) else (some false)) else (some false)) else (some false)) = some r := H
    have A16 := Aside0.mk A160
    clear A160
    by_cases c17 : t723 = 0
    ·rw [if_pos c17] at H
     have c17b0 : (t723 == 0) = true := beq_iff_eq.mpr c17
     have c17b1 : (t723 != 0) = false := bne_eq_false_iff_eq.mpr c17
     clear c17
     by_cases c18 : t728 = 0
     ·rw [if_pos c18] at H
      have c18b0 : (t728 == 0) = true := beq_iff_eq.mpr c18
      have c18b1 : (t728 != 0) = false := bne_eq_false_iff_eq.mpr c18
      clear c18
      by_cases c19 : t720 = (Int.tmod (wrap64 ((Int.tmod a1 t713) + t713)) t713)
      ·rw [if_pos c19] at H
       have c19b0 : (t720 == (Int.tmod (wrap64 ((Int.tmod a1 t713) + t713)) t713)) = true := beq_iff_eq.mpr c19
       have c19b1 : (t720 != (Int.tmod (wrap64 ((Int.tmod a1 t713) + t713)) t713)) = false := bne_eq_false_iff_eq.mpr c19
       clear c19
       by_cases c20 : ((FloatKind.f64.format.order t721.1 t714.1 == some .eq) && (FloatKind.f64.format.order t721.2 t714.2 == some .eq)) = true
       ·rw [if_pos c20] at H
        have c20b0 : ((FloatKind.f64.format.order t721.1 t714.1 == some .eq) && (FloatKind.f64.format.order t721.2 t714.2 == some .eq)) = true := c20
        clear c20
        by_cases c21 : t722 = true
        ·subst c21
         have H1 : (some false) = some r := by rw [if_pos rfl] at H; exact H
         clear H
         have H := H1
         clear H1
         as_aux_lemma =>
          exact absurd ((Option.some.inj H).trans HQ_.out) (by decide)
        ·replace c21 := Bool.eq_false_iff.mpr c21
         subst c21
         have H1 : (some (t725 == t720 && (((FloatKind.f64.format.order t726.1 t721.1 == some .eq) && (FloatKind.f64.format.order t726.2 t721.2 == some .eq)) && (t727 == false)))) = some r := by rw [if_neg (show ¬ (false = true) by decide)] at H; exact H
         clear H
         have H := H1
         clear H1
         as_aux_lemma =>
          obtain rfl := Option.some.inj H
          go_enter Try.func10, Try.ntmps10
          go_wp2_with (first | ((with_reducible refine gate_callee (f := 62) rfl ?_); refine goesL_ (some 18) rfl rfl Try.func62 (by kernel_rfl) rfl #[] rfl (by (try simp only [List.map_toArray, List.map_cons, List.map_nil]); first | done | rfl | (simp only [List.length_drop, List.length_take]; rfl)) ?_; (with_reducible refine (foghornlaw05_awake.calls k  true _ A5.out).mono ?_); rintro e w22 ⟨rfl, hb⟩; refine ⟨_, rfl, ?_⟩; have n0_ := Aside0.mk (below_step (by repeat (first | (with_reducible first | exact HB.out | apply below_alloc | apply pw_below_drewN | apply below_drew1) | exact HB.out)) hb); clear HB; have HB := n0_; clear n0_; (try clear hb); (try clear hb2); (try clear hk); (try clear hi)) | ((with_reducible refine gate_callee (f := 63) rfl ?_); refine goesL_ (some 21) rfl rfl Try.func63 (by kernel_rfl) rfl #[.int .i64 a0] rfl (by (try simp only [List.map_toArray, List.map_cons, List.map_nil]); first | done | rfl | (simp only [List.length_drop, List.length_take]; rfl)) ?_; (with_reducible refine (foghornlaw05_size.calls a0 t713 _ A7.out).mono ?_); rintro e w23 ⟨rfl, hb⟩; refine ⟨_, rfl, ?_⟩; have n0_ := Aside0.mk (below_step (by repeat (first | (with_reducible first | exact HB.out | apply below_alloc | apply pw_below_drewN | apply below_drew1) | exact HB.out)) hb); clear HB; have HB := n0_; clear n0_; (try clear hb); (try clear hb2); (try clear hk); (try clear hi)) | ((with_reducible refine gate_callee (f := 64) rfl ?_); refine goesL_ (some 32) rfl rfl Try.func64 (by kernel_rfl) rfl #[.int .i64 t713, .int .i64 (Int.tmod (wrap64 ((Int.tmod a1 t713) + t713)) t713)] rfl (by (try simp only [List.map_toArray, List.map_cons, List.map_nil]); first | done | rfl | (simp only [List.length_drop, List.length_take]; rfl)) ?_; (with_reducible refine (foghornref04_At.calls k t713 (Int.tmod (wrap64 ((Int.tmod a1 t713) + t713)) t713) t714 t715 _ A9.out).mono ?_); rintro e w24 ⟨rfl, hb⟩; refine ⟨_, rfl, ?_⟩; have n0_ := Aside0.mk (below_step (by repeat (first | (with_reducible first | exact HB.out | apply below_alloc | apply pw_below_drewN | apply below_drew1) | exact HB.out)) hb); clear HB; have HB := n0_; clear n0_; (try clear hb); (try clear hb2); (try clear hk); (try clear hi); have hfoA11_ := fun (t_ : TypeId) (w_ : World) => run_float_arith (P := Try.prog) w_ .quo t_ .f64 (floatOfInt .f64 (Int.tmod (wrap64 (a2)) 16384)) 4670232813583204352 t716 A11.out; have hfoA12_ := fun (t_ : TypeId) (w_ : World) => run_float_arith (P := Try.prog) w_ .quo t_ .f64 (floatOfInt .f64 (Int.tmod (wrap64 (a3)) 16384)) 4670232813583204352 t717 A12.out; have hfoA13_ := fun (t_ : TypeId) (w_ : World) => run_float_arith (P := Try.prog) w_ .add t_ .f64 t714.1 t716 t718 A13.out; have hfoA14_ := fun (t_ : TypeId) (w_ : World) => run_float_arith (P := Try.prog) w_ .add t_ .f64 t714.2 t717 t719 A14.out) | ((with_reducible refine gate_callee (f := 53) rfl ?_); refine goesL_ (some 58) rfl rfl Try.func53 (by kernel_rfl) rfl #[.int .i64 t713, .complex .f64 t718 t719] rfl (by (try simp only [List.map_toArray, List.map_cons, List.map_nil]); first | done | rfl | (simp only [List.length_drop, List.length_take]; rfl)) ?_; (with_reducible refine (slice_Decide.calls k t713 (t718, t719) t720 t721 false t723 _ A15.out).mono ?_); rintro e w25 ⟨rfl, hb⟩; refine ⟨_, rfl, ?_⟩; have n0_ := Aside0.mk (below_step (by repeat (first | (with_reducible first | exact HB.out | apply below_alloc | apply pw_below_drewN | apply below_drew1) | exact HB.out)) hb); clear HB; have HB := n0_; clear n0_; (try clear hb); (try clear hb2); (try clear hk); (try clear hi)) | ((with_reducible refine gate_dst (N := 14) rfl ?_); refine box_event ?hg (N := 14) ?hd (cs := #[.int .i64 0, .complex .f64 0 0, .bool false]) (t := 83) ?hr ?_; (case hd => rfl); (case hg => rfl); (case hr => first | (go_simp; done) | (go_simp; rfl)); intro gb724 hg w26 hbox hb; have n0_ := Aside0.mk (below_step (by repeat (first | (with_reducible first | exact HB.out | apply below_alloc | apply pw_below_drewN | apply below_drew1) | exact HB.out)) hb); have n1_ := Aside0.mk (hbox); have n2_ := Aside0.mk ((by rw [hg]; exact (below_size (by repeat (first | (with_reducible first | exact HB.out | apply below_alloc | apply pw_below_drewN | apply below_drew1) | exact HB.out))) : w.heap.size ≤ gb724)); have n3_ := Aside0.mk ((by rw [hg]; exact (below_size (by repeat (first | (with_reducible first | exact HB.out | apply below_alloc | apply pw_below_drewN | apply below_drew1) | exact HB.out))) : w.heap.size ≤ gb724)); clear HB; have HB := n0_; have BK724 := n1_; have GW724 := n2_; have GE724 := n3_; clear n0_ n1_ n2_ n3_; clear hb hbox hg; have hcz27_0 : w26.cell? ⟨gb724, 0, none⟩ = some (.int .i64 0) := (blk_cell BK724.out 0).trans rfl; have hcz27_1 : w26.cell? ⟨gb724, 1, none⟩ = some (.complex .f64 0 0) := (blk_cell BK724.out 1).trans rfl; have hcz27_2 : w26.cell? ⟨gb724, 2, none⟩ = some (.bool false) := (blk_cell BK724.out 2).trans rfl; have hfz27_0 := blk_frozen BK724.out 0; have hfz27_1 := blk_frozen BK724.out 1; have hfz27_2 := blk_frozen BK724.out 2) | ((with_reducible refine gate_callee (f := 53) rfl ?_); refine goesL_ (some 65) rfl rfl Try.func53 (by kernel_rfl) rfl #[.int .i64 t713, .complex .f64 t721.1 t721.2] rfl (by (try simp only [List.map_toArray, List.map_cons, List.map_nil]); first | done | rfl | (simp only [List.length_drop, List.length_take]; rfl)) ?_; (with_reducible refine (slice_Decide.calls k t713 t721 t725 t726 t727 t728 _ A16.out).mono ?_); rintro e w28 ⟨rfl, hb⟩; refine ⟨_, rfl, ?_⟩; have n0_ := Aside0.mk (blk_below (g := gb724) (o := .cells #[.int .i64 t720, .complex .f64 t721.1 t721.2, .bool false] 83 (0, 0)) (by (with_reducible repeat (first | refine blk_drewN ?_ _ | refine blk_drew ?_ | refine blk_alloc ?_ _)); refine blk_put (cs := #[.int .i64 t720, .complex .f64 t721.1 t721.2, .bool false]) ?_ 2 _ rfl; (with_reducible repeat (first | refine blk_drewN ?_ _ | refine blk_drew ?_ | refine blk_alloc ?_ _)); refine blk_put (cs := #[.int .i64 t720, .complex .f64 0 0, .bool false]) ?_ 1 _ rfl; (with_reducible repeat (first | refine blk_drewN ?_ _ | refine blk_drew ?_ | refine blk_alloc ?_ _)); refine blk_put (cs := #[.int .i64 0, .complex .f64 0 0, .bool false]) ?_ 0 _ rfl; (with_reducible repeat (first | refine blk_drewN ?_ _ | refine blk_drew ?_ | refine blk_alloc ?_ _)); exact BK724.out) hb); have n1_ := Aside0.mk (below_step (by repeat (first | (with_reducible first | exact HB.out | apply below_alloc | apply pw_below_drewN | apply below_drew1 | refine below_set ?_ GE724.out) | exact HB.out)) hb); clear BK724; clear HB; have BK724 := n0_; have HB := n1_; clear n0_ n1_; (try clear hb); (try clear hb2); (try clear hk); (try clear hi)) | ((with_reducible refine gate_dst (N := 16) rfl ?_); refine box_event ?hg (N := 16) ?hd (cs := #[.int .i64 0, .complex .f64 0 0, .bool false]) (t := 83) ?hr ?_; (case hd => rfl); (case hg => rfl); (case hr => first | (go_simp; done) | (go_simp; rfl)); intro gb729 hg w29 hbox hb; have n0_ := Aside0.mk (blk_below (g := gb724) (o := .cells #[.int .i64 t720, .complex .f64 t721.1 t721.2, .bool false] 83 (0, 0)) (by (with_reducible repeat (first | refine blk_drewN ?_ _ | refine blk_drew ?_ | refine blk_alloc ?_ _)); exact BK724.out) hb); have n1_ := Aside0.mk (below_step (by repeat (first | (with_reducible first | exact HB.out | apply below_alloc | apply pw_below_drewN | apply below_drew1 | refine below_set ?_ GE724.out) | exact HB.out)) hb); have n2_ := Aside0.mk (hbox); have n3_ := Aside0.mk ((by rw [hg]; exact (below_size (by repeat (first | (with_reducible first | exact HB.out | apply below_alloc | apply pw_below_drewN | apply below_drew1 | refine below_set ?_ GE724.out) | exact HB.out))) : w.heap.size ≤ gb729)); have n4_ := Aside0.mk ((by rw [hg]; exact (below_size (by repeat (first | (with_reducible first | exact HB.out | apply below_alloc | apply pw_below_drewN | apply below_drew1 | refine below_set ?_ GE724.out) | exact HB.out))) : w.heap.size ≤ gb729)); have n5_ := Aside0.mk ((by rw [hg]; exact Nat.ne_of_lt (blk_lt (g := gb724) (o := .cells #[.int .i64 t720, .complex .f64 t721.1 t721.2, .bool false] 83 (0, 0)) (by (with_reducible repeat (first | refine blk_drewN ?_ _ | refine blk_drew ?_ | refine blk_alloc ?_ _)); exact BK724.out)) : gb724 ≠ gb729)); have n6_ := Aside0.mk ((by rw [hg]; exact Nat.ne_of_gt (blk_lt (g := gb724) (o := .cells #[.int .i64 t720, .complex .f64 t721.1 t721.2, .bool false] 83 (0, 0)) (by (with_reducible repeat (first | refine blk_drewN ?_ _ | refine blk_drew ?_ | refine blk_alloc ?_ _)); exact BK724.out)) : gb729 ≠ gb724)); clear BK724; clear HB; have BK724 := n0_; have HB := n1_; have BK729 := n2_; have GW729 := n3_; have GE729 := n4_; have NB724_729 := n5_; have NB729_724 := n6_; clear n0_ n1_ n2_ n3_ n4_ n5_ n6_; clear hb hbox hg; have hnb30 := NB729_724.out; have hnc30 := NB724_729.out; have hcz31_0 : w29.cell? ⟨gb729, 0, none⟩ = some (.int .i64 0) := (blk_cell BK729.out 0).trans rfl; have hcz31_1 : w29.cell? ⟨gb729, 1, none⟩ = some (.complex .f64 0 0) := (blk_cell BK729.out 1).trans rfl; have hcz31_2 : w29.cell? ⟨gb729, 2, none⟩ = some (.bool false) := (blk_cell BK729.out 2).trans rfl; have hfz31_0 := blk_frozen BK729.out 0; have hfz31_1 := blk_frozen BK729.out 1; have hfz31_2 := blk_frozen BK729.out 2; have hcz32_0 : w29.cell? ⟨gb724, 0, none⟩ = some (.int .i64 t720) := (blk_cell BK724.out 0).trans rfl; have hcz32_1 : w29.cell? ⟨gb724, 1, none⟩ = some (.complex .f64 t721.1 t721.2) := (blk_cell BK724.out 1).trans rfl; have hcz32_2 : w29.cell? ⟨gb724, 2, none⟩ = some (.bool false) := (blk_cell BK724.out 2).trans rfl; have hfz32_0 := blk_frozen BK724.out 0; have hfz32_1 := blk_frozen BK724.out 1; have hfz32_2 := blk_frozen BK724.out 2))
          go_ret
          exact ⟨by first | rfl | (simp [errW_none, errW_some] <;> rfl) | (simp [*, errW_none, errW_some] <;> rfl), by repeat (first | (with_reducible first | exact HB.out | apply below_alloc | apply pw_below_drewN | apply below_drew1 | refine below_set ?_ GE724.out | refine below_set ?_ GE729.out) | exact HB.out)⟩
       ·rw [if_neg c20] at H
        have c20b0 : ((FloatKind.f64.format.order t721.1 t714.1 == some .eq) && (FloatKind.f64.format.order t721.2 t714.2 == some .eq)) = false := by simpa using c20
        clear c20
        as_aux_lemma =>
         exact absurd ((Option.some.inj H).trans HQ_.out) (by decide)
      ·rw [if_neg c19] at H
       have c19b0 : (t720 == (Int.tmod (wrap64 ((Int.tmod a1 t713) + t713)) t713)) = false := beq_eq_false_iff_ne.mpr c19
       have c19b1 : (t720 != (Int.tmod (wrap64 ((Int.tmod a1 t713) + t713)) t713)) = true := bne_iff_ne.mpr c19
       as_aux_lemma =>
        exact absurd ((Option.some.inj H).trans HQ_.out) (by decide)
     ·rw [if_neg c18] at H
      have c18b0 : (t728 == 0) = false := beq_eq_false_iff_ne.mpr c18
      have c18b1 : (t728 != 0) = true := bne_iff_ne.mpr c18
      as_aux_lemma =>
       exact absurd ((Option.some.inj H).trans HQ_.out) (by decide)
    ·rw [if_neg c17] at H
     have c17b0 : (t723 == 0) = false := beq_eq_false_iff_ne.mpr c17
     have c17b1 : (t723 != 0) = true := bne_iff_ne.mpr c17
     as_aux_lemma =>
      exact absurd ((Option.some.inj H).trans HQ_.out) (by decide)
   ·rw [if_neg c10] at H
    have c10b0 : (t715 == 0) = false := beq_eq_false_iff_ne.mpr c10
    have c10b1 : (t715 != 0) = true := bne_iff_ne.mpr c10
    as_aux_lemma =>
     exact absurd ((Option.some.inj H).trans HQ_.out) (by decide)
 ·replace c6 := Bool.eq_false_iff.mpr c6
  subst c6
  have H1 : (some false) = some r := by rw [if_neg (show ¬ (false = true) by decide)] at H; exact H
  clear H
  have H := H1
  clear H1
  as_aux_lemma =>
   exact absurd ((Option.some.inj H).trans HQ_.out) (by decide)

theorem foghornlaw05_SliceNear.walk (P : foghornlaw05_SliceNear.Pure) (a0 : Int) (a1 : Int) (a2 : Int) (a3 : Int) (w : World) (w0 : (Lit.int .i64 a0).wf = true) (w1 : (Lit.int .i64 a1).wf = true) (w2 : (Lit.int .i16 a2).wf = true) (w3 : (Lit.int .i16 a3).wf = true) :
  Calls Try.prog 10 #[.int .i64 a0, .int .i64 a1, .int .i16 a2, .int .i16 a3] w fun e w' => e = .returned (.bool true) ∧ Below w.heap.size w w' := by
 obtain ⟨k, h⟩ := P a0 a1 a2 a3 w0 w1 w2 w3
 refine (foghornlaw05_SliceNear.calls k a0 a1 a2 a3 true w h rfl).mono ?_
 rintro e w' ⟨rfl, hd⟩
 exact ⟨rfl, hd⟩

end Go.Proofs.Ythfcafllcgjepaa.Q
