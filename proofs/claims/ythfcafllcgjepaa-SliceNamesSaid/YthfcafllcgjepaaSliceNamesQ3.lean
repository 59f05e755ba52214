-- Printed by myprint.py (ours) over the kit's printer, out of the translation.
import Derived.Test.YthfcafllcgjepaaSliceNamesK0
import Derived.Test.YthfcafllcgjepaaSliceNamesF0
import Derived.Test.YthfcafllcgjepaaSliceNamesE0
import Derived.Test.YthfcafllcgjepaaSliceNamesQ0
import Derived.Test.YthfcafllcgjepaaSliceNamesQ1
import Derived.Test.YthfcafllcgjepaaSliceNamesQ2
namespace Go.Proofs.Ythfcafllcgjepaa.Q
open Go.RowKit Go.Proofs.YthfcafllcgjepaaW.PrintWords Go.Proofs.YthfcafllcgjepaaW.PrintLast Go.Proofs.YthfcafllcgjepaaW.PrintMore
attribute [local go_sem] ArrW.ptrOf_slice unary_neg_float unary_neg_complex run_store_float run_store_complex max2_int min2_int max_two min_two max_three min_three max_four min_four   -- for this text's walks alone
set_option linter.unusedVariables false
set_option linter.unusedSimpArgs false

attribute [local go_sem high] eqA83
/-! ### foghornlaw05_SliceNames: function 15 -/
set_option maxHeartbeats 8000000 in
set_option maxRecDepth 100000 in
theorem foghornlaw05_SliceNames.calls (k : Nat)  (r : Bool) (w : World) (h : foghornlaw05_SliceNames.f k  = some r) (hq_ : r = true) :
  Calls Try.prog 15 #[] w fun e w' => e = .returned (.bool r) ∧ Below w.heap.size w w' := by
 have HQ_ := Aside0.mk hq_
 clear hq_
 have hu83 := Try.underlying83
 have HB := Aside0.mk (Below.refl w.heap.size w)
 have H : ((slice_Axis.f k 0 3).bind fun bt943 => ((math_Inf.f (-1)).bind fun t945 => ((slice_Axis.f k t945 3).bind fun bt946 => ((math_NaN.f).bind fun t948 => ((slice_Axis.f k t948 3).bind fun bt949 => ((slice_Axis.f k 0 2).bind fun bt951 => ((slice_Axis.f k 0 17).bind fun bt953 => ((math_NaN.f).bind fun t955 => ((slice_Decide.f k 16 (t955, 0)).bind fun bt956 => ((slice_Row.f k 5 ([] : List (S101))).bind fun bt961 => ((slice_Row.f k 4 ([] : List (S101))).bind fun bt965 => (if bt943.1 = (-1) then (if bt943.2 = 0 then (if bt946.1 = (-3) then (if bt946.2 = 0 then (if bt949.2 = 1 then (if bt951.2 = 1 then (if bt953.2 = 1 then (if (bt956.1 == 0 && (((FloatKind.f64.format.order bt956.2.1.1 0 == some .eq) && (FloatKind.f64.format.order bt956.2.1.2 0 == some .eq)) && (bt956.2.2.1))) = true then (if bt956.2.2.2 = 0 then (if bt961.2 = 1 then (if (bt965.1.length : Int) = 0 then (if bt965.2 = 0 then ((slice_Lost.f k ([] : List (S83))).bind fun t969 => (some ((t969.length : Int) == 0))) else (some false)) else (some false)) else (some false)) else (some false)) else (some false)) else (some false)) else (some false)) else (some false)) else (some false)) else (some false)) else (some false)) else (some false))))))))))))) = some r := h
 clear h
 replace H := Option.bind_eq_some_iff.mp H
 obtain ⟨⟨t943, t944⟩, A10, H⟩ := H
 replace H : ((math_Inf.f (-1)).bind fun t945 => ((slice_Axis.f k t945 3).bind fun bt946 => ((math_NaN.f).bind fun t948 => ((slice_Axis.f k t948 3).bind fun bt949 => ((slice_Axis.f k 0 2).bind fun bt951 => ((slice_Axis.f k 0 17).bind fun bt953 => ((math_NaN.f).bind fun t955 => ((slice_Decide.f k 16 (t955, 0)).bind fun bt956 => ((slice_Row.f k 5 ([] : List (S101))).bind fun bt961 => ((slice_Row.f k 4 ([] : List (S101))).bind fun bt965 => (if t943 = (-1) then (if t944 = 0 then (if bt946.1 = (-3) then (if bt946.2 = 0 then (if bt949.2 = 1 then (if bt951.2 = 1 then (if bt953.2 = 1 then (if (bt956.1 == 0 && (((FloatKind.f64.format.order bt956.2.1.1 0 == some .eq) && (FloatKind.f64.format.order bt956.2.1.2 0 == some .eq)) && (bt956.2.2.1))) = true then (if bt956.2.2.2 = 0 then (if bt961.2 = 1 then (if (bt965.1.length : Int) = 0 then (if bt965.2 = 0 then ((slice_Lost.f k ([] : List (S83))).bind fun t969 => (some ((t969.length : Int) == 0))) else (some false)) else (some false)) else (some false)) else (some false)) else (some false)) else (some false)) else (some false)) else (some false)) else (some false)) else (some false)) else (some false)) else (some false)))))))))))) = some r := H
 have A1 := Aside0.mk A10
 clear A10
 replace H := Option.bind_eq_some_iff.mp H
 obtain ⟨t945, A20, H⟩ := H
 replace H : ((slice_Axis.f k t945 3).bind fun bt946 => ((math_NaN.f).bind fun t948 => ((slice_Axis.f k t948 3).bind fun bt949 => ((slice_Axis.f k 0 2).bind fun bt951 => ((slice_Axis.f k 0 17).bind fun bt953 => ((math_NaN.f).bind fun t955 => ((slice_Decide.f k 16 (t955, 0)).bind fun bt956 => ((slice_Row.f k 5 ([] : List (S101))).bind fun bt961 => ((slice_Row.f k 4 ([] : List (S101))).bind fun bt965 => (if t943 = (-1) then (if t944 = 0 then (if bt946.1 = (-3) then (if bt946.2 = 0 then (if bt949.2 = 1 then (if bt951.2 = 1 then (if bt953.2 = 1 then (if (bt956.1 == 0 && (((FloatKind.f64.format.order bt956.2.1.1 0 == some .eq) && (FloatKind.f64.format.order bt956.2.1.2 0 == some .eq)) && (bt956.2.2.1))) = true then (if bt956.2.2.2 = 0 then (if bt961.2 = 1 then (if (bt965.1.length : Int) = 0 then (if bt965.2 = 0 then ((slice_Lost.f k ([] : List (S83))).bind fun t969 => (some ((t969.length : Int) == 0))) else (some false)) else (some false)) else (some false)) else (some false)) else (some false)) else (some false)) else (some false)) else (some false)) else (some false)) else (some false)) else (some false)) else (some false))))))))))) = some r := H
 have A2 := Aside0.mk A20
 clear A20
 replace H := Option.bind_eq_some_iff.mp H
 obtain ⟨⟨t946, t947⟩, A30, H⟩ := H
 replace H : ((math_NaN.f).bind fun t948 => ((slice_Axis.f k t948 3).bind fun bt949 => ((slice_Axis.f k 0 2).bind fun bt951 => ((slice_Axis.f k 0 17).bind fun bt953 => ((math_NaN.f).bind fun t955 => ((slice_Decide.f k 16 (t955, 0)).bind fun bt956 => ((slice_Row.f k 5 ([] : List (S101))).bind fun bt961 => ((slice_Row.f k 4 ([] : List (S101))).bind fun bt965 => (if t943 = (-1) then (if t944 = 0 then (if t946 = (-3) then (if t947 = 0 then (if bt949.2 = 1 then (if bt951.2 = 1 then (if bt953.2 = 1 then (if (bt956.1 == 0 && (((FloatKind.f64.format.order bt956.2.1.1 0 == some .eq) && (FloatKind.f64.format.order bt956.2.1.2 0 == some .eq)) && (bt956.2.2.1))) = true then (if bt956.2.2.2 = 0 then (if bt961.2 = 1 then (if (bt965.1.length : Int) = 0 then (if bt965.2 = 0 then ((slice_Lost.f k ([] : List (S83))).bind fun t969 => (some ((t969.length : Int) == 0))) else (some false)) else (some false)) else (some false)) else (some false)) else (some false)) else (some false)) else (some false)) else (some false)) else (some false)) else (some false)) else (some false)) else (some false)))))))))) = some r := H
 have A3 := Aside0.mk A30
 clear A30
 replace H := Option.bind_eq_some_iff.mp H
 obtain ⟨t948, A40, H⟩ := H
 replace H : ((slice_Axis.f k t948 3).bind fun bt949 => ((slice_Axis.f k 0 2).bind fun bt951 => ((slice_Axis.f k 0 17).bind fun bt953 => ((math_NaN.f).bind fun t955 => ((slice_Decide.f k 16 (t955, 0)).bind fun bt956 => ((slice_Row.f k 5 ([] : List (S101))).bind fun bt961 => ((slice_Row.f k 4 ([] : List (S101))).bind fun bt965 => (if t943 = (-1) then (if t944 = 0 then (if t946 = (-3) then (if t947 = 0 then (if bt949.2 = 1 then (if bt951.2 = 1 then (if bt953.2 = 1 then (if (bt956.1 == 0 && (((FloatKind.f64.format.order bt956.2.1.1 0 == some .eq) && (FloatKind.f64.format.order bt956.2.1.2 0 == some .eq)) && (bt956.2.2.1))) = true then (if bt956.2.2.2 = 0 then (if bt961.2 = 1 then (if (bt965.1.length : Int) = 0 then (if bt965.2 = 0 then ((slice_Lost.f k ([] : List (S83))).bind fun t969 => (some ((t969.length : Int) == 0))) else (some false)) else (some false)) else (some false)) else (some false)) else (some false)) else (some false)) else (some false)) else (some false)) else (some false)) else (some false)) else (some false)) else (some false))))))))) = some r := H
 have A4 := Aside0.mk A40
 clear A40
 replace H := Option.bind_eq_some_iff.mp H
 obtain ⟨⟨t949, t950⟩, A50, H⟩ := H
 replace H : ((slice_Axis.f k 0 2).bind fun bt951 => ((slice_Axis.f k 0 17).bind fun bt953 => ((math_NaN.f).bind fun t955 => ((slice_Decide.f k 16 (t955, 0)).bind fun bt956 => ((slice_Row.f k 5 ([] : List (S101))).bind fun bt961 => ((slice_Row.f k 4 ([] : List (S101))).bind fun bt965 => (if t943 = (-1) then (if t944 = 0 then (if t946 = (-3) then (if t947 = 0 then (if t950 = 1 then (if bt951.2 = 1 then (if bt953.2 = 1 then (if (bt956.1 == 0 && (((FloatKind.f64.format.order bt956.2.1.1 0 == some .eq) && (FloatKind.f64.format.order bt956.2.1.2 0 == some .eq)) && (bt956.2.2.1))) = true then (if bt956.2.2.2 = 0 then (if bt961.2 = 1 then (if (bt965.1.length : Int) = 0 then (if bt965.2 = 0 then ((slice_Lost.f k ([] : List (S83))).bind fun t969 => (some ((t969.length : Int) == 0))) else (some false)) else (some false)) else (some false)) else (some false)) else (some false)) else (some false)) else (some false)) else (some false)) else (some false)) else (some false)) else (some false)) else (some false)))))))) = some r := H
 have A5 := Aside0.mk A50
 clear A50
 replace H := Option.bind_eq_some_iff.mp H
 obtain ⟨⟨t951, t952⟩, A60, H⟩ := H
 replace H : ((slice_Axis.f k 0 17).bind fun bt953 => ((math_NaN.f).bind fun t955 => ((slice_Decide.f k 16 (t955, 0)).bind fun bt956 => ((slice_Row.f k 5 ([] : List (S101))).bind fun bt961 => ((slice_Row.f k 4 ([] : List (S101))).bind fun bt965 => (if t943 = (-1) then (if t944 = 0 then (if t946 = (-3) then (if t947 = 0 then (if t950 = 1 then (if t952 = 1 then (if bt953.2 = 1 then (if (bt956.1 == 0 && (((FloatKind.f64.format.order bt956.2.1.1 0 == some .eq) && (FloatKind.f64.format.order bt956.2.1.2 0 == some .eq)) && (bt956.2.2.1))) = true then (if bt956.2.2.2 = 0 then (if bt961.2 = 1 then (if (bt965.1.length : Int) = 0 then (if bt965.2 = 0 then ((slice_Lost.f k ([] : List (S83))).bind fun t969 => (some ((t969.length : Int) == 0))) else (some false)) else (some false)) else (some false)) else (some false)) else (some false)) else (some false)) else (some false)) else (some false)) else (some false)) else (some false)) else (some false)) else (some false))))))) = some r := H
 have A6 := Aside0.mk A60
 clear A60
 replace H := Option.bind_eq_some_iff.mp H
 obtain ⟨⟨t953, t954⟩, A70, H⟩ := H
 replace H : ((math_NaN.f).bind fun t955 => ((slice_Decide.f k 16 (t955, 0)).bind fun bt956 => ((slice_Row.f k 5 ([] : List (S101))).bind fun bt961 => ((slice_Row.f k 4 ([] : List (S101))).bind fun bt965 => (if t943 = (-1) then (if t944 = 0 then (if t946 = (-3) then (if t947 = 0 then (if t950 = 1 then (if t952 = 1 then (if t954 = 1 then (if (bt956.1 == 0 && (((FloatKind.f64.format.order bt956.2.1.1 0 == some .eq) && (FloatKind.f64.format.order bt956.2.1.2 0 == some .eq)) && (bt956.2.2.1))) = true then (if bt956.2.2.2 = 0 then (if bt961.2 = 1 then (if (bt965.1.length : Int) = 0 then (if bt965.2 = 0 then ((slice_Lost.f k ([] : List (S83))).bind fun t969 => (some ((t969.length : Int) == 0))) else (some false)) else (some false)) else (some false)) else (some false)) else (some false)) else (some false)) else (some false)) else (some false)) else (some false)) else (some false)) else (some false)) else (some false)))))) = some r := H
 have A7 := Aside0.mk A70
 clear A70
 replace H := Option.bind_eq_some_iff.mp H
 obtain ⟨t955, A80, H⟩ := H
 replace H : ((slice_Decide.f k 16 (t955, 0)).bind fun bt956 => ((slice_Row.f k 5 ([] : List (S101))).bind fun bt961 => ((slice_Row.f k 4 ([] : List (S101))).bind fun bt965 => (if t943 = (-1) then (if t944 = 0 then (if t946 = (-3) then (if t947 = 0 then (if t950 = 1 then (if t952 = 1 then (if t954 = 1 then (if (bt956.1 == 0 && (((FloatKind.f64.format.order bt956.2.1.1 0 == some .eq) && (FloatKind.f64.format.order bt956.2.1.2 0 == some .eq)) && (bt956.2.2.1))) = true then (if bt956.2.2.2 = 0 then (if bt961.2 = 1 then (if (bt965.1.length : Int) = 0 then (if bt965.2 = 0 then ((slice_Lost.f k ([] : List (S83))).bind fun t969 => (some ((t969.length : Int) == 0))) else (some false)) else (some false)) else (some false)) else (some false)) else (some false)) else (some false)) else (some false)) else (some false)) else (some false)) else (some false)) else (some false)) else (some false))))) = some r := H
 have A8 := Aside0.mk A80
 clear A80
 obtain rfl := Option.some.inj (A4.out.symm.trans A8.out)
 replace H := Option.bind_eq_some_iff.mp H
 obtain ⟨⟨t956, t957, t958, t959⟩, A90, H⟩ := H
 replace H : ((slice_Row.f k 5 ([] : List (S101))).bind fun bt961 => ((slice_Row.f k 4 ([] : List (S101))).bind fun bt965 => (if t943 = (-1) then (if t944 = 0 then (if t946 = (-3) then (if t947 = 0 then (if t950 = 1 then (if t952 = 1 then (if t954 = 1 then (if (t956 == 0 && (((FloatKind.f64.format.order t957.1 0 == some .eq) && (FloatKind.f64.format.order t957.2 0 == some .eq)) && (t958))) = true then (if t959 = 0 then (if bt961.2 = 1 then (if (bt965.1.length : Int) = 0 then (if bt965.2 = 0 then ((slice_Lost.f k ([] : List (S83))).bind fun t969 => (some ((t969.length : Int) == 0))) else (some false)) else (some false)) else (some false)) else (some false)) else (some false)) else (some false)) else (some false)) else (some false)) else (some false)) else (some false)) else (some false)) else (some false)))) = some r := H
 have A9 := Aside0.mk A90
 clear A90
 replace H := Option.bind_eq_some_iff.mp H
 obtain ⟨⟨t961, t962⟩, A100, H⟩ := H
 replace H : ((slice_Row.f k 4 ([] : List (S101))).bind fun bt965 => (if t943 = (-1) then (if t944 = 0 then (if t946 = (-3) then (if t947 = 0 then (if t950 = 1 then (if t952 = 1 then (if t954 = 1 then (if (t956 == 0 && (((FloatKind.f64.format.order t957.1 0 == some .eq) && (FloatKind.f64.format.order t957.2 0 == some .eq)) && (t958))) = true then (if t959 = 0 then (if t962 = 1 then (if (bt965.1.length : Int) = 0 then (if bt965.2 = 0 then ((slice_Lost.f k ([] : List (S83))).bind fun t969 => (some ((t969.length : Int) == 0))) else (some false)) else (some false)) else (some false)) else (some false)) else (some false)) else (some false)) else (some false)) else (some false)) else (some false)) else (some false)) else (some false)) else (some false))) = some r := H
 have A10 := Aside0.mk A100
 clear A100
 replace H := Option.bind_eq_some_iff.mp H
 obtain ⟨⟨t965, t966⟩, A110, H⟩ := H
 replace H : (if t943 = (-1) then (if t944 = 0 then (if t946 = (-3) then (if t947 = 0 then (if t950 = 1 then (if t952 = 1 then (if t954 = 1 then (if (t956 == 0 && (((FloatKind.f64.format.order t957.1 0 == some .eq) && (FloatKind.f64.format.order t957.2 0 == some .eq)) && (t958))) = true then (if t959 = 0 then (if t962 = 1 then (if (t965.length : Int) = 0 then (if t966 = 0 then ((slice_Lost.f k ([] : List (S83))).bind fun t969 => (some ((t969.length : Int) == 0))) else (some false)) else (some false)) else (some false)) else (some false)) else (some false)) else (some false)) else (some false)) else (some false)) else (some false)) else (some false)) else (some false)) else (some false)) = some r := H
 have A11 := Aside0.mk A110
 clear A110
 by_cases c12 : t943 = (-1)
 ·rw [if_pos c12] at H
  have c12b0 : (t943 == (-1)) = true := beq_iff_eq.mpr c12
  have c12b1 : (t943 != (-1)) = false := bne_eq_false_iff_eq.mpr c12
  clear c12
  by_cases c13 : t944 = 0
  ·rw [if_pos c13] at H
   have c13b0 : (t944 == 0) = true := beq_iff_eq.mpr c13
   have c13b1 : (t944 != 0) = false := bne_eq_false_iff_eq.mpr c13
   clear c13
   by_cases c14 : t946 = (-3)
   ·rw [if_pos c14] at H
    have c14b0 : (t946 == (-3)) = true := beq_iff_eq.mpr c14
    have c14b1 : (t946 != (-3)) = false := bne_eq_false_iff_eq.mpr c14
    clear c14
    by_cases c15 : t947 = 0
    ·rw [if_pos c15] at H
     have c15b0 : (t947 == 0) = true := beq_iff_eq.mpr c15
     have c15b1 : (t947 != 0) = false := bne_eq_false_iff_eq.mpr c15
     clear c15
     by_cases c16 : t950 = 1
     ·rw [if_pos c16] at H
      have c16b0 : (t950 == 1) = true := beq_iff_eq.mpr c16
      have c16b1 : (t950 != 1) = false := bne_eq_false_iff_eq.mpr c16
      clear c16
      by_cases c17 : t952 = 1
      ·rw [if_pos c17] at H
       have c17b0 : (t952 == 1) = true := beq_iff_eq.mpr c17
       have c17b1 : (t952 != 1) = false := bne_eq_false_iff_eq.mpr c17
       clear c17
       by_cases c18 : t954 = 1
       ·rw [if_pos c18] at H
        have c18b0 : (t954 == 1) = true := beq_iff_eq.mpr c18
        have c18b1 : (t954 != 1) = false := bne_eq_false_iff_eq.mpr c18
        clear c18
        by_cases c19 : (t956 == 0 && (((FloatKind.f64.format.order t957.1 0 == some .eq) && (FloatKind.f64.format.order t957.2 0 == some .eq)) && (t958))) = true
        ·rw [if_pos c19] at H
         have c19b0 : (t956 == 0 && (((FloatKind.f64.format.order t957.1 0 == some .eq) && (FloatKind.f64.format.order t957.2 0 == some .eq)) && (t958))) = true := c19
         (try (have c19b1 : decide (t956 = 0 && (((FloatKind.f64.format.order t957.1 0 == some .eq) && (FloatKind.f64.format.order t957.2 0 == some .eq)) && (t958))) = true := by simpa using c19))
         (try (have c19b2 : (t956 == 0 && (((FloatKind.f64.format.order t957.1 0 == some .eq) && (FloatKind.f64.format.order t957.2 0 == some .eq)) && (t958))) = true := by simpa using c19))
         clear c19
         by_cases c20 : t959 = 0
         ·rw [if_pos c20] at H
          have c20b0 : (t959 == 0) = true := beq_iff_eq.mpr c20
          have c20b1 : (t959 != 0) = false := bne_eq_false_iff_eq.mpr c20
          clear c20
          by_cases c21 : t962 = 1
          ·rw [if_pos c21] at H
           have c21b0 : (t962 == 1) = true := beq_iff_eq.mpr c21
           have c21b1 : (t962 != 1) = false := bne_eq_false_iff_eq.mpr c21
           clear c21
           by_cases c22 : (t965.length : Int) = 0
           ·rw [if_pos c22] at H
            have c22b0 : ((t965.length : Int) == 0) = true := beq_iff_eq.mpr c22
            have c22b1 : ((t965.length : Int) != 0) = false := bne_eq_false_iff_eq.mpr c22
            clear c22
            by_cases c23 : t966 = 0
            ·rw [if_pos c23] at H
             have c23b0 : (t966 == 0) = true := beq_iff_eq.mpr c23
             have c23b1 : (t966 != 0) = false := bne_eq_false_iff_eq.mpr c23
             clear c23
             replace H := Option.bind_eq_some_iff.mp H
             obtain ⟨t969, A240, H⟩ := H
             replace H : (some ((t969.length : Int) == 0)) = some r := H
             have A24 := Aside0.mk A240
             clear A240
             as_aux_lemma =>
              obtain rfl := Option.some.inj H
              go_enter Try.func15, Try.ntmps15
              go_wp2_with (first | ((with_reducible refine gate_callee (f := 47) rfl ?_); refine goesL_ (some 18) rfl rfl Try.func47 (by kernel_rfl) rfl #[.float .f64 0, .int .i64 3] rfl (by (try simp only [List.map_toArray, List.map_cons, List.map_nil]); first | done | rfl | (simp only [List.length_drop, List.length_take]; rfl)) ?_; (with_reducible refine (slice_Axis.calls k 0 3 t943 t944 _ A1.out).mono ?_); rintro e w25 ⟨rfl, hb⟩; refine ⟨_, rfl, ?_⟩; have n0_ := Aside0.mk (below_step (by repeat (first | (with_reducible first | exact HB.out | apply below_alloc | apply pw_below_drewN | apply below_drew1) | exact HB.out)) hb); clear HB; have HB := n0_; clear n0_; (try clear hb); (try clear hb2); (try clear hk); (try clear hi)) | ((with_reducible refine gate_callee (f := 76) rfl ?_); refine goesL_ (some 22) rfl rfl Try.func76 (by kernel_rfl) rfl #[.int .i64 (-1)] rfl (by (try simp only [List.map_toArray, List.map_cons, List.map_nil]); first | done | rfl | (simp only [List.length_drop, List.length_take]; rfl)) ?_; (with_reducible refine (math_Inf.calls (-1) t945 _ A2.out).mono ?_); rintro e w' ⟨rfl, ⟨nd, rfl⟩⟩; refine ⟨_, rfl, ?_⟩; (try (rw [drewN_self w25]; generalize hq_ : World.drewN w25 _ = w25; have n0_ : Aside0 (Below w.heap.size w w25) := ⟨by rw [← hq_]; exact (by repeat (first | (with_reducible first | exact HB.out | apply below_alloc | apply pw_below_drewN | apply below_drew1) | exact HB.out))⟩; clear HB hq_; have HB := n0_; clear n0_))) | ((with_reducible refine gate_callee (f := 47) rfl ?_); refine goesL_ (some 23) rfl rfl Try.func47 (by kernel_rfl) rfl #[.float .f64 t945, .int .i64 3] rfl (by (try simp only [List.map_toArray, List.map_cons, List.map_nil]); first | done | rfl | (simp only [List.length_drop, List.length_take]; rfl)) ?_; (with_reducible refine (slice_Axis.calls k t945 3 t946 t947 _ A3.out).mono ?_); rintro e w26 ⟨rfl, hb⟩; refine ⟨_, rfl, ?_⟩; have n0_ := Aside0.mk (below_step (by repeat (first | (with_reducible first | exact HB.out | apply below_alloc | apply pw_below_drewN | apply below_drew1) | exact HB.out)) hb); clear HB; have HB := n0_; clear n0_; (try clear hb); (try clear hb2); (try clear hk); (try clear hi)) | ((with_reducible refine gate_callee (f := 77) rfl ?_); refine goesL_ (some 27) rfl rfl Try.func77 (by kernel_rfl) rfl #[] rfl (by (try simp only [List.map_toArray, List.map_cons, List.map_nil]); first | done | rfl | (simp only [List.length_drop, List.length_take]; rfl)) ?_; (with_reducible refine (math_NaN.calls  t948 _ A4.out).mono ?_); rintro e w' ⟨rfl, ⟨nd, rfl⟩⟩; refine ⟨_, rfl, ?_⟩; (try (rw [drewN_self w26]; generalize hq_ : World.drewN w26 _ = w26; have n0_ : Aside0 (Below w.heap.size w w26) := ⟨by rw [← hq_]; exact (by repeat (first | (with_reducible first | exact HB.out | apply below_alloc | apply pw_below_drewN | apply below_drew1) | exact HB.out))⟩; clear HB hq_; have HB := n0_; clear n0_))) | ((with_reducible refine gate_callee (f := 47) rfl ?_); refine goesL_ (some 28) rfl rfl Try.func47 (by kernel_rfl) rfl #[.float .f64 t948, .int .i64 3] rfl (by (try simp only [List.map_toArray, List.map_cons, List.map_nil]); first | done | rfl | (simp only [List.length_drop, List.length_take]; rfl)) ?_; (with_reducible refine (slice_Axis.calls k t948 3 t949 t950 _ A5.out).mono ?_); rintro e w27 ⟨rfl, hb⟩; refine ⟨_, rfl, ?_⟩; have n0_ := Aside0.mk (below_step (by repeat (first | (with_reducible first | exact HB.out | apply below_alloc | apply pw_below_drewN | apply below_drew1) | exact HB.out)) hb); clear HB; have HB := n0_; clear n0_; (try clear hb); (try clear hb2); (try clear hk); (try clear hi)) | ((with_reducible refine gate_callee (f := 47) rfl ?_); refine goesL_ (some 32) rfl rfl Try.func47 (by kernel_rfl) rfl #[.float .f64 0, .int .i64 2] rfl (by (try simp only [List.map_toArray, List.map_cons, List.map_nil]); first | done | rfl | (simp only [List.length_drop, List.length_take]; rfl)) ?_; (with_reducible refine (slice_Axis.calls k 0 2 t951 t952 _ A6.out).mono ?_); rintro e w28 ⟨rfl, hb⟩; refine ⟨_, rfl, ?_⟩; have n0_ := Aside0.mk (below_step (by repeat (first | (with_reducible first | exact HB.out | apply below_alloc | apply pw_below_drewN | apply below_drew1) | exact HB.out)) hb); clear HB; have HB := n0_; clear n0_; (try clear hb); (try clear hb2); (try clear hk); (try clear hi)) | ((with_reducible refine gate_callee (f := 47) rfl ?_); refine goesL_ (some 36) rfl rfl Try.func47 (by kernel_rfl) rfl #[.float .f64 0, .int .i64 17] rfl (by (try simp only [List.map_toArray, List.map_cons, List.map_nil]); first | done | rfl | (simp only [List.length_drop, List.length_take]; rfl)) ?_; (with_reducible refine (slice_Axis.calls k 0 17 t953 t954 _ A7.out).mono ?_); rintro e w29 ⟨rfl, hb⟩; refine ⟨_, rfl, ?_⟩; have n0_ := Aside0.mk (below_step (by repeat (first | (with_reducible first | exact HB.out | apply below_alloc | apply pw_below_drewN | apply below_drew1) | exact HB.out)) hb); clear HB; have HB := n0_; clear n0_; (try clear hb); (try clear hb2); (try clear hk); (try clear hi)) | ((with_reducible refine gate_callee (f := 77) rfl ?_); refine goesL_ (some 40) rfl rfl Try.func77 (by kernel_rfl) rfl #[] rfl (by (try simp only [List.map_toArray, List.map_cons, List.map_nil]); first | done | rfl | (simp only [List.length_drop, List.length_take]; rfl)) ?_; (with_reducible refine (math_NaN.calls  t948 _ A8.out).mono ?_); rintro e w' ⟨rfl, ⟨nd, rfl⟩⟩; refine ⟨_, rfl, ?_⟩; (try (rw [drewN_self w29]; generalize hq_ : World.drewN w29 _ = w29; have n0_ : Aside0 (Below w.heap.size w w29) := ⟨by rw [← hq_]; exact (by repeat (first | (with_reducible first | exact HB.out | apply below_alloc | apply pw_below_drewN | apply below_drew1) | exact HB.out))⟩; clear HB hq_; have HB := n0_; clear n0_))) | ((with_reducible refine gate_callee (f := 53) rfl ?_); refine goesL_ (some 42) rfl rfl Try.func53 (by kernel_rfl) rfl #[.int .i64 16, .complex .f64 t948 0] rfl (by (try simp only [List.map_toArray, List.map_cons, List.map_nil]); first | done | rfl | (simp only [List.length_drop, List.length_take]; rfl)) ?_; (with_reducible refine (slice_Decide.calls k 16 (t948, 0) t956 t957 t958 t959 _ A9.out).mono ?_); rintro e w30 ⟨rfl, hb⟩; refine ⟨_, rfl, ?_⟩; have n0_ := Aside0.mk (below_step (by repeat (first | (with_reducible first | exact HB.out | apply below_alloc | apply pw_below_drewN | apply below_drew1) | exact HB.out)) hb); clear HB; have HB := n0_; clear n0_; (try clear hb); (try clear hb2); (try clear hk); (try clear hi)) | ((with_reducible refine gate_dst (N := 11) rfl ?_); (try (refine gate_guard (by rfl) ?_; dsimp only)); refine box_event ?hg (N := 11) ?hd (cs := #[.int .i64 0, .complex .f64 0 0, .bool false]) (t := 83) ?hr ?_; (case hd => rfl); (case hg => rfl); (case hr => first | (go_simp; done) | (go_simp; rfl)); intro gb960 hg w31 hbox hb; have n0_ := Aside0.mk (below_step (by repeat (first | (with_reducible first | exact HB.out | apply below_alloc | apply pw_below_drewN | apply below_drew1) | exact HB.out)) hb); have n1_ := Aside0.mk (hbox); have n2_ := Aside0.mk ((by rw [hg]; exact (below_size (by repeat (first | (with_reducible first | exact HB.out | apply below_alloc | apply pw_below_drewN | apply below_drew1) | exact HB.out))) : w.heap.size ≤ gb960)); have n3_ := Aside0.mk ((by rw [hg]; exact (below_size (by repeat (first | (with_reducible first | exact HB.out | apply below_alloc | apply pw_below_drewN | apply below_drew1) | exact HB.out))) : w.heap.size ≤ gb960)); clear HB; have HB := n0_; have BK960 := n1_; have GW960 := n2_; have GE960 := n3_; clear n0_ n1_ n2_ n3_; clear hb hbox hg; have hcz32_0 : w31.cell? ⟨gb960, 0, none⟩ = some (.int .i64 0) := (blk_cell BK960.out 0).trans rfl; have hcz32_1 : w31.cell? ⟨gb960, 1, none⟩ = some (.complex .f64 0 0) := (blk_cell BK960.out 1).trans rfl; have hcz32_2 : w31.cell? ⟨gb960, 2, none⟩ = some (.bool false) := (blk_cell BK960.out 2).trans rfl; have hfz32_0 := blk_frozen BK960.out 0; have hfz32_1 := blk_frozen BK960.out 1; have hfz32_2 := blk_frozen BK960.out 2) | ((with_reducible refine gate_callee (f := 68) rfl ?_); refine goesL_ (some 46) rfl rfl Try.func68 (by kernel_rfl) rfl #[.int .i64 5, .slice none 0 0] rfl (by (try simp only [List.map_toArray, List.map_cons, List.map_nil]); first | done | rfl | (simp only [List.length_drop, List.length_take]; rfl)) ?_; (refine (slice_Row.calls k 5 _ _ ([] : List (S101)) t961 t962 _ ?side1 ?side2 A10.out).mono ?_); (case side1 => exact Kd.C_nil _ _); (case side2 => exact Nat.le_refl _); rintro e w33 ⟨v963, rfl, ho0, hb⟩; refine ⟨_, rfl, ?_⟩; have n0_ := Aside0.mk (Kd.R_lower (Kd.R_newB ho0 (g := gb960) (o := .cells #[.int .i64 t956, .complex .f64 t957.1 t957.2, .bool t958] 83 (0, 0)) (by (with_reducible repeat (first | refine blk_drewN ?_ _ | refine blk_drew ?_ | refine blk_alloc ?_ _)); refine blk_put (cs := #[.int .i64 t956, .complex .f64 t957.1 t957.2, .bool false]) ?_ 2 _ rfl; (with_reducible repeat (first | refine blk_drewN ?_ _ | refine blk_drew ?_ | refine blk_alloc ?_ _)); refine blk_put (cs := #[.int .i64 t956, .complex .f64 0 0, .bool false]) ?_ 1 _ rfl; (with_reducible repeat (first | refine blk_drewN ?_ _ | refine blk_drew ?_ | refine blk_alloc ?_ _)); refine blk_put (cs := #[.int .i64 0, .complex .f64 0 0, .bool false]) ?_ 0 _ rfl; (with_reducible repeat (first | refine blk_drewN ?_ _ | refine blk_drew ?_ | refine blk_alloc ?_ _)); exact BK960.out)) (below_size (by repeat (first | (with_reducible first | exact HB.out | apply below_alloc | apply pw_below_drewN | apply below_drew1 | refine below_set ?_ GE960.out) | exact HB.out)))); have n1_ := Aside0.mk (blk_below (g := gb960) (o := .cells #[.int .i64 t956, .complex .f64 t957.1 t957.2, .bool t958] 83 (0, 0)) (by (with_reducible repeat (first | refine blk_drewN ?_ _ | refine blk_drew ?_ | refine blk_alloc ?_ _)); refine blk_put (cs := #[.int .i64 t956, .complex .f64 t957.1 t957.2, .bool false]) ?_ 2 _ rfl; (with_reducible repeat (first | refine blk_drewN ?_ _ | refine blk_drew ?_ | refine blk_alloc ?_ _)); refine blk_put (cs := #[.int .i64 t956, .complex .f64 0 0, .bool false]) ?_ 1 _ rfl; (with_reducible repeat (first | refine blk_drewN ?_ _ | refine blk_drew ?_ | refine blk_alloc ?_ _)); refine blk_put (cs := #[.int .i64 0, .complex .f64 0 0, .bool false]) ?_ 0 _ rfl; (with_reducible repeat (first | refine blk_drewN ?_ _ | refine blk_drew ?_ | refine blk_alloc ?_ _)); exact BK960.out) hb); have n2_ := Aside0.mk (below_step (by repeat (first | (with_reducible first | exact HB.out | apply below_alloc | apply pw_below_drewN | apply below_drew1 | refine below_set ?_ GE960.out) | exact HB.out)) hb); clear BK960; clear HB; have HO964 := n0_; have BK960 := n1_; have HB := n2_; clear n0_ n1_ n2_; (try clear hb); (try clear hb2); (try clear hk); (try clear hi); (try clear ho0)) | ((with_reducible refine gate_callee (f := 68) rfl ?_); refine goesL_ (some 50) rfl rfl Try.func68 (by kernel_rfl) rfl #[.int .i64 4, .slice none 0 0] rfl (by (try simp only [List.map_toArray, List.map_cons, List.map_nil]); first | done | rfl | (simp only [List.length_drop, List.length_take]; rfl)) ?_; (refine (slice_Row.calls k 4 _ _ ([] : List (S101)) t965 t966 _ ?side1 ?side2 A11.out).mono ?_); (case side1 => exact Kd.C_nil _ _); (case side2 => exact Nat.le_refl _); rintro e w34 ⟨v967, rfl, ho0, hb⟩; refine ⟨_, rfl, ?_⟩; have n0_ := Aside0.mk (Kd.R_elder' (by (with_reducible repeat (first | apply Kd.R_alloc | apply Kd.R_drewN | apply Kd.R_drew)); exact HO964.out) (Kd.R_base ho0) hb); have n1_ := Aside0.mk (Kd.R_lower (Kd.R_newB (Kd.R_new' ho0 (Kd.R_lt (by (with_reducible repeat (first | apply Kd.R_alloc | apply Kd.R_drewN | apply Kd.R_drew)); exact HO964.out))) (g := gb960) (o := .cells #[.int .i64 t956, .complex .f64 t957.1 t957.2, .bool t958] 83 (0, 0)) (by (with_reducible repeat (first | refine blk_drewN ?_ _ | refine blk_drew ?_ | refine blk_alloc ?_ _)); exact BK960.out)) (below_size (by repeat (first | (with_reducible first | exact HB.out | apply below_alloc | apply pw_below_drewN | apply below_drew1 | refine below_set ?_ GE960.out) | exact HB.out)))); have n2_ := Aside0.mk (blk_below (g := gb960) (o := .cells #[.int .i64 t956, .complex .f64 t957.1 t957.2, .bool t958] 83 (0, 0)) (by (with_reducible repeat (first | refine blk_drewN ?_ _ | refine blk_drew ?_ | refine blk_alloc ?_ _)); exact BK960.out) hb); have n3_ := Aside0.mk (below_step (by repeat (first | (with_reducible first | exact HB.out | apply below_alloc | apply pw_below_drewN | apply below_drew1 | refine below_set ?_ GE960.out) | exact HB.out)) hb); clear HO964; clear BK960; clear HB; have HO964 := n0_; have HO968 := n1_; have BK960 := n2_; have HB := n3_; clear n0_ n1_ n2_ n3_; (try clear hb); (try clear hb2); (try clear hk); (try clear hi); (try clear ho0); have hcz35_0 : w34.cell? ⟨gb960, 0, none⟩ = some (.int .i64 t956) := (blk_cell BK960.out 0).trans rfl; have hcz35_1 : w34.cell? ⟨gb960, 1, none⟩ = some (.complex .f64 t957.1 t957.2) := (blk_cell BK960.out 1).trans rfl; have hcz35_2 : w34.cell? ⟨gb960, 2, none⟩ = some (.bool t958) := (blk_cell BK960.out 2).trans rfl; have hfz35_0 := blk_frozen BK960.out 0; have hfz35_1 := blk_frozen BK960.out 1; have hfz35_2 := blk_frozen BK960.out 2; obtain ⟨Ao36, co36, eo36⟩ := Kd.R_slice HO968.out; subst eo36) | (go_at_call 71; (refine (slice_Lost.calls k _ _ ([] : List (S83)) t969 _ ?side1 ?side2 A24.out).mono ?_); (case side1 => exact Kd.C_nil _ _); (case side2 => exact Nat.le_refl _); rintro e w37 ⟨v970, rfl, ho0, hb⟩; have n0_ := Aside0.mk (Kd.R_below (by (with_reducible repeat (first | apply Kd.R_alloc | apply Kd.R_drewN | apply Kd.R_drew)); exact HO964.out) hb); have n1_ := Aside0.mk (Kd.R_below (by (with_reducible repeat (first | apply Kd.R_alloc | apply Kd.R_drewN | apply Kd.R_drew)); exact HO968.out) hb); have n2_ := Aside0.mk (Kd.R_lower ho0 (below_size (by repeat (first | (with_reducible first | exact HB.out | apply below_alloc | apply pw_below_drewN | apply below_drew1 | refine below_set ?_ GE960.out) | exact HB.out)))); have n3_ := Aside0.mk (blk_below (g := gb960) (o := .cells #[.int .i64 t956, .complex .f64 t957.1 t957.2, .bool t958] 83 (0, 0)) (by (with_reducible repeat (first | refine blk_drewN ?_ _ | refine blk_drew ?_ | refine blk_alloc ?_ _)); exact BK960.out) hb); have n4_ := Aside0.mk (below_step (by repeat (first | (with_reducible first | exact HB.out | apply below_alloc | apply pw_below_drewN | apply below_drew1 | refine below_set ?_ GE960.out) | exact HB.out)) hb); clear HO964; clear HO968; clear BK960; clear HB; have HO964 := n0_; have HO968 := n1_; have HO971 := n2_; have BK960 := n3_; have HB := n4_; clear n0_ n1_ n2_ n3_ n4_; (try clear hb); (try clear hb2); (try clear hk); (try clear hi); (try clear ho0); obtain ⟨Ao38, co38, eo38⟩ := Kd.R_slice HO971.out; subst eo38))
              go_ret
              exact ⟨by first | rfl | (simp [errW_none, errW_some] <;> rfl) | (simp [*, errW_none, errW_some] <;> rfl), by repeat (first | (with_reducible first | exact HB.out | apply below_alloc | apply pw_below_drewN | apply below_drew1 | refine below_set ?_ GE960.out) | exact HB.out)⟩
            ·rw [if_neg c23] at H
             have c23b0 : (t966 == 0) = false := beq_eq_false_iff_ne.mpr c23
             have c23b1 : (t966 != 0) = true := bne_iff_ne.mpr c23
             as_aux_lemma =>
              exact absurd ((Option.some.inj H).trans HQ_.out) (by decide)
           ·rw [if_neg c22] at H
            have c22b0 : ((t965.length : Int) == 0) = false := beq_eq_false_iff_ne.mpr c22
            have c22b1 : ((t965.length : Int) != 0) = true := bne_iff_ne.mpr c22
            have c22b2 : ¬ (t965 = []) := fun h_ => c22 (by rw [h_]; rfl)
            as_aux_lemma =>
             exact absurd ((Option.some.inj H).trans HQ_.out) (by decide)
          ·rw [if_neg c21] at H
           have c21b0 : (t962 == 1) = false := beq_eq_false_iff_ne.mpr c21
           have c21b1 : (t962 != 1) = true := bne_iff_ne.mpr c21
           as_aux_lemma =>
            exact absurd ((Option.some.inj H).trans HQ_.out) (by decide)
         ·rw [if_neg c20] at H
          have c20b0 : (t959 == 0) = false := beq_eq_false_iff_ne.mpr c20
          have c20b1 : (t959 != 0) = true := bne_iff_ne.mpr c20
          as_aux_lemma =>
           exact absurd ((Option.some.inj H).trans HQ_.out) (by decide)
        ·rw [if_neg c19] at H
         have c19b0 : (t956 == 0 && (((FloatKind.f64.format.order t957.1 0 == some .eq) && (FloatKind.f64.format.order t957.2 0 == some .eq)) && (t958))) = false := by simpa using c19
         (try (have c19b1 : decide (t956 = 0 && (((FloatKind.f64.format.order t957.1 0 == some .eq) && (FloatKind.f64.format.order t957.2 0 == some .eq)) && (t958))) = false := by simpa using c19))
         (try (have c19b2 : (t956 == 0 && (((FloatKind.f64.format.order t957.1 0 == some .eq) && (FloatKind.f64.format.order t957.2 0 == some .eq)) && (t958))) = false := by simpa using c19))
         (try (have c19b3 : ¬ (t956 = 0 && (((FloatKind.f64.format.order t957.1 0 == some .eq) && (FloatKind.f64.format.order t957.2 0 == some .eq)) && (t958))) := by simpa using c19))
         clear c19
         as_aux_lemma =>
          exact absurd ((Option.some.inj H).trans HQ_.out) (by decide)
       ·rw [if_neg c18] at H
        have c18b0 : (t954 == 1) = false := beq_eq_false_iff_ne.mpr c18
        have c18b1 : (t954 != 1) = true := bne_iff_ne.mpr c18
        as_aux_lemma =>
         exact absurd ((Option.some.inj H).trans HQ_.out) (by decide)
      ·rw [if_neg c17] at H
       have c17b0 : (t952 == 1) = false := beq_eq_false_iff_ne.mpr c17
       have c17b1 : (t952 != 1) = true := bne_iff_ne.mpr c17
       as_aux_lemma =>
        exact absurd ((Option.some.inj H).trans HQ_.out) (by decide)
     ·rw [if_neg c16] at H
      have c16b0 : (t950 == 1) = false := beq_eq_false_iff_ne.mpr c16
      have c16b1 : (t950 != 1) = true := bne_iff_ne.mpr c16
      as_aux_lemma =>
       exact absurd ((Option.some.inj H).trans HQ_.out) (by decide)
    ·rw [if_neg c15] at H
     have c15b0 : (t947 == 0) = false := beq_eq_false_iff_ne.mpr c15
     have c15b1 : (t947 != 0) = true := bne_iff_ne.mpr c15
     as_aux_lemma =>
      exact absurd ((Option.some.inj H).trans HQ_.out) (by decide)
   ·rw [if_neg c14] at H
    have c14b0 : (t946 == (-3)) = false := beq_eq_false_iff_ne.mpr c14
    have c14b1 : (t946 != (-3)) = true := bne_iff_ne.mpr c14
    as_aux_lemma =>
     exact absurd ((Option.some.inj H).trans HQ_.out) (by decide)
  ·rw [if_neg c13] at H
   have c13b0 : (t944 == 0) = false := beq_eq_false_iff_ne.mpr c13
   have c13b1 : (t944 != 0) = true := bne_iff_ne.mpr c13
   as_aux_lemma =>
    exact absurd ((Option.some.inj H).trans HQ_.out) (by decide)
 ·rw [if_neg c12] at H
  have c12b0 : (t943 == (-1)) = false := beq_eq_false_iff_ne.mpr c12
  have c12b1 : (t943 != (-1)) = true := bne_iff_ne.mpr c12
  as_aux_lemma =>
   exact absurd ((Option.some.inj H).trans HQ_.out) (by decide)

theorem foghornlaw05_SliceNames.walk (P : foghornlaw05_SliceNames.Pure)  (w : World)  :
  Calls Try.prog 15 #[] w fun e w' => e = .returned (.bool true) ∧ Below w.heap.size w w' := by
 obtain ⟨k, h⟩ := P  
 refine (foghornlaw05_SliceNames.calls k  true w h rfl).mono ?_
 rintro e w' ⟨rfl, hd⟩
 exact ⟨rfl, hd⟩

end Go.Proofs.Ythfcafllcgjepaa.Q
