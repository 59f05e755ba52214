-- Printed by myprint.py (ours) over the kit's printer, out of the translation.
import Derived.Test.YthfcafllcgjepaaSliceAxesK0
import Derived.Test.YthfcafllcgjepaaSliceAxesF0
import Derived.Test.YthfcafllcgjepaaSliceAxesQ0
import Derived.Test.YthfcafllcgjepaaSliceAxesQ2
namespace Go.Proofs.Ythfcafllcgjepaa.Q
open Go.RowKit Go.Proofs.YthfcafllcgjepaaW.PrintWords Go.Proofs.YthfcafllcgjepaaW.PrintLast Go.Proofs.YthfcafllcgjepaaW.PrintMore
attribute [local go_sem] ArrW.ptrOf_slice unary_neg_float unary_neg_complex run_store_float run_store_complex max2_int min2_int max_two min_two max_three min_three max_four min_four   -- for this text's walks alone
set_option linter.unusedVariables false
set_option linter.unusedSimpArgs false

/-! ### foghornlaw05_SliceAxes: function 7 -/
set_option maxHeartbeats 8000000 in
set_option maxRecDepth 100000 in
theorem foghornlaw05_SliceAxes.calls (k : Nat) (a0 : Int) (a1 : Int) (a2 : Int) (a3 : Int) (a4 : Int) (r : Bool) (w : World) (h : foghornlaw05_SliceAxes.f k a0 a1 a2 a3 a4 = some r) (hq_ : r = true) :
  Calls Try.prog 7 #[.int .u64 a0, .int .u64 a1, .int .i64 a2, .int .i64 a3, .int .i64 a4] w fun e w' => e = .returned (.bool r) ∧ Below w.heap.size w w' := by
 have HQ_ := Aside0.mk hq_
 clear hq_
 have HB := Aside0.mk (Below.refl w.heap.size w)
 have H : ((foghornlaw05_number.f a0 a1).bind fun t543 => ((foghornref05_Axis.f k t543.1 a2).bind fun bt544 => ((slice_Axis.f k t543.1 a2).bind fun bt546 => ((foghornref05_Cut.f k a3 t543).bind fun bt548 => ((slice_Cut.f a3 t543).bind fun bt550 => ((foghornref05_Gap.f k a3 t543 a4).bind fun bt552 => ((slice_Gap.f a3 t543 a4).bind fun bt554 => (if bt544.1 = bt546.1 then (if bt544.2 = bt546.2 then (if ((FloatKind.f64.format.order bt548.1.1 bt550.1.1 == some .eq) && (FloatKind.f64.format.order bt548.1.2 bt550.1.2 == some .eq)) = true then (if bt548.2 = bt550.2 then (if (FloatKind.f64.format.order bt552.1 bt554.1 == some .eq) = true then (some (bt552.2 == bt554.2)) else (some false)) else (some false)) else (some false)) else (some false)) else (some false))))))))) = some r := h
 clear h
 replace H := Option.bind_eq_some_iff.mp H
 obtain ⟨t543, A60, H⟩ := H
 replace H : ((foghornref05_Axis.f k t543.1 a2).bind fun bt544 => ((slice_Axis.f k t543.1 a2).bind fun bt546 => ((foghornref05_Cut.f k a3 t543).bind fun bt548 => ((slice_Cut.f a3 t543).bind fun bt550 => ((foghornref05_Gap.f k a3 t543 a4).bind fun bt552 => ((slice_Gap.f a3 t543 a4).bind fun bt554 => (if bt544.1 = bt546.1 then (if bt544.2 = bt546.2 then (if ((FloatKind.f64.format.order bt548.1.1 bt550.1.1 == some .eq) && (FloatKind.f64.format.order bt548.1.2 bt550.1.2 == some .eq)) = true then (if bt548.2 = bt550.2 then (if (FloatKind.f64.format.order bt552.1 bt554.1 == some .eq) = true then (some (bt552.2 == bt554.2)) else (some false)) else (some false)) else (some false)) else (some false)) else (some false)))))))) = some r := H
 have A6 := Aside0.mk A60
 clear A60
 replace H := Option.bind_eq_some_iff.mp H
 obtain ⟨⟨t544, t545⟩, A70, H⟩ := H
 replace H : ((slice_Axis.f k t543.1 a2).bind fun bt546 => ((foghornref05_Cut.f k a3 t543).bind fun bt548 => ((slice_Cut.f a3 t543).bind fun bt550 => ((foghornref05_Gap.f k a3 t543 a4).bind fun bt552 => ((slice_Gap.f a3 t543 a4).bind fun bt554 => (if t544 = bt546.1 then (if t545 = bt546.2 then (if ((FloatKind.f64.format.order bt548.1.1 bt550.1.1 == some .eq) && (FloatKind.f64.format.order bt548.1.2 bt550.1.2 == some .eq)) = true then (if bt548.2 = bt550.2 then (if (FloatKind.f64.format.order bt552.1 bt554.1 == some .eq) = true then (some (bt552.2 == bt554.2)) else (some false)) else (some false)) else (some false)) else (some false)) else (some false))))))) = some r := H
 have A7 := Aside0.mk A70
 clear A70
 replace H := Option.bind_eq_some_iff.mp H
 obtain ⟨⟨t546, t547⟩, A80, H⟩ := H
 replace H : ((foghornref05_Cut.f k a3 t543).bind fun bt548 => ((slice_Cut.f a3 t543).bind fun bt550 => ((foghornref05_Gap.f k a3 t543 a4).bind fun bt552 => ((slice_Gap.f a3 t543 a4).bind fun bt554 => (if t544 = t546 then (if t545 = t547 then (if ((FloatKind.f64.format.order bt548.1.1 bt550.1.1 == some .eq) && (FloatKind.f64.format.order bt548.1.2 bt550.1.2 == some .eq)) = true then (if bt548.2 = bt550.2 then (if (FloatKind.f64.format.order bt552.1 bt554.1 == some .eq) = true then (some (bt552.2 == bt554.2)) else (some false)) else (some false)) else (some false)) else (some false)) else (some false)))))) = some r := H
 have A8 := Aside0.mk A80
 clear A80
 replace H := Option.bind_eq_some_iff.mp H
 obtain ⟨⟨t548, t549⟩, A90, H⟩ := H
 replace H : ((slice_Cut.f a3 t543).bind fun bt550 => ((foghornref05_Gap.f k a3 t543 a4).bind fun bt552 => ((slice_Gap.f a3 t543 a4).bind fun bt554 => (if t544 = t546 then (if t545 = t547 then (if ((FloatKind.f64.format.order t548.1 bt550.1.1 == some .eq) && (FloatKind.f64.format.order t548.2 bt550.1.2 == some .eq)) = true then (if t549 = bt550.2 then (if (FloatKind.f64.format.order bt552.1 bt554.1 == some .eq) = true then (some (bt552.2 == bt554.2)) else (some false)) else (some false)) else (some false)) else (some false)) else (some false))))) = some r := H
 have A9 := Aside0.mk A90
 clear A90
 replace H := Option.bind_eq_some_iff.mp H
 obtain ⟨⟨t550, t551⟩, A100, H⟩ := H
 replace H : ((foghornref05_Gap.f k a3 t543 a4).bind fun bt552 => ((slice_Gap.f a3 t543 a4).bind fun bt554 => (if t544 = t546 then (if t545 = t547 then (if ((FloatKind.f64.format.order t548.1 t550.1 == some .eq) && (FloatKind.f64.format.order t548.2 t550.2 == some .eq)) = true then (if t549 = t551 then (if (FloatKind.f64.format.order bt552.1 bt554.1 == some .eq) = true then (some (bt552.2 == bt554.2)) else (some false)) else (some false)) else (some false)) else (some false)) else (some false)))) = some r := H
 have A10 := Aside0.mk A100
 clear A100
 replace H := Option.bind_eq_some_iff.mp H
 obtain ⟨⟨t552, t553⟩, A110, H⟩ := H
 replace H : ((slice_Gap.f a3 t543 a4).bind fun bt554 => (if t544 = t546 then (if t545 = t547 then (if ((FloatKind.f64.format.order t548.1 t550.1 == some .eq) && (FloatKind.f64.format.order t548.2 t550.2 == some .eq)) = true then (if t549 = t551 then (if (FloatKind.f64.format.order t552 bt554.1 == some .eq) = true then (some (t553 == bt554.2)) else (some false)) else (some false)) else (some false)) else (some false)) else (some false))) = some r := H
 have A11 := Aside0.mk A110
 clear A110
 replace H := Option.bind_eq_some_iff.mp H
 obtain ⟨⟨t554, t555⟩, A120, H⟩ := H
 replace H : (if t544 = t546 then (if t545 = t547 then (if ((FloatKind.f64.format.order t548.1 t550.1 == some .eq) && (FloatKind.f64.format.order t548.2 t550.2 == some .eq)) = true then (if t549 = t551 then (if (FloatKind.f64.format.order t552 t554 == some .eq) = true then (some (t553 == t555)) else (some false)) else (some false)) else (some false)) else (some false)) else (some false)) = some r := H
 have A12 := Aside0.mk A120
 clear A120
 by_cases c13 : t544 = t546
 ·rw [if_pos c13] at H
  have c13b0 : (t544 == t546) = true := beq_iff_eq.mpr c13
  have c13b1 : (t544 != t546) = false := bne_eq_false_iff_eq.mpr c13
  clear c13
  by_cases c14 : t545 = t547
  ·rw [if_pos c14] at H
   have c14b0 : (t545 == t547) = true := beq_iff_eq.mpr c14
   have c14b1 : (t545 != t547) = false := bne_eq_false_iff_eq.mpr c14
   clear c14
   by_cases c15 : ((FloatKind.f64.format.order t548.1 t550.1 == some .eq) && (FloatKind.f64.format.order t548.2 t550.2 == some .eq)) = true
   ·rw [if_pos c15] at H
    have c15b0 : ((FloatKind.f64.format.order t548.1 t550.1 == some .eq) && (FloatKind.f64.format.order t548.2 t550.2 == some .eq)) = true := c15
    clear c15
    by_cases c16 : t549 = t551
    ·rw [if_pos c16] at H
     have c16b0 : (t549 == t551) = true := beq_iff_eq.mpr c16
     have c16b1 : (t549 != t551) = false := bne_eq_false_iff_eq.mpr c16
     clear c16
     by_cases c17 : (FloatKind.f64.format.order t552 t554 == some .eq) = true
     ·rw [if_pos c17] at H
      have c17b0 : (FloatKind.f64.format.order t552 t554 == some .eq) = true := c17
      (try (have c17b1 : decide (FloatKind.f64.format.order t552 t554 = some .eq) = true := by simpa using c17))
      (try (have c17b2 : (FloatKind.f64.format.order t552 t554 == some .eq) = true := by simpa using c17))
      clear c17
      as_aux_lemma =>
       obtain rfl := Option.some.inj H
       go_enter Try.func7, Try.ntmps7
       go_wp2_with (first | ((with_reducible refine gate_callee (f := 45) rfl ?_); refine goesL_ (some 26) rfl rfl Try.func45 (by kernel_rfl) rfl #[.int .u64 a0, .int .u64 a1] rfl (by (try simp only [List.map_toArray, List.map_cons, List.map_nil]); first | done | rfl | (simp only [List.length_drop, List.length_take]; rfl)) ?_; (with_reducible refine (foghornlaw05_number.calls a0 a1 t543 _ A6.out).mono ?_); rintro e w18 ⟨rfl, hb⟩; refine ⟨_, rfl, ?_⟩; have n0_ := Aside0.mk (below_step (by repeat (first | (with_reducible first | exact HB.out | apply below_alloc | apply pw_below_drewN | apply below_drew1) | exact HB.out)) hb); clear HB; have HB := n0_; clear n0_; (try clear hb); (try clear hb2); (try clear hk); (try clear hi)) | ((with_reducible refine gate_callee (f := 46) rfl ?_); refine goesL_ (some 31) rfl rfl Try.func46 (by kernel_rfl) rfl #[.float .f64 t543.1, .int .i64 a2] rfl (by (try simp only [List.map_toArray, List.map_cons, List.map_nil]); first | done | rfl | (simp only [List.length_drop, List.length_take]; rfl)) ?_; (with_reducible refine (foghornref05_Axis.calls k t543.1 a2 t544 t545 _ A7.out).mono ?_); rintro e w' ⟨rfl, ⟨nd, rfl⟩⟩; refine ⟨_, rfl, ?_⟩) | ((with_reducible refine gate_callee (f := 47) rfl ?_); refine goesL_ (some 38) rfl rfl Try.func47 (by kernel_rfl) rfl #[.float .f64 t543.1, .int .i64 a2] rfl (by (try simp only [List.map_toArray, List.map_cons, List.map_nil]); first | done | rfl | (simp only [List.length_drop, List.length_take]; rfl)) ?_; (with_reducible refine (slice_Axis.calls k t543.1 a2 t546 t547 _ A8.out).mono ?_); rintro e w19 ⟨rfl, hb⟩; refine ⟨_, rfl, ?_⟩; have n0_ := Aside0.mk (below_step (by repeat (first | (with_reducible first | exact HB.out | apply below_alloc | apply pw_below_drewN | apply below_drew1) | exact HB.out)) hb); clear HB; have HB := n0_; clear n0_; (try clear hb); (try clear hb2); (try clear hk); (try clear hi)) | ((with_reducible refine gate_callee (f := 48) rfl ?_); refine goesL_ (some 44) rfl rfl Try.func48 (by kernel_rfl) rfl #[.int .i64 a3, .complex .f64 t543.1 t543.2] rfl (by (try simp only [List.map_toArray, List.map_cons, List.map_nil]); first | done | rfl | (simp only [List.length_drop, List.length_take]; rfl)) ?_; (with_reducible refine (foghornref05_Cut.calls k a3 t543 t548 t549 _ A9.out).mono ?_); rintro e w20 ⟨rfl, hb⟩; refine ⟨_, rfl, ?_⟩; have n0_ := Aside0.mk (below_step (by repeat (first | (with_reducible first | exact HB.out | apply below_alloc | apply pw_below_drewN | apply below_drew1) | exact HB.out)) hb); clear HB; have HB := n0_; clear n0_; (try clear hb); (try clear hb2); (try clear hk); (try clear hi)) | ((with_reducible refine gate_callee (f := 49) rfl ?_); refine goesL_ (some 50) rfl rfl Try.func49 (by kernel_rfl) rfl #[.int .i64 a3, .complex .f64 t543.1 t543.2] rfl (by (try simp only [List.map_toArray, List.map_cons, List.map_nil]); first | done | rfl | (simp only [List.length_drop, List.length_take]; rfl)) ?_; (with_reducible refine (slice_Cut.calls a3 t543 t550 t551 _ A10.out).mono ?_); rintro e w21 ⟨rfl, hb⟩; refine ⟨_, rfl, ?_⟩; have n0_ := Aside0.mk (below_step (by repeat (first | (with_reducible first | exact HB.out | apply below_alloc | apply pw_below_drewN | apply below_drew1) | exact HB.out)) hb); clear HB; have HB := n0_; clear n0_; (try clear hb); (try clear hb2); (try clear hk); (try clear hi)) | ((with_reducible refine gate_callee (f := 50) rfl ?_); refine goesL_ (some 57) rfl rfl Try.func50 (by kernel_rfl) rfl #[.int .i64 a3, .complex .f64 t543.1 t543.2, .int .i64 a4] rfl (by (try simp only [List.map_toArray, List.map_cons, List.map_nil]); first | done | rfl | (simp only [List.length_drop, List.length_take]; rfl)) ?_; (with_reducible refine (foghornref05_Gap.calls k a3 t543 a4 t552 t553 _ A11.out).mono ?_); rintro e w22 ⟨rfl, hb⟩; refine ⟨_, rfl, ?_⟩; have n0_ := Aside0.mk (below_step (by repeat (first | (with_reducible first | exact HB.out | apply below_alloc | apply pw_below_drewN | apply below_drew1) | exact HB.out)) hb); clear HB; have HB := n0_; clear n0_; (try clear hb); (try clear hb2); (try clear hk); (try clear hi)) | ((with_reducible refine gate_callee (f := 51) rfl ?_); refine goesL_ (some 64) rfl rfl Try.func51 (by kernel_rfl) rfl #[.int .i64 a3, .complex .f64 t543.1 t543.2, .int .i64 a4] rfl (by (try simp only [List.map_toArray, List.map_cons, List.map_nil]); first | done | rfl | (simp only [List.length_drop, List.length_take]; rfl)) ?_; (with_reducible refine (slice_Gap.calls a3 t543 a4 t554 t555 _ A12.out).mono ?_); rintro e w23 ⟨rfl, hb⟩; refine ⟨_, rfl, ?_⟩; have n0_ := Aside0.mk (below_step (by repeat (first | (with_reducible first | exact HB.out | apply below_alloc | apply pw_below_drewN | apply below_drew1) | exact HB.out)) hb); clear HB; have HB := n0_; clear n0_; (try clear hb); (try clear hb2); (try clear hk); (try clear hi)))
       go_ret
       exact ⟨by first | rfl | (simp [errW_none, errW_some] <;> rfl) | (simp [*, errW_none, errW_some] <;> rfl), by repeat (first | (with_reducible first | exact HB.out | apply below_alloc | apply pw_below_drewN | apply below_drew1) | exact HB.out)⟩
     ·rw [if_neg c17] at H
      have c17b0 : (FloatKind.f64.format.order t552 t554 == some .eq) = false := by simpa using c17
      (try (have c17b1 : decide (FloatKind.f64.format.order t552 t554 = some .eq) = false := by simpa using c17))
      (try (have c17b2 : (FloatKind.f64.format.order t552 t554 == some .eq) = false := by simpa using c17))
      (try (have c17b3 : ¬ (FloatKind.f64.format.order t552 t554 = some .eq) := by simpa using c17))
      clear c17
      as_aux_lemma =>
       exact absurd ((Option.some.inj H).trans HQ_.out) (by decide)
    ·rw [if_neg c16] at H
     have c16b0 : (t549 == t551) = false := beq_eq_false_iff_ne.mpr c16
     have c16b1 : (t549 != t551) = true := bne_iff_ne.mpr c16
     as_aux_lemma =>
      exact absurd ((Option.some.inj H).trans HQ_.out) (by decide)
   ·rw [if_neg c15] at H
    have c15b0 : ((FloatKind.f64.format.order t548.1 t550.1 == some .eq) && (FloatKind.f64.format.order t548.2 t550.2 == some .eq)) = false := by simpa using c15
    clear c15
    as_aux_lemma =>
     exact absurd ((Option.some.inj H).trans HQ_.out) (by decide)
  ·rw [if_neg c14] at H
   have c14b0 : (t545 == t547) = false := beq_eq_false_iff_ne.mpr c14
   have c14b1 : (t545 != t547) = true := bne_iff_ne.mpr c14
   as_aux_lemma =>
    exact absurd ((Option.some.inj H).trans HQ_.out) (by decide)
 ·rw [if_neg c13] at H
  have c13b0 : (t544 == t546) = false := beq_eq_false_iff_ne.mpr c13
  have c13b1 : (t544 != t546) = true := bne_iff_ne.mpr c13
  as_aux_lemma =>
   exact absurd ((Option.some.inj H).trans HQ_.out) (by decide)

theorem foghornlaw05_SliceAxes.walk (P : foghornlaw05_SliceAxes.Pure) (a0 : Int) (a1 : Int) (a2 : Int) (a3 : Int) (a4 : Int) (w : World) (w0 : (Lit.int .u64 a0).wf = true) (w1 : (Lit.int .u64 a1).wf = true) (w2 : (Lit.int .i64 a2).wf = true) (w3 : (Lit.int .i64 a3).wf = true) (w4 : (Lit.int .i64 a4).wf = true) :
  Calls Try.prog 7 #[.int .u64 a0, .int .u64 a1, .int .i64 a2, .int .i64 a3, .int .i64 a4] w fun e w' => e = .returned (.bool true) ∧ Below w.heap.size w w' := by
 obtain ⟨k, h⟩ := P a0 a1 a2 a3 a4 w0 w1 w2 w3 w4
 refine (foghornlaw05_SliceAxes.calls k a0 a1 a2 a3 a4 true w h rfl).mono ?_
 rintro e w' ⟨rfl, hd⟩
 exact ⟨rfl, hd⟩

end Go.Proofs.Ythfcafllcgjepaa.Q
