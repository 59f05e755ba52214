-- Printed by myprint.py (ours) over the kit's printer, out of the translation.
import Derived.Test.YthfcafllcgjepaaSliceLeastK0
import Derived.Test.YthfcafllcgjepaaSliceLeastF0
import Derived.Test.YthfcafllcgjepaaSliceLeastQ0
import Derived.Test.YthfcafllcgjepaaSliceLeastQ2
import Derived.Test.YthfcafllcgjepaaSliceLeastQ3
namespace Go.Proofs.Ythfcafllcgjepaa.Q
open Go.RowKit Go.Proofs.YthfcafllcgjepaaW.PrintWords Go.Proofs.YthfcafllcgjepaaW.PrintLast Go.Proofs.YthfcafllcgjepaaW.PrintMore
attribute [local go_sem] ArrW.ptrOf_slice unary_neg_float unary_neg_complex run_store_float run_store_complex max2_int min2_int max_two min_two max_three min_three max_four min_four   -- for this text's walks alone
set_option linter.unusedVariables false
set_option linter.unusedSimpArgs false

/-! ### foghornlaw05_SliceLeast: function 11 -/
set_option maxHeartbeats 8000000 in
set_option maxRecDepth 100000 in
theorem foghornlaw05_SliceLeast.calls (k : Nat) (a0 : Int) (a1 : Int) (a2 : Int) (a3 : Int) (r : Bool) (w : World) (h : foghornlaw05_SliceLeast.f k a0 a1 a2 a3 = some r) (hq_ : r = true) :
  Calls Try.prog 11 #[.int .i64 a0, .int .i32 a1, .int .i32 a2, .int .i32 a3] w fun e w' => e = .returned (.bool r) ∧ Below w.heap.size w w' := by
 have HQ_ := Aside0.mk hq_
 clear hq_
 have hu83 := Try.underlying83
 have HB := Aside0.mk (Below.refl w.heap.size w)
 have H : ((foghornlaw05_awake.f k).bind fun t705 => (if t705 = true then ((foghornlaw05_size.f a0).bind fun t706 => ((floatBits .quo .f64 (floatOfInt .f64 a1) 4670232813583204352).bind fun t707 => ((floatBits .quo .f64 (floatOfInt .f64 a2) 4670232813583204352).bind fun t708 => ((slice_Decide.f k t706 (t707, t708)).bind fun bt709 => ((foghornref04_At.f k t706 bt709.1).bind fun bt714 => (if bt709.2.2.2 = 0 then (if bt714.2 = 0 then (if bt709.2.2.1 = true then (foghornlaw05_SliceLeast.j0 k a3 t706 (t707, t708) true bt709.1 bt709.2.1 bt709.2.2.1) else (foghornlaw05_SliceLeast.j0 k a3 t706 (t707, t708) (!((FloatKind.f64.format.order bt714.1.1 bt709.2.1.1 == some .eq) && (FloatKind.f64.format.order bt714.1.2 bt709.2.1.2 == some .eq))) bt709.1 bt709.2.1 bt709.2.2.1)) else (foghornlaw05_SliceLeast.j0 k a3 t706 (t707, t708) true bt709.1 bt709.2.1 bt709.2.2.1)) else (foghornlaw05_SliceLeast.j0 k a3 t706 (t707, t708) true bt709.1 bt709.2.1 bt709.2.2.1))))))) else (some false))) = some r := h
 clear h
 replace H := Option.bind_eq_some_iff.mp H
 obtain ⟨t705, A50, H⟩ := H
 replace H : (if t705 = true then ((foghornlaw05_size.f a0).bind fun t706 => ((floatBits .quo .f64 (floatOfInt .f64 a1) 4670232813583204352).bind fun t707 => ((floatBits .quo .f64 (floatOfInt .f64 a2) 4670232813583204352).bind fun t708 => ((slice_Decide.f k t706 (t707, t708)).bind fun bt709 => ((foghornref04_At.f k t706 bt709.1).bind fun bt714 => (if bt709.2.2.2 = 0 then (if bt714.2 = 0 then (if bt709.2.2.1 = true then (foghornlaw05_SliceLeast.j0 k a3 t706 (t707, t708) true bt709.1 bt709.2.1 bt709.2.2.1) else (foghornlaw05_SliceLeast.j0 k a3 t706 (t707, t708) (!((FloatKind.f64.format.order bt714.1.1 bt709.2.1.1 == some .eq) && (FloatKind.f64.format.order bt714.1.2 bt709.2.1.2 == some .eq))) bt709.1 bt709.2.1 bt709.2.2.1)) else (foghornlaw05_SliceLeast.j0 k a3 t706 (t707, t708) true bt709.1 bt709.2.1 bt709.2.2.1)) else (foghornlaw05_SliceLeast.j0 k a3 t706 (t707, t708) true bt709.1 bt709.2.1 bt709.2.2.1))))))) else (some false)) = some r := H
 have A5 := Aside0.mk A50
 clear A50
 by_cases c6 : t705 = true
 ·subst c6
  have H1 : ((foghornlaw05_size.f a0).bind fun t706 => ((floatBits .quo .f64 (floatOfInt .f64 a1) 4670232813583204352).bind fun t707 => ((floatBits .quo .f64 (floatOfInt .f64 a2) 4670232813583204352).bind fun t708 => ((slice_Decide.f k t706 (t707, t708)).bind fun bt709 => ((foghornref04_At.f k t706 bt709.1).bind fun bt714 => (if bt709.2.2.2 = 0 then (if bt714.2 = 0 then (if bt709.2.2.1 = true then (foghornlaw05_SliceLeast.j0 k a3 t706 (t707, t708) true bt709.1 bt709.2.1 bt709.2.2.1) else (foghornlaw05_SliceLeast.j0 k a3 t706 (t707, t708) (!((FloatKind.f64.format.order bt714.1.1 bt709.2.1.1 == some .eq) && (FloatKind.f64.format.order bt714.1.2 bt709.2.1.2 == some .eq))) bt709.1 bt709.2.1 bt709.2.2.1)) else (foghornlaw05_SliceLeast.j0 k a3 t706 (t707, t708) true bt709.1 bt709.2.1 bt709.2.2.1)) else (foghornlaw05_SliceLeast.j0 k a3 t706 (t707, t708) true bt709.1 bt709.2.1 bt709.2.2.1))))))) = some r := by rw [if_pos rfl] at H; exact H
  clear H
  have H := H1
  clear H1
  replace H := Option.bind_eq_some_iff.mp H
  obtain ⟨t706, A70, H⟩ := H
  replace H : ((floatBits .quo .f64 (floatOfInt .f64 a1) 4670232813583204352).bind fun t707 => ((floatBits .quo .f64 (floatOfInt .f64 a2) 4670232813583204352).bind fun t708 => ((slice_Decide.f k t706 (t707, t708)).bind fun bt709 => ((foghornref04_At.f k t706 bt709.1).bind fun bt714 => (if bt709.2.2.2 = 0 then (if bt714.2 = 0 then (if bt709.2.2.1 = true then (foghornlaw05_SliceLeast.j0 k a3 t706 (t707, t708) true bt709.1 bt709.2.1 bt709.2.2.1) else (foghornlaw05_SliceLeast.j0 k a3 t706 (t707, t708) (!((FloatKind.f64.format.order bt714.1.1 bt709.2.1.1 == some .eq) && (FloatKind.f64.format.order bt714.1.2 bt709.2.1.2 == some .eq))) bt709.1 bt709.2.1 bt709.2.2.1)) else (foghornlaw05_SliceLeast.j0 k a3 t706 (t707, t708) true bt709.1 bt709.2.1 bt709.2.2.1)) else (foghornlaw05_SliceLeast.j0 k a3 t706 (t707, t708) true bt709.1 bt709.2.1 bt709.2.2.1)))))) = some r := H
  have A7 := Aside0.mk A70
  clear A70
  replace H := Option.bind_eq_some_iff.mp H
  obtain ⟨t707, A80, H⟩ := H
  replace H : ((floatBits .quo .f64 (floatOfInt .f64 a2) 4670232813583204352).bind fun t708 => ((slice_Decide.f k t706 (t707, t708)).bind fun bt709 => ((foghornref04_At.f k t706 bt709.1).bind fun bt714 => (if bt709.2.2.2 = 0 then (if bt714.2 = 0 then (if bt709.2.2.1 = true then (foghornlaw05_SliceLeast.j0 k a3 t706 (t707, t708) true bt709.1 bt709.2.1 bt709.2.2.1) else (foghornlaw05_SliceLeast.j0 k a3 t706 (t707, t708) (!((FloatKind.f64.format.order bt714.1.1 bt709.2.1.1 == some .eq) && (FloatKind.f64.format.order bt714.1.2 bt709.2.1.2 == some .eq))) bt709.1 bt709.2.1 bt709.2.2.1)) else (foghornlaw05_SliceLeast.j0 k a3 t706 (t707, t708) true bt709.1 bt709.2.1 bt709.2.2.1)) else (foghornlaw05_SliceLeast.j0 k a3 t706 (t707, t708) true bt709.1 bt709.2.1 bt709.2.2.1))))) = some r := H
  have A8 := Aside0.mk A80
  clear A80
  replace H := Option.bind_eq_some_iff.mp H
  obtain ⟨t708, A90, H⟩ := H
  replace H : ((slice_Decide.f k t706 (t707, t708)).bind fun bt709 => ((foghornref04_At.f k t706 bt709.1).bind fun bt714 => (if bt709.2.2.2 = 0 then (if bt714.2 = 0 then (if bt709.2.2.1 = true then (foghornlaw05_SliceLeast.j0 k a3 t706 (t707, t708) true bt709.1 bt709.2.1 bt709.2.2.1) else (foghornlaw05_SliceLeast.j0 k a3 t706 (t707, t708) (!((FloatKind.f64.format.order bt714.1.1 bt709.2.1.1 == some .eq) && (FloatKind.f64.format.order bt714.1.2 bt709.2.1.2 == some .eq))) bt709.1 bt709.2.1 bt709.2.2.1)) else (foghornlaw05_SliceLeast.j0 k a3 t706 (t707, t708) true bt709.1 bt709.2.1 bt709.2.2.1)) else (foghornlaw05_SliceLeast.j0 k a3 t706 (t707, t708) true bt709.1 bt709.2.1 bt709.2.2.1)))) = some r := H
  have A9 := Aside0.mk A90
  clear A90
  replace H := Option.bind_eq_some_iff.mp H
  obtain ⟨⟨t709, t710, t711, t712⟩, A100, H⟩ := H
  replace H : ((foghornref04_At.f k t706 t709).bind fun bt714 => (if t712 = 0 then (if bt714.2 = 0 then (if t711 = true then (foghornlaw05_SliceLeast.j0 k a3 t706 (t707, t708) true t709 t710 t711) else (foghornlaw05_SliceLeast.j0 k a3 t706 (t707, t708) (!((FloatKind.f64.format.order bt714.1.1 t710.1 == some .eq) && (FloatKind.f64.format.order bt714.1.2 t710.2 == some .eq))) t709 t710 t711)) else (foghornlaw05_SliceLeast.j0 k a3 t706 (t707, t708) true t709 t710 t711)) else (foghornlaw05_SliceLeast.j0 k a3 t706 (t707, t708) true t709 t710 t711))) = some r := H
  have A10 := Aside0.mk A100
  clear A100
  replace H := Option.bind_eq_some_iff.mp H
  obtain ⟨⟨t714, t715⟩, A110, H⟩ := H
  replace H : (if t712 = 0 then (if t715 = 0 then (if t711 = true then (foghornlaw05_SliceLeast.j0 k a3 t706 (t707, t708) true t709 t710 t711) else (foghornlaw05_SliceLeast.j0 k a3 t706 (t707, t708) (!((FloatKind.f64.format.order t714.1 t710.1 == some .eq) && (FloatKind.f64.format.order t714.2 t710.2 == some .eq))) t709 t710 t711)) else (foghornlaw05_SliceLeast.j0 k a3 t706 (t707, t708) true t709 t710 t711)) else (foghornlaw05_SliceLeast.j0 k a3 t706 (t707, t708) true t709 t710 t711)) = some r := H
  have A11 := Aside0.mk A110
  clear A110
  have HC12 := Aside0.mk H
  clear H
  go_enter Try.func11, Try.ntmps11
  go_upto_region 7 with (first | ((with_reducible refine gate_callee (f := 62) rfl ?_); refine goesL_ (some 26) rfl rfl Try.func62 (by kernel_rfl) rfl #[] rfl (by (try simp only [List.map_toArray, List.map_cons, List.map_nil]); first | done | rfl | (simp only [List.length_drop, List.length_take]; rfl)) ?_; (with_reducible refine (foghornlaw05_awake.calls k  true _ A5.out).mono ?_); rintro e w13 ⟨rfl, hb⟩; refine ⟨_, rfl, ?_⟩; have n0_ := Aside0.mk (below_step (by repeat (first | (with_reducible first | exact HB.out | apply below_alloc | apply pw_below_drewN | apply below_drew1) | exact HB.out)) hb); clear HB; have HB := n0_; clear n0_; (try clear hb); (try clear hb2); (try clear hk); (try clear hi)) | ((with_reducible refine gate_callee (f := 63) rfl ?_); refine goesL_ (some 29) rfl rfl Try.func63 (by kernel_rfl) rfl #[.int .i64 a0] rfl (by (try simp only [List.map_toArray, List.map_cons, List.map_nil]); first | done | rfl | (simp only [List.length_drop, List.length_take]; rfl)) ?_; (with_reducible refine (foghornlaw05_size.calls a0 t706 _ A7.out).mono ?_); rintro e w14 ⟨rfl, hb⟩; refine ⟨_, rfl, ?_⟩; have n0_ := Aside0.mk (below_step (by repeat (first | (with_reducible first | exact HB.out | apply below_alloc | apply pw_below_drewN | apply below_drew1) | exact HB.out)) hb); clear HB; have HB := n0_; clear n0_; (try clear hb); (try clear hb2); (try clear hk); (try clear hi); have hfoA8_ := fun (t_ : TypeId) (w_ : World) => run_float_arith (P := Try.prog) w_ .quo t_ .f64 (floatOfInt .f64 a1) 4670232813583204352 t707 A8.out; have hfoA9_ := fun (t_ : TypeId) (w_ : World) => run_float_arith (P := Try.prog) w_ .quo t_ .f64 (floatOfInt .f64 a2) 4670232813583204352 t708 A9.out) | ((with_reducible refine gate_callee (f := 53) rfl ?_); refine goesL_ (some 40) rfl rfl Try.func53 (by kernel_rfl) rfl #[.int .i64 t706, .complex .f64 t707 t708] rfl (by (try simp only [List.map_toArray, List.map_cons, List.map_nil]); first | done | rfl | (simp only [List.length_drop, List.length_take]; rfl)) ?_; (with_reducible refine (slice_Decide.calls k t706 (t707, t708) t709 t710 t711 t712 _ A10.out).mono ?_); rintro e w15 ⟨rfl, hb⟩; refine ⟨_, rfl, ?_⟩; have n0_ := Aside0.mk (below_step (by repeat (first | (with_reducible first | exact HB.out | apply below_alloc | apply pw_below_drewN | apply below_drew1) | exact HB.out)) hb); clear HB; have HB := n0_; clear n0_; (try clear hb); (try clear hb2); (try clear hk); (try clear hi)) | ((with_reducible refine gate_dst (N := 11) rfl ?_); refine box_event ?hg (N := 11) ?hd (cs := #[.int .i64 0, .complex .f64 0 0, .bool false]) (t := 83) ?hr ?_; (case hd => rfl); (case hg => rfl); (case hr => first | (go_simp; done) | (go_simp; rfl)); intro gb713 hg w16 hbox hb; have n0_ := Aside0.mk (below_step (by repeat (first | (with_reducible first | exact HB.out | apply below_alloc | apply pw_below_drewN | apply below_drew1) | exact HB.out)) hb); have n1_ := Aside0.mk (hbox); have n2_ := Aside0.mk ((by rw [hg]; exact (below_size (by repeat (first | (with_reducible first | exact HB.out | apply below_alloc | apply pw_below_drewN | apply below_drew1) | exact HB.out))) : w.heap.size ≤ gb713)); have n3_ := Aside0.mk ((by rw [hg]; exact (below_size (by repeat (first | (with_reducible first | exact HB.out | apply below_alloc | apply pw_below_drewN | apply below_drew1) | exact HB.out))) : w.heap.size ≤ gb713)); clear HB; have HB := n0_; have BK713 := n1_; have GW713 := n2_; have GE713 := n3_; clear n0_ n1_ n2_ n3_; clear hb hbox hg; have hcz17_0 : w16.cell? ⟨gb713, 0, none⟩ = some (.int .i64 0) := (blk_cell BK713.out 0).trans rfl; have hcz17_1 : w16.cell? ⟨gb713, 1, none⟩ = some (.complex .f64 0 0) := (blk_cell BK713.out 1).trans rfl; have hcz17_2 : w16.cell? ⟨gb713, 2, none⟩ = some (.bool false) := (blk_cell BK713.out 2).trans rfl; have hfz17_0 := blk_frozen BK713.out 0; have hfz17_1 := blk_frozen BK713.out 1; have hfz17_2 := blk_frozen BK713.out 2) | ((with_reducible refine gate_callee (f := 64) rfl ?_); refine goesL_ (some 47) rfl rfl Try.func64 (by kernel_rfl) rfl #[.int .i64 t706, .int .i64 t709] rfl (by (try simp only [List.map_toArray, List.map_cons, List.map_nil]); first | done | rfl | (simp only [List.length_drop, List.length_take]; rfl)) ?_; (with_reducible refine (foghornref04_At.calls k t706 t709 t714 t715 _ A11.out).mono ?_); rintro e w18 ⟨rfl, hb⟩; refine ⟨_, rfl, ?_⟩; have n0_ := Aside0.mk (blk_below (g := gb713) (o := .cells #[.int .i64 t709, .complex .f64 t710.1 t710.2, .bool t711] 83 (0, 0)) (by (with_reducible repeat (first | refine blk_drewN ?_ _ | refine blk_drew ?_ | refine blk_alloc ?_ _)); refine blk_put (cs := #[.int .i64 t709, .complex .f64 t710.1 t710.2, .bool false]) ?_ 2 _ rfl; (with_reducible repeat (first | refine blk_drewN ?_ _ | refine blk_drew ?_ | refine blk_alloc ?_ _)); refine blk_put (cs := #[.int .i64 t709, .complex .f64 0 0, .bool false]) ?_ 1 _ rfl; (with_reducible repeat (first | refine blk_drewN ?_ _ | refine blk_drew ?_ | refine blk_alloc ?_ _)); refine blk_put (cs := #[.int .i64 0, .complex .f64 0 0, .bool false]) ?_ 0 _ rfl; (with_reducible repeat (first | refine blk_drewN ?_ _ | refine blk_drew ?_ | refine blk_alloc ?_ _)); exact BK713.out) hb); have n1_ := Aside0.mk (below_step (by repeat (first | (with_reducible first | exact HB.out | apply below_alloc | apply pw_below_drewN | apply below_drew1 | refine below_set ?_ GE713.out) | exact HB.out)) hb); clear BK713; clear HB; have BK713 := n0_; have HB := n1_; clear n0_ n1_; (try clear hb); (try clear hb2); (try clear hk); (try clear hi)))
  (try simp only [Act.put, List.setIfInBounds_toArray, List.set_cons_zero, List.set_cons_succ])
  go_cut [65] (fun v65 wc => ∃ (kq : Nat) (x65_11 : Bool), v65 = .bool x65_11 ∧ Aside0 (foghornlaw05_SliceLeast.j0 kq a3 t706 (t707, t708) x65_11 t709 t710 t711 = some r) ∧ Aside0 (kq ≤ k) ∧ Aside0 (wc.heap[gb713]? = some (.cells #[.int .i64 t709, .complex .f64 t710.1 t710.2, .bool t711] 83 (0, 0))) ∧ Aside0 (Below w.heap.size w wc))
  case first =>
   have H := HC12.out
   clear HC12
   by_cases c19 : t712 = 0
   ·rw [if_pos c19] at H
    have c19b0 : (t712 == 0) = true := beq_iff_eq.mpr c19
    have c19b1 : (t712 != 0) = false := bne_eq_false_iff_eq.mpr c19
    clear c19
    (first | rw [c19b0] | (simp only [i64_w, i32_w]; rw [c19b0]) | skip)
    by_cases c20 : t715 = 0
    ·rw [if_pos c20] at H
     have c20b0 : (t715 == 0) = true := beq_iff_eq.mpr c20
     have c20b1 : (t715 != 0) = false := bne_eq_false_iff_eq.mpr c20
     clear c20
     by_cases c21 : t711 = true
     ·subst c21
      have H1 : (foghornlaw05_SliceLeast.j0 k a3 t706 (t707, t708) true t709 t710 true) = some r := by rw [if_pos rfl] at H; exact H
      clear H
      have H := H1
      clear H1
      as_aux_lemma =>
       have H' := Aside0.mk H
       clear H
       have hcz22_0 : w18.cell? ⟨gb713, 0, none⟩ = some (.int .i64 t709) := (blk_cell BK713.out 0).trans rfl
       have hcz22_1 : w18.cell? ⟨gb713, 1, none⟩ = some (.complex .f64 t710.1 t710.2) := (blk_cell BK713.out 1).trans rfl
       have hcz22_2 : w18.cell? ⟨gb713, 2, none⟩ = some (.bool true) := (blk_cell BK713.out 2).trans rfl
       have hfz22_0 := blk_frozen BK713.out 0
       have hfz22_1 := blk_frozen BK713.out 1
       have hfz22_2 := blk_frozen BK713.out 2
       go_wp2
       go_meet
       case rel => exact ⟨_, (true), (by first | rfl | (simp; done) | (simp [*]; done)), H', ⟨by first | omega | exact Nat.le_refl _⟩, ⟨by (with_reducible repeat (first | refine blk_drewN ?_ _ | refine blk_drew ?_ | refine blk_alloc ?_ _)); exact BK713.out⟩, ⟨by repeat (first | (with_reducible first | exact HB.out | apply below_alloc | apply pw_below_drewN | apply below_drew1 | refine below_set ?_ GE713.out) | exact HB.out)⟩⟩
     ·replace c21 := Bool.eq_false_iff.mpr c21
      subst c21
      have H1 : (foghornlaw05_SliceLeast.j0 k a3 t706 (t707, t708) (!((FloatKind.f64.format.order t714.1 t710.1 == some .eq) && (FloatKind.f64.format.order t714.2 t710.2 == some .eq))) t709 t710 false) = some r := by rw [if_neg (show ¬ (false = true) by decide)] at H; exact H
      clear H
      have H := H1
      clear H1
      as_aux_lemma =>
       have H' := Aside0.mk H
       clear H
       have hcz23_0 : w18.cell? ⟨gb713, 0, none⟩ = some (.int .i64 t709) := (blk_cell BK713.out 0).trans rfl
       have hcz23_1 : w18.cell? ⟨gb713, 1, none⟩ = some (.complex .f64 t710.1 t710.2) := (blk_cell BK713.out 1).trans rfl
       have hcz23_2 : w18.cell? ⟨gb713, 2, none⟩ = some (.bool false) := (blk_cell BK713.out 2).trans rfl
       have hfz23_0 := blk_frozen BK713.out 0
       have hfz23_1 := blk_frozen BK713.out 1
       have hfz23_2 := blk_frozen BK713.out 2
       go_wp2
       go_meet
       case rel => exact ⟨_, ((!((FloatKind.f64.format.order t714.1 t710.1 == some .eq) && (FloatKind.f64.format.order t714.2 t710.2 == some .eq)))), (by first | rfl | (simp; done) | (simp [*]; done)), H', ⟨by first | omega | exact Nat.le_refl _⟩, ⟨by (with_reducible repeat (first | refine blk_drewN ?_ _ | refine blk_drew ?_ | refine blk_alloc ?_ _)); exact BK713.out⟩, ⟨by repeat (first | (with_reducible first | exact HB.out | apply below_alloc | apply pw_below_drewN | apply below_drew1 | refine below_set ?_ GE713.out) | exact HB.out)⟩⟩
    ·rw [if_neg c20] at H
     have c20b0 : (t715 == 0) = false := beq_eq_false_iff_ne.mpr c20
     have c20b1 : (t715 != 0) = true := bne_iff_ne.mpr c20
     as_aux_lemma =>
      have H' := Aside0.mk H
      clear H
      go_wp2
      go_meet
      case rel => exact ⟨_, (true), (by first | rfl | (simp; done) | (simp [*]; done)), H', ⟨by first | omega | exact Nat.le_refl _⟩, ⟨by (with_reducible repeat (first | refine blk_drewN ?_ _ | refine blk_drew ?_ | refine blk_alloc ?_ _)); exact BK713.out⟩, ⟨by repeat (first | (with_reducible first | exact HB.out | apply below_alloc | apply pw_below_drewN | apply below_drew1 | refine below_set ?_ GE713.out) | exact HB.out)⟩⟩
   ·rw [if_neg c19] at H
    have c19b0 : (t712 == 0) = false := beq_eq_false_iff_ne.mpr c19
    have c19b1 : (t712 != 0) = true := bne_iff_ne.mpr c19
    (first | rw [c19b0] | (simp only [i64_w, i32_w]; rw [c19b0]) | skip)
    as_aux_lemma =>
     have H' := Aside0.mk H
     clear H
     go_wp2
     go_meet
     case rel => exact ⟨_, (true), (by first | rfl | (simp; done) | (simp [*]; done)), H', ⟨by first | omega | exact Nat.le_refl _⟩, ⟨by (with_reducible repeat (first | refine blk_drewN ?_ _ | refine blk_drew ?_ | refine blk_alloc ?_ _)); exact BK713.out⟩, ⟨by repeat (first | (with_reducible first | exact HB.out | apply below_alloc | apply pw_below_drewN | apply below_drew1 | refine below_set ?_ GE713.out) | exact HB.out)⟩⟩
  case rest =>
   clear HC12
   try clear c1
   try clear c2
   try clear p2
   try clear c5
   try clear c6
   try clear c11
   try clear c19
   try clear c19b0
   try clear c19b1
   try clear c20
   try clear c20b0
   try clear c20b1
   try clear c21
   try clear hcz17_0
   try clear hcz17_1
   try clear hcz17_2
   try clear hcz22_0
   try clear hcz22_1
   try clear hcz22_2
   try clear hcz23_0
   try clear hcz23_1
   try clear hcz23_2
   try clear hfz17_0
   try clear hfz17_1
   try clear hfz17_2
   try clear hfz22_0
   try clear hfz22_1
   try clear hfz22_2
   try clear hfz23_0
   try clear hfz23_1
   try clear hfz23_2
   obtain ⟨kq, x65_11, rfl, HA, HJ11, BK713, HB⟩ := hcut
   cases kq with
   | zero => exact absurd HA.out (by simp [foghornlaw05_SliceLeast.j0])
   | succ kj11 =>
    have H := HA.out
    clear HA
    simp only [foghornlaw05_SliceLeast.j0] at H
    by_cases c24 : x65_11 = true
    ·subst c24
     have H1 : (some false) = some r := by rw [if_pos rfl] at H; exact H
     clear H
     have H := H1
     clear H1
     as_aux_lemma =>
      exact absurd ((Option.some.inj H).trans HQ_.out) (by decide)
    ·replace c24 := Bool.eq_false_iff.mpr c24
     subst c24
     have H1 : ((slice_Gap.f t706 (t707, t708) t709).bind fun bt716 => (foghornlaw05_SliceLeast.l0 kj11 a3 t706 (t707, t708) bt716.1 bt716.2 0)) = some r := by rw [if_neg (show ¬ (false = true) by decide)] at H; exact H
     clear H
     have H := H1
     clear H1
     replace H := Option.bind_eq_some_iff.mp H
     obtain ⟨⟨t716, t717⟩, A250, H⟩ := H
     replace H : (foghornlaw05_SliceLeast.l0 kj11 a3 t706 (t707, t708) t716 t717 0) = some r := H
     have A25 := Aside0.mk A250
     clear A250
     have H' := Aside0.mk H
     clear H
     have hcz26_0 : wc.cell? ⟨gb713, 0, none⟩ = some (.int .i64 t709) := (blk_cell BK713.out 0).trans rfl
     have hcz26_1 : wc.cell? ⟨gb713, 1, none⟩ = some (.complex .f64 t710.1 t710.2) := (blk_cell BK713.out 1).trans rfl
     have hcz26_2 : wc.cell? ⟨gb713, 2, none⟩ = some (.bool t711) := (blk_cell BK713.out 2).trans rfl
     have hfz26_0 := blk_frozen BK713.out 0
     have hfz26_1 := blk_frozen BK713.out 1
     have hfz26_2 := blk_frozen BK713.out 2
     go_wp2_with (first | ((with_reducible refine gate_callee (f := 51) rfl ?_); refine goesL_ (some 71) rfl rfl Try.func51 (by kernel_rfl) rfl #[.int .i64 t706, .complex .f64 t707 t708, .int .i64 t709] rfl (by (try simp only [List.map_toArray, List.map_cons, List.map_nil]); first | done | rfl | (simp only [List.length_drop, List.length_take]; rfl)) ?_; (with_reducible refine (slice_Gap.calls t706 (t707, t708) t709 t716 t717 _ A25.out).mono ?_); rintro e w27 ⟨rfl, hb⟩; refine ⟨_, rfl, ?_⟩; have n0_ := Aside0.mk (blk_below (g := gb713) (o := .cells #[.int .i64 t709, .complex .f64 t710.1 t710.2, .bool t711] 83 (0, 0)) (by (with_reducible repeat (first | refine blk_drewN ?_ _ | refine blk_drew ?_ | refine blk_alloc ?_ _)); exact BK713.out) hb); have n1_ := Aside0.mk (below_step (by repeat (first | (with_reducible first | exact HB.out | apply below_alloc | apply pw_below_drewN | apply below_drew1 | refine below_set ?_ GE713.out) | exact HB.out)) hb); clear BK713; clear HB; have BK713 := n0_; have HB := n1_; clear n0_ n1_; (try clear hb); (try clear hb2); (try clear hk); (try clear hi)))
     go_loopg [17] kj11 (fun kq v17 w' => ∃ (x17_2 : Int), v17 = .int .i64 x17_2 ∧ Aside0 (foghornlaw05_SliceLeast.l0 kq a3 t706 (t707, t708) t716 t717 x17_2 = some r) ∧ Aside0 (kq ≤ kj11) ∧ Aside0 (w'.heap[gb713]? = some (.cells #[.int .i64 t709, .complex .f64 t710.1 t710.2, .bool t711] 83 (0, 0))) ∧ Aside0 (Below w.heap.size w w'))
     case atStart => exact ⟨(0), (by first | rfl | (simp; done) | (simp [*]; done)), H', ⟨Nat.le_refl _⟩, ⟨by (with_reducible repeat (first | refine blk_drewN ?_ _ | refine blk_drew ?_ | refine blk_alloc ?_ _)); exact BK713.out⟩, ⟨by repeat (first | (with_reducible first | exact HB.out | apply below_alloc | apply pw_below_drewN | apply below_drew1 | refine below_set ?_ GE713.out) | exact HB.out)⟩⟩
     case round =>
      clear H'
      try clear c1
      try clear c2
      try clear p2
      try clear c5
      try clear c6
      try clear c11
      try clear c19
      try clear c19b0
      try clear c19b1
      try clear c20
      try clear c20b0
      try clear c20b1
      try clear c21
      try clear c24
      try clear hcz17_0
      try clear hcz17_1
      try clear hcz17_2
      try clear hcz22_0
      try clear hcz22_1
      try clear hcz22_2
      try clear hcz23_0
      try clear hcz23_1
      try clear hcz23_2
      try clear hcz26_0
      try clear hcz26_1
      try clear hcz26_2
      try clear hfz17_0
      try clear hfz17_1
      try clear hfz17_2
      try clear hfz22_0
      try clear hfz22_1
      try clear hfz22_2
      try clear hfz23_0
      try clear hfz23_1
      try clear hfz23_2
      try clear hfz26_0
      try clear hfz26_1
      try clear hfz26_2
      try clear p2
      obtain ⟨x17_2, rfl, HA, HK2, BK713, HB⟩ := hrel
      cases gk with
      | zero => exact absurd HA.out (by simp [foghornlaw05_SliceLeast.l0])
      | succ k2 =>
       have H := HA.out
       clear HA
       simp only [foghornlaw05_SliceLeast.l0] at H
       by_cases c28 : x17_2 < t706
       ·rw [if_pos c28] at H
        have c28b0 : decide (x17_2 < t706) = true := decide_eq_true c28
        clear c28
        replace H := Option.bind_eq_some_iff.mp H
        obtain ⟨⟨t718, t719⟩, A290, H⟩ := H
        replace H : (if t717 = 0 then (if t719 = 0 then (if (FloatKind.f64.format.order t718 t716 == some .lt) = true then (some false) else (foghornlaw05_SliceLeast.l0 k2 a3 t706 (t707, t708) t716 t717 (wrap64 (x17_2 + 1)))) else (some false)) else (some false)) = some r := H
        have A29 := Aside0.mk A290
        clear A290
        by_cases c30 : t717 = 0
        ·rw [if_pos c30] at H
         have c30b0 : (t717 == 0) = true := beq_iff_eq.mpr c30
         have c30b1 : (t717 != 0) = false := bne_eq_false_iff_eq.mpr c30
         clear c30
         by_cases c31 : t719 = 0
         ·rw [if_pos c31] at H
          have c31b0 : (t719 == 0) = true := beq_iff_eq.mpr c31
          have c31b1 : (t719 != 0) = false := bne_eq_false_iff_eq.mpr c31
          clear c31
          by_cases c32 : (FloatKind.f64.format.order t718 t716 == some .lt) = true
          ·rw [if_pos c32] at H
           have c32b0 : (FloatKind.f64.format.order t718 t716 == some .lt) = true := c32
           (try (have c32b1 : decide (FloatKind.f64.format.order t718 t716 = some .lt) = true := by simpa using c32))
           (try (have c32b2 : (FloatKind.f64.format.order t718 t716 == some .lt) = true := by simpa using c32))
           clear c32
           as_aux_lemma =>
            exact absurd ((Option.some.inj H).trans HQ_.out) (by decide)
          ·rw [if_neg c32] at H
           have c32b0 : (FloatKind.f64.format.order t718 t716 == some .lt) = false := by simpa using c32
           (try (have c32b1 : decide (FloatKind.f64.format.order t718 t716 = some .lt) = false := by simpa using c32))
           (try (have c32b2 : (FloatKind.f64.format.order t718 t716 == some .lt) = false := by simpa using c32))
           (try (have c32b3 : ¬ (FloatKind.f64.format.order t718 t716 = some .lt) := by simpa using c32))
           clear c32
           as_aux_lemma =>
            have H' := Aside0.mk H
            clear H
            go_wp2_with (first | ((with_reducible refine gate_callee (f := 51) rfl ?_); refine goesL_ (some 83) rfl rfl Try.func51 (by kernel_rfl) rfl #[.int .i64 t706, .complex .f64 t707 t708, .int .i64 x17_2] rfl (by (try simp only [List.map_toArray, List.map_cons, List.map_nil]); first | done | rfl | (simp only [List.length_drop, List.length_take]; rfl)) ?_; (with_reducible refine (slice_Gap.calls t706 (t707, t708) x17_2 t718 t719 _ A29.out).mono ?_); rintro e w33 ⟨rfl, hb⟩; refine ⟨_, rfl, ?_⟩; have n0_ := Aside0.mk (blk_below (g := gb713) (o := .cells #[.int .i64 t709, .complex .f64 t710.1 t710.2, .bool t711] 83 (0, 0)) (by (with_reducible repeat (first | refine blk_drewN ?_ _ | refine blk_drew ?_ | refine blk_alloc ?_ _)); exact BK713.out) hb); have n1_ := Aside0.mk (below_step (by repeat (first | (with_reducible first | exact HB.out | apply below_alloc | apply pw_below_drewN | apply below_drew1 | refine below_set ?_ GE713.out) | exact HB.out)) hb); clear BK713; clear HB; have BK713 := n0_; have HB := n1_; clear n0_ n1_; (try clear hb); (try clear hb2); (try clear hk); (try clear hi)))
            first | go_roundg k2 | (simp only [add_plain] at *; go_roundg k2)
            case measure => have := HJ11.out; have := HK2.out; omega
            case rel => exact ⟨(wrap64 (x17_2 + 1)), (by first | rfl | (simp; done) | (simp [*]; done)), H', ⟨by have := HJ11.out; have := HK2.out; omega⟩, ⟨by (with_reducible repeat (first | refine blk_drewN ?_ _ | refine blk_drew ?_ | refine blk_alloc ?_ _)); exact BK713.out⟩, ⟨by repeat (first | (with_reducible first | exact HB.out | apply below_alloc | apply pw_below_drewN | apply below_drew1 | refine below_set ?_ GE713.out) | exact HB.out)⟩⟩
         ·rw [if_neg c31] at H
          have c31b0 : (t719 == 0) = false := beq_eq_false_iff_ne.mpr c31
          have c31b1 : (t719 != 0) = true := bne_iff_ne.mpr c31
          as_aux_lemma =>
           exact absurd ((Option.some.inj H).trans HQ_.out) (by decide)
        ·rw [if_neg c30] at H
         have c30b0 : (t717 == 0) = false := beq_eq_false_iff_ne.mpr c30
         have c30b1 : (t717 != 0) = true := bne_iff_ne.mpr c30
         as_aux_lemma =>
          exact absurd ((Option.some.inj H).trans HQ_.out) (by decide)
       ·rw [if_neg c28] at H
        have c28b0 : decide (x17_2 < t706) = false := decide_eq_false c28
        clear c28
        replace H := Option.bind_eq_some_iff.mp H
        obtain ⟨⟨t720, t721⟩, A340, H⟩ := H
        replace H : ((slice_Axis.f k2 (t707, t708).1 t720).bind fun bt722 => ((floatBits .quo .f64 (floatOfInt .f64 (((a3) % 4294967296) % 100000)) 4670232813583204352).bind fun t724 => ((floatBits .add .f64 (t707, t708).1 t724).bind fun t725 => ((slice_Axis.f k2 t725 t720).bind fun bt726 => (if bt722.2 = 0 then (if bt726.2 = 0 then (if bt722.1 ≤ bt726.1 then (if (Int.tmod bt722.1 2) = 0 then (some false) else (if bt722.1 ≥ (wrap64 (-t720)) then (some (decide (bt726.1 ≤ t720))) else (some false))) else (some false)) else (some false)) else (some false)))))) = some r := H
        have A34 := Aside0.mk A340
        clear A340
        replace H := Option.bind_eq_some_iff.mp H
        obtain ⟨⟨t722, t723⟩, A350, H⟩ := H
        replace H : ((floatBits .quo .f64 (floatOfInt .f64 (((a3) % 4294967296) % 100000)) 4670232813583204352).bind fun t724 => ((floatBits .add .f64 (t707, t708).1 t724).bind fun t725 => ((slice_Axis.f k2 t725 t720).bind fun bt726 => (if t723 = 0 then (if bt726.2 = 0 then (if t722 ≤ bt726.1 then (if (Int.tmod t722 2) = 0 then (some false) else (if t722 ≥ (wrap64 (-t720)) then (some (decide (bt726.1 ≤ t720))) else (some false))) else (some false)) else (some false)) else (some false))))) = some r := H
        have A35 := Aside0.mk A350
        clear A350
        replace H := Option.bind_eq_some_iff.mp H
        obtain ⟨t724, A360, H⟩ := H
        replace H : ((floatBits .add .f64 (t707, t708).1 t724).bind fun t725 => ((slice_Axis.f k2 t725 t720).bind fun bt726 => (if t723 = 0 then (if bt726.2 = 0 then (if t722 ≤ bt726.1 then (if (Int.tmod t722 2) = 0 then (some false) else (if t722 ≥ (wrap64 (-t720)) then (some (decide (bt726.1 ≤ t720))) else (some false))) else (some false)) else (some false)) else (some false)))) = some r := H
        have A36 := Aside0.mk A360
        clear A360
        replace H := Option.bind_eq_some_iff.mp H
        obtain ⟨t725, A370, H⟩ := H
        replace H : ((slice_Axis.f k2 t725 t720).bind fun bt726 => (if t723 = 0 then (if bt726.2 = 0 then (if t722 ≤ bt726.1 then (if (Int.tmod t722 2) = 0 then (some false) else (if t722 ≥ (wrap64 (-t720)) then (some (decide (bt726.1 ≤ t720))) else (some false))) else (some false)) else (some false)) else (some false))) = some r := H
        have A37 := Aside0.mk A370
        clear A370
        replace H := Option.bind_eq_some_iff.mp H
        obtain ⟨⟨t726, t727⟩, A380, H⟩ := H
        replace H : (if t723 = 0 then (if t727 = 0 then (if t722 ≤ t726 then (if (Int.tmod t722 2) = 0 then (some false) else (if t722 ≥ (wrap64 (-t720)) then (some (decide (t726 ≤ t720))) else (some false))) else (some false)) else (some false)) else (some false)) = some r := H
        have A38 := Aside0.mk A380
        clear A380
        by_cases c39 : t723 = 0
        ·rw [if_pos c39] at H
         have c39b0 : (t723 == 0) = true := beq_iff_eq.mpr c39
         have c39b1 : (t723 != 0) = false := bne_eq_false_iff_eq.mpr c39
         clear c39
         by_cases c40 : t727 = 0
         ·rw [if_pos c40] at H
          have c40b0 : (t727 == 0) = true := beq_iff_eq.mpr c40
          have c40b1 : (t727 != 0) = false := bne_eq_false_iff_eq.mpr c40
          clear c40
          by_cases c41 : t722 ≤ t726
          ·rw [if_pos c41] at H
           have c41b0 : decide (t722 ≤ t726) = true := decide_eq_true c41
           clear c41
           by_cases c42 : (Int.tmod t722 2) = 0
           ·rw [if_pos c42] at H
            have c42b0 : ((Int.tmod t722 2) == 0) = true := beq_iff_eq.mpr c42
            have c42b1 : ((Int.tmod t722 2) != 0) = false := bne_eq_false_iff_eq.mpr c42
            clear c42
            as_aux_lemma =>
             exact absurd ((Option.some.inj H).trans HQ_.out) (by decide)
           ·rw [if_neg c42] at H
            have c42b0 : ((Int.tmod t722 2) == 0) = false := beq_eq_false_iff_ne.mpr c42
            have c42b1 : ((Int.tmod t722 2) != 0) = true := bne_iff_ne.mpr c42
            by_cases c43 : t722 ≥ (wrap64 (-t720))
            ·rw [if_pos c43] at H
             have c43b0 : decide ((wrap64 (-t720)) ≤ t722) = true := decide_eq_true c43
             clear c43
             as_aux_lemma =>
              obtain rfl := Option.some.inj H
              go_wp2_with (first | ((with_reducible refine gate_callee (f := 65) rfl ?_); refine goesL_ (some 99) rfl rfl Try.func65 (by kernel_rfl) rfl #[.int .i64 t706] rfl (by (try simp only [List.map_toArray, List.map_cons, List.map_nil]); first | done | rfl | (simp only [List.length_drop, List.length_take]; rfl)) ?_; (with_reducible refine (foghornref04_Edge.calls t706 t720 t721 _ A34.out).mono ?_); rintro e w' ⟨rfl, ⟨nd, rfl⟩⟩; refine ⟨_, rfl, ?_⟩) | ((with_reducible refine gate_callee (f := 47) rfl ?_); refine goesL_ (some 106) rfl rfl Try.func47 (by kernel_rfl) rfl #[.float .f64 ((t707, t708).1), .int .i64 t720] rfl (by (try simp only [List.map_toArray, List.map_cons, List.map_nil]); first | done | rfl | (simp only [List.length_drop, List.length_take]; rfl)) ?_; (with_reducible refine (slice_Axis.calls k2 ((t707, t708).1) t720 t722 t723 _ A35.out).mono ?_); rintro e w44 ⟨rfl, hb⟩; refine ⟨_, rfl, ?_⟩; have n0_ := Aside0.mk (blk_below (g := gb713) (o := .cells #[.int .i64 t709, .complex .f64 t710.1 t710.2, .bool t711] 83 (0, 0)) (by (with_reducible repeat (first | refine blk_drewN ?_ _ | refine blk_drew ?_ | refine blk_alloc ?_ _)); exact BK713.out) hb); have n1_ := Aside0.mk (below_step (by repeat (first | (with_reducible first | exact HB.out | apply below_alloc | apply pw_below_drewN | apply below_drew1 | refine below_set ?_ GE713.out) | exact HB.out)) hb); clear BK713; clear HB; have BK713 := n0_; have HB := n1_; clear n0_ n1_; (try clear hb); (try clear hb2); (try clear hk); (try clear hi); have hfoA36_ := fun (t_ : TypeId) (w_ : World) => run_float_arith (P := Try.prog) w_ .quo t_ .f64 (floatOfInt .f64 (((a3) % 4294967296) % 100000)) 4670232813583204352 t724 A36.out; have hfoA37_ := fun (t_ : TypeId) (w_ : World) => run_float_arith (P := Try.prog) w_ .add t_ .f64 (t707, t708).1 t724 t725 A37.out) | ((with_reducible refine gate_callee (f := 47) rfl ?_); refine goesL_ (some 119) rfl rfl Try.func47 (by kernel_rfl) rfl #[.float .f64 t725, .int .i64 t720] rfl (by (try simp only [List.map_toArray, List.map_cons, List.map_nil]); first | done | rfl | (simp only [List.length_drop, List.length_take]; rfl)) ?_; (with_reducible refine (slice_Axis.calls k2 t725 t720 t726 t727 _ A38.out).mono ?_); rintro e w45 ⟨rfl, hb⟩; refine ⟨_, rfl, ?_⟩; have n0_ := Aside0.mk (blk_below (g := gb713) (o := .cells #[.int .i64 t709, .complex .f64 t710.1 t710.2, .bool t711] 83 (0, 0)) (by (with_reducible repeat (first | refine blk_drewN ?_ _ | refine blk_drew ?_ | refine blk_alloc ?_ _)); exact BK713.out) hb); have n1_ := Aside0.mk (below_step (by repeat (first | (with_reducible first | exact HB.out | apply below_alloc | apply pw_below_drewN | apply below_drew1 | refine below_set ?_ GE713.out) | exact HB.out)) hb); clear BK713; clear HB; have BK713 := n0_; have HB := n1_; clear n0_ n1_; (try clear hb); (try clear hb2); (try clear hk); (try clear hi)))
              go_ret
              exact ⟨by first | rfl | (simp [errW_none, errW_some] <;> rfl) | (simp [*, errW_none, errW_some] <;> rfl), by repeat (first | (with_reducible first | exact HB.out | apply below_alloc | apply pw_below_drewN | apply below_drew1 | refine below_set ?_ GE713.out) | exact HB.out)⟩
            ·rw [if_neg c43] at H
             have c43b0 : decide ((wrap64 (-t720)) ≤ t722) = false := decide_eq_false c43
             clear c43
             as_aux_lemma =>
              exact absurd ((Option.some.inj H).trans HQ_.out) (by decide)
          ·rw [if_neg c41] at H
           have c41b0 : decide (t722 ≤ t726) = false := decide_eq_false c41
           clear c41
           as_aux_lemma =>
            exact absurd ((Option.some.inj H).trans HQ_.out) (by decide)
         ·rw [if_neg c40] at H
          have c40b0 : (t727 == 0) = false := beq_eq_false_iff_ne.mpr c40
          have c40b1 : (t727 != 0) = true := bne_iff_ne.mpr c40
          as_aux_lemma =>
           exact absurd ((Option.some.inj H).trans HQ_.out) (by decide)
        ·rw [if_neg c39] at H
         have c39b0 : (t723 == 0) = false := beq_eq_false_iff_ne.mpr c39
         have c39b1 : (t723 != 0) = true := bne_iff_ne.mpr c39
         as_aux_lemma =>
          exact absurd ((Option.some.inj H).trans HQ_.out) (by decide)
 ·replace c6 := Bool.eq_false_iff.mpr c6
  subst c6
  have H1 : (some false) = some r := by rw [if_neg (show ¬ (false = true) by decide)] at H; exact H
  clear H
  have H := H1
  clear H1
  as_aux_lemma =>
   exact absurd ((Option.some.inj H).trans HQ_.out) (by decide)

theorem foghornlaw05_SliceLeast.walk (P : foghornlaw05_SliceLeast.Pure) (a0 : Int) (a1 : Int) (a2 : Int) (a3 : Int) (w : World) (w0 : (Lit.int .i64 a0).wf = true) (w1 : (Lit.int .i32 a1).wf = true) (w2 : (Lit.int .i32 a2).wf = true) (w3 : (Lit.int .i32 a3).wf = true) :
  Calls Try.prog 11 #[.int .i64 a0, .int .i32 a1, .int .i32 a2, .int .i32 a3] w fun e w' => e = .returned (.bool true) ∧ Below w.heap.size w w' := by
 obtain ⟨k, h⟩ := P a0 a1 a2 a3 w0 w1 w2 w3
 refine (foghornlaw05_SliceLeast.calls k a0 a1 a2 a3 true w h rfl).mono ?_
 rintro e w' ⟨rfl, hd⟩
 exact ⟨rfl, hd⟩

end Go.Proofs.Ythfcafllcgjepaa.Q
