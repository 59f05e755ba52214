-- Printed by myprint.py (ours) over the kit's printer, out of the translation.
import Derived.Test.YthfcafllcgjepaaSliceTurnedK0
import Derived.Test.YthfcafllcgjepaaSliceTurnedF0
import Derived.Test.YthfcafllcgjepaaSliceTurnedQ0
import Derived.Test.YthfcafllcgjepaaSliceTurnedQ1
import Derived.Test.YthfcafllcgjepaaSliceTurnedQ2
namespace Go.Proofs.Ythfcafllcgjepaa.Q
open Go.RowKit Go.Proofs.YthfcafllcgjepaaW.PrintWords Go.Proofs.YthfcafllcgjepaaW.PrintLast Go.Proofs.YthfcafllcgjepaaW.PrintMore
attribute [local go_sem] ArrW.ptrOf_slice unary_neg_float unary_neg_complex run_store_float run_store_complex max2_int min2_int max_two min_two max_three min_three max_four min_four   -- for this text's walks alone
set_option linter.unusedVariables false
set_option linter.unusedSimpArgs false

/-! ### foghornlaw05_SliceTurned: function 12 -/
set_option maxHeartbeats 8000000 in
set_option maxRecDepth 100000 in
theorem foghornlaw05_SliceTurned.calls (k : Nat) (a0 : Int) (a1 : Int) (a2 : Int) (r : Bool) (w : World) (h : foghornlaw05_SliceTurned.f k a0 a1 a2 = some r) (hq_ : r = true) :
  Calls Try.prog 12 #[.int .i64 a0, .int .i32 a1, .int .i32 a2] w fun e w' => e = .returned (.bool r) ∧ Below w.heap.size w w' := by
 have HQ_ := Aside0.mk hq_
 clear hq_
 have hu83 := Try.underlying83
 have HB := Aside0.mk (Below.refl w.heap.size w)
 have H : ((foghornlaw05_awake.f k).bind fun t753 => (if t753 = true then ((foghornlaw05_size.f a0).bind fun t754 => ((floatBits .quo .f64 (floatOfInt .f64 a1) 4670232813583204352).bind fun t755 => ((floatBits .quo .f64 (floatOfInt .f64 a2) 4670232813583204352).bind fun t756 => (if (Int.tmod a1 32768) = 0 then (foghornlaw05_SliceTurned.j0 k t754 (t755, t756) true) else (foghornlaw05_SliceTurned.j0 k t754 (t755, t756) ((Int.tmod a2 32768) == 0)))))) else (some false))) = some r := h
 clear h
 replace H := Option.bind_eq_some_iff.mp H
 obtain ⟨t753, A40, H⟩ := H
 replace H : (if t753 = true then ((foghornlaw05_size.f a0).bind fun t754 => ((floatBits .quo .f64 (floatOfInt .f64 a1) 4670232813583204352).bind fun t755 => ((floatBits .quo .f64 (floatOfInt .f64 a2) 4670232813583204352).bind fun t756 => (if (Int.tmod a1 32768) = 0 then (foghornlaw05_SliceTurned.j0 k t754 (t755, t756) true) else (foghornlaw05_SliceTurned.j0 k t754 (t755, t756) ((Int.tmod a2 32768) == 0)))))) else (some false)) = some r := H
 have A4 := Aside0.mk A40
 clear A40
 by_cases c5 : t753 = true
 ·subst c5
  have H1 : ((foghornlaw05_size.f a0).bind fun t754 => ((floatBits .quo .f64 (floatOfInt .f64 a1) 4670232813583204352).bind fun t755 => ((floatBits .quo .f64 (floatOfInt .f64 a2) 4670232813583204352).bind fun t756 => (if (Int.tmod a1 32768) = 0 then (foghornlaw05_SliceTurned.j0 k t754 (t755, t756) true) else (foghornlaw05_SliceTurned.j0 k t754 (t755, t756) ((Int.tmod a2 32768) == 0)))))) = some r := by rw [if_pos rfl] at H; exact H
  clear H
  have H := H1
  clear H1
  replace H := Option.bind_eq_some_iff.mp H
  obtain ⟨t754, A60, H⟩ := H
  replace H : ((floatBits .quo .f64 (floatOfInt .f64 a1) 4670232813583204352).bind fun t755 => ((floatBits .quo .f64 (floatOfInt .f64 a2) 4670232813583204352).bind fun t756 => (if (Int.tmod a1 32768) = 0 then (foghornlaw05_SliceTurned.j0 k t754 (t755, t756) true) else (foghornlaw05_SliceTurned.j0 k t754 (t755, t756) ((Int.tmod a2 32768) == 0))))) = some r := H
  have A6 := Aside0.mk A60
  clear A60
  replace H := Option.bind_eq_some_iff.mp H
  obtain ⟨t755, A70, H⟩ := H
  replace H : ((floatBits .quo .f64 (floatOfInt .f64 a2) 4670232813583204352).bind fun t756 => (if (Int.tmod a1 32768) = 0 then (foghornlaw05_SliceTurned.j0 k t754 (t755, t756) true) else (foghornlaw05_SliceTurned.j0 k t754 (t755, t756) ((Int.tmod a2 32768) == 0)))) = some r := H
  have A7 := Aside0.mk A70
  clear A70
  replace H := Option.bind_eq_some_iff.mp H
  obtain ⟨t756, A80, H⟩ := H
  replace H : (if (Int.tmod a1 32768) = 0 then (foghornlaw05_SliceTurned.j0 k t754 (t755, t756) true) else (foghornlaw05_SliceTurned.j0 k t754 (t755, t756) ((Int.tmod a2 32768) == 0))) = some r := H
  have A8 := Aside0.mk A80
  clear A80
  have HC9 := Aside0.mk H
  clear H
  go_enter Try.func12, Try.ntmps12
  go_upto_region 5 with (first | ((with_reducible refine gate_callee (f := 62) rfl ?_); refine goesL_ (some 18) rfl rfl Try.func62 (by kernel_rfl) rfl #[] rfl (by (try simp only [List.map_toArray, List.map_cons, List.map_nil]); first | done | rfl | (simp only [List.length_drop, List.length_take]; rfl)) ?_; (with_reducible refine (foghornlaw05_awake.calls k  true _ A4.out).mono ?_); rintro e w10 ⟨rfl, hb⟩; refine ⟨_, rfl, ?_⟩; have n0_ := Aside0.mk (below_step (by repeat (first | (with_reducible first | exact HB.out | apply below_alloc | apply pw_below_drewN | apply below_drew1) | exact HB.out)) hb); clear HB; have HB := n0_; clear n0_; (try clear hb); (try clear hb2); (try clear hk); (try clear hi)) | ((with_reducible refine gate_callee (f := 63) rfl ?_); refine goesL_ (some 21) rfl rfl Try.func63 (by kernel_rfl) rfl #[.int .i64 a0] rfl (by (try simp only [List.map_toArray, List.map_cons, List.map_nil]); first | done | rfl | (simp only [List.length_drop, List.length_take]; rfl)) ?_; (with_reducible refine (foghornlaw05_size.calls a0 t754 _ A6.out).mono ?_); rintro e w11 ⟨rfl, hb⟩; refine ⟨_, rfl, ?_⟩; have n0_ := Aside0.mk (below_step (by repeat (first | (with_reducible first | exact HB.out | apply below_alloc | apply pw_below_drewN | apply below_drew1) | exact HB.out)) hb); clear HB; have HB := n0_; clear n0_; (try clear hb); (try clear hb2); (try clear hk); (try clear hi); have hfoA7_ := fun (t_ : TypeId) (w_ : World) => run_float_arith (P := Try.prog) w_ .quo t_ .f64 (floatOfInt .f64 a1) 4670232813583204352 t755 A7.out; have hfoA8_ := fun (t_ : TypeId) (w_ : World) => run_float_arith (P := Try.prog) w_ .quo t_ .f64 (floatOfInt .f64 a2) 4670232813583204352 t756 A8.out))
  (try simp only [Act.put, List.setIfInBounds_toArray, List.set_cons_zero, List.set_cons_succ])
  go_cut [36] (fun v36 wc => ∃ (kq : Nat) (x36_8 : Bool), v36 = .bool x36_8 ∧ Aside0 (foghornlaw05_SliceTurned.j0 kq t754 (t755, t756) x36_8 = some r) ∧ Aside0 (kq ≤ k) ∧ Aside0 (Below w.heap.size w wc))
  case first =>
   have H := HC9.out
   clear HC9
   by_cases c12 : (Int.tmod a1 32768) = 0
   ·rw [if_pos c12] at H
    have c12b0 : ((Int.tmod a1 32768) == 0) = true := beq_iff_eq.mpr c12
    have c12b1 : ((Int.tmod a1 32768) != 0) = false := bne_eq_false_iff_eq.mpr c12
    clear c12
    (first | rw [c12b0] | (simp only [i64_w, i32_w]; rw [c12b0]) | skip)
    as_aux_lemma =>
     have H' := Aside0.mk H
     clear H
     go_wp2
     go_meet
     case rel => exact ⟨_, (true), (by first | rfl | (simp; done) | (simp [*]; done)), H', ⟨by first | omega | exact Nat.le_refl _⟩, ⟨by repeat (first | (with_reducible first | exact HB.out | apply below_alloc | apply pw_below_drewN | apply below_drew1) | exact HB.out)⟩⟩
   ·rw [if_neg c12] at H
    have c12b0 : ((Int.tmod a1 32768) == 0) = false := beq_eq_false_iff_ne.mpr c12
    have c12b1 : ((Int.tmod a1 32768) != 0) = true := bne_iff_ne.mpr c12
    (first | rw [c12b0] | (simp only [i64_w, i32_w]; rw [c12b0]) | skip)
    as_aux_lemma =>
     have H' := Aside0.mk H
     clear H
     go_wp2
     go_meet
     case rel => exact ⟨_, (((Int.tmod a2 32768) == 0)), (by first | rfl | (simp; done) | (simp [*]; done)), H', ⟨by first | omega | exact Nat.le_refl _⟩, ⟨by repeat (first | (with_reducible first | exact HB.out | apply below_alloc | apply pw_below_drewN | apply below_drew1) | exact HB.out)⟩⟩
  case rest =>
   clear HC9
   try clear c1
   try clear p2
   try clear c5
   try clear c6
   try clear c12
   try clear c12b0
   try clear c12b1
   obtain ⟨kq, x36_8, rfl, HA, HJ8, HB⟩ := hcut
   cases kq with
   | zero => exact absurd HA.out (by simp [foghornlaw05_SliceTurned.j0])
   | succ kj8 =>
    have H := HA.out
    clear HA
    simp only [foghornlaw05_SliceTurned.j0] at H
    by_cases c13 : x36_8 = true
    ·subst c13
     have H1 : (some true) = some r := by rw [if_pos rfl] at H; exact H
     clear H
     have H := H1
     clear H1
     as_aux_lemma =>
      obtain rfl := Option.some.inj H
      go_wp2
      go_ret
      exact ⟨by first | rfl | (simp [errW_none, errW_some] <;> rfl) | (simp [*, errW_none, errW_some] <;> rfl), by repeat (first | (with_reducible first | exact HB.out | apply below_alloc | apply pw_below_drewN | apply below_drew1) | exact HB.out)⟩
    ·replace c13 := Bool.eq_false_iff.mpr c13
     subst c13
     have H1 : ((slice_Decide.f kj8 t754 (t755, t756)).bind fun bt757 => ((floatBits .sub .f64 0 (t755, t756).2).bind fun t762 => ((slice_Decide.f kj8 t754 (t762, (t755, t756).1)).bind fun bt763 => (if bt757.2.2.2 = 0 then (foghornlaw05_SliceTurned.j1 kj8 t754 (t755, t756) (bt763.2.2.2 != 0) bt757.1 bt757.2.1 bt757.2.2.1 bt763.1 bt763.2.1 bt763.2.2.1) else (foghornlaw05_SliceTurned.j1 kj8 t754 (t755, t756) true bt757.1 bt757.2.1 bt757.2.2.1 bt763.1 bt763.2.1 bt763.2.2.1))))) = some r := by rw [if_neg (show ¬ (false = true) by decide)] at H; exact H
     clear H
     have H := H1
     clear H1
     replace H := Option.bind_eq_some_iff.mp H
     obtain ⟨⟨t757, t758, t759, t760⟩, A140, H⟩ := H
     replace H : ((floatBits .sub .f64 0 (t755, t756).2).bind fun t762 => ((slice_Decide.f kj8 t754 (t762, (t755, t756).1)).bind fun bt763 => (if t760 = 0 then (foghornlaw05_SliceTurned.j1 kj8 t754 (t755, t756) (bt763.2.2.2 != 0) t757 t758 t759 bt763.1 bt763.2.1 bt763.2.2.1) else (foghornlaw05_SliceTurned.j1 kj8 t754 (t755, t756) true t757 t758 t759 bt763.1 bt763.2.1 bt763.2.2.1)))) = some r := H
     have A14 := Aside0.mk A140
     clear A140
     replace H := Option.bind_eq_some_iff.mp H
     obtain ⟨t762, A150, H⟩ := H
     replace H : ((slice_Decide.f kj8 t754 (t762, (t755, t756).1)).bind fun bt763 => (if t760 = 0 then (foghornlaw05_SliceTurned.j1 kj8 t754 (t755, t756) (bt763.2.2.2 != 0) t757 t758 t759 bt763.1 bt763.2.1 bt763.2.2.1) else (foghornlaw05_SliceTurned.j1 kj8 t754 (t755, t756) true t757 t758 t759 bt763.1 bt763.2.1 bt763.2.2.1))) = some r := H
     have A15 := Aside0.mk A150
     clear A150
     replace H := Option.bind_eq_some_iff.mp H
     obtain ⟨⟨t763, t764, t765, t766⟩, A160, H⟩ := H
     replace H : (if t760 = 0 then (foghornlaw05_SliceTurned.j1 kj8 t754 (t755, t756) (t766 != 0) t757 t758 t759 t763 t764 t765) else (foghornlaw05_SliceTurned.j1 kj8 t754 (t755, t756) true t757 t758 t759 t763 t764 t765)) = some r := H
     have A16 := Aside0.mk A160
     clear A160
     have HC17 := Aside0.mk H
     clear H
     go_upto_region 9 with (first | ((with_reducible refine gate_callee (f := 53) rfl ?_); refine goesL_ (some 40) rfl rfl Try.func53 (by kernel_rfl) rfl #[.int .i64 t754, .complex .f64 t755 t756] rfl (by (try simp only [List.map_toArray, List.map_cons, List.map_nil]); first | done | rfl | (simp only [List.length_drop, List.length_take]; rfl)) ?_; (with_reducible refine (slice_Decide.calls kj8 t754 (t755, t756) t757 t758 t759 t760 _ A14.out).mono ?_); rintro e w18 ⟨rfl, hb⟩; refine ⟨_, rfl, ?_⟩; have n0_ := Aside0.mk (below_step (by repeat (first | (with_reducible first | exact HB.out | apply below_alloc | apply pw_below_drewN | apply below_drew1) | exact HB.out)) hb); clear HB; have HB := n0_; clear n0_; (try clear hb); (try clear hb2); (try clear hk); (try clear hi)) | ((with_reducible refine gate_dst (N := 9) rfl ?_); refine box_event ?hg (N := 9) ?hd (cs := #[.int .i64 0, .complex .f64 0 0, .bool false]) (t := 83) ?hr ?_; (case hd => rfl); (case hg => rfl); (case hr => first | (go_simp; done) | (go_simp; rfl)); intro gb761 hg w19 hbox hb; have n0_ := Aside0.mk (below_step (by repeat (first | (with_reducible first | exact HB.out | apply below_alloc | apply pw_below_drewN | apply below_drew1) | exact HB.out)) hb); have n1_ := Aside0.mk (hbox); have n2_ := Aside0.mk ((by rw [hg]; exact (below_size (by repeat (first | (with_reducible first | exact HB.out | apply below_alloc | apply pw_below_drewN | apply below_drew1) | exact HB.out))) : w.heap.size ≤ gb761)); have n3_ := Aside0.mk ((by rw [hg]; exact (below_size (by repeat (first | (with_reducible first | exact HB.out | apply below_alloc | apply pw_below_drewN | apply below_drew1) | exact HB.out))) : w.heap.size ≤ gb761)); clear HB; have HB := n0_; have BK761 := n1_; have GW761 := n2_; have GE761 := n3_; clear n0_ n1_ n2_ n3_; clear hb hbox hg; have hcz20_0 : w19.cell? ⟨gb761, 0, none⟩ = some (.int .i64 0) := (blk_cell BK761.out 0).trans rfl; have hcz20_1 : w19.cell? ⟨gb761, 1, none⟩ = some (.complex .f64 0 0) := (blk_cell BK761.out 1).trans rfl; have hcz20_2 : w19.cell? ⟨gb761, 2, none⟩ = some (.bool false) := (blk_cell BK761.out 2).trans rfl; have hfz20_0 := blk_frozen BK761.out 0; have hfz20_1 := blk_frozen BK761.out 1; have hfz20_2 := blk_frozen BK761.out 2; have hfoA15_ := fun (t_ : TypeId) (w_ : World) => run_float_arith (P := Try.prog) w_ .sub t_ .f64 0 (t755, t756).2 t762 A15.out) | ((with_reducible refine gate_callee (f := 53) rfl ?_); refine goesL_ (some 51) rfl rfl Try.func53 (by kernel_rfl) rfl #[.int .i64 t754, .complex .f64 t762 ((t755, t756).1)] rfl (by (try simp only [List.map_toArray, List.map_cons, List.map_nil]); first | done | rfl | (simp only [List.length_drop, List.length_take]; rfl)) ?_; (with_reducible refine (slice_Decide.calls kj8 t754 (t762, (t755, t756).1) t763 t764 t765 t766 _ A16.out).mono ?_); rintro e w21 ⟨rfl, hb⟩; refine ⟨_, rfl, ?_⟩; have n0_ := Aside0.mk (blk_below (g := gb761) (o := .cells #[.int .i64 t757, .complex .f64 t758.1 t758.2, .bool t759] 83 (0, 0)) (by (with_reducible repeat (first | refine blk_drewN ?_ _ | refine blk_drew ?_ | refine blk_alloc ?_ _)); refine blk_put (cs := #[.int .i64 t757, .complex .f64 t758.1 t758.2, .bool false]) ?_ 2 _ rfl; (with_reducible repeat (first | refine blk_drewN ?_ _ | refine blk_drew ?_ | refine blk_alloc ?_ _)); refine blk_put (cs := #[.int .i64 t757, .complex .f64 0 0, .bool false]) ?_ 1 _ rfl; (with_reducible repeat (first | refine blk_drewN ?_ _ | refine blk_drew ?_ | refine blk_alloc ?_ _)); refine blk_put (cs := #[.int .i64 0, .complex .f64 0 0, .bool false]) ?_ 0 _ rfl; (with_reducible repeat (first | refine blk_drewN ?_ _ | refine blk_drew ?_ | refine blk_alloc ?_ _)); exact BK761.out) hb); have n1_ := Aside0.mk (below_step (by repeat (first | (with_reducible first | exact HB.out | apply below_alloc | apply pw_below_drewN | apply below_drew1 | refine below_set ?_ GE761.out) | exact HB.out)) hb); clear BK761; clear HB; have BK761 := n0_; have HB := n1_; clear n0_ n1_; (try clear hb); (try clear hb2); (try clear hk); (try clear hi)) | ((with_reducible refine gate_dst (N := 11) rfl ?_); refine box_event ?hg (N := 11) ?hd (cs := #[.int .i64 0, .complex .f64 0 0, .bool false]) (t := 83) ?hr ?_; (case hd => rfl); (case hg => rfl); (case hr => first | (go_simp; done) | (go_simp; rfl)); intro gb767 hg w22 hbox hb; have n0_ := Aside0.mk (blk_below (g := gb761) (o := .cells #[.int .i64 t757, .complex .f64 t758.1 t758.2, .bool t759] 83 (0, 0)) (by (with_reducible repeat (first | refine blk_drewN ?_ _ | refine blk_drew ?_ | refine blk_alloc ?_ _)); exact BK761.out) hb); have n1_ := Aside0.mk (below_step (by repeat (first | (with_reducible first | exact HB.out | apply below_alloc | apply pw_below_drewN | apply below_drew1 | refine below_set ?_ GE761.out) | exact HB.out)) hb); have n2_ := Aside0.mk (hbox); have n3_ := Aside0.mk ((by rw [hg]; exact (below_size (by repeat (first | (with_reducible first | exact HB.out | apply below_alloc | apply pw_below_drewN | apply below_drew1 | refine below_set ?_ GE761.out) | exact HB.out))) : w.heap.size ≤ gb767)); have n4_ := Aside0.mk ((by rw [hg]; exact (below_size (by repeat (first | (with_reducible first | exact HB.out | apply below_alloc | apply pw_below_drewN | apply below_drew1 | refine below_set ?_ GE761.out) | exact HB.out))) : w.heap.size ≤ gb767)); have n5_ := Aside0.mk ((by rw [hg]; exact Nat.ne_of_lt (blk_lt (g := gb761) (o := .cells #[.int .i64 t757, .complex .f64 t758.1 t758.2, .bool t759] 83 (0, 0)) (by (with_reducible repeat (first | refine blk_drewN ?_ _ | refine blk_drew ?_ | refine blk_alloc ?_ _)); exact BK761.out)) : gb761 ≠ gb767)); have n6_ := Aside0.mk ((by rw [hg]; exact Nat.ne_of_gt (blk_lt (g := gb761) (o := .cells #[.int .i64 t757, .complex .f64 t758.1 t758.2, .bool t759] 83 (0, 0)) (by (with_reducible repeat (first | refine blk_drewN ?_ _ | refine blk_drew ?_ | refine blk_alloc ?_ _)); exact BK761.out)) : gb767 ≠ gb761)); clear BK761; clear HB; have BK761 := n0_; have HB := n1_; have BK767 := n2_; have GW767 := n3_; have GE767 := n4_; have NB761_767 := n5_; have NB767_761 := n6_; clear n0_ n1_ n2_ n3_ n4_ n5_ n6_; clear hb hbox hg; have hnb23 := NB767_761.out; have hnc23 := NB761_767.out; have hcz24_0 : w22.cell? ⟨gb767, 0, none⟩ = some (.int .i64 0) := (blk_cell BK767.out 0).trans rfl; have hcz24_1 : w22.cell? ⟨gb767, 1, none⟩ = some (.complex .f64 0 0) := (blk_cell BK767.out 1).trans rfl; have hcz24_2 : w22.cell? ⟨gb767, 2, none⟩ = some (.bool false) := (blk_cell BK767.out 2).trans rfl; have hfz24_0 := blk_frozen BK767.out 0; have hfz24_1 := blk_frozen BK767.out 1; have hfz24_2 := blk_frozen BK767.out 2))
     (try simp only [Act.put, List.setIfInBounds_toArray, List.set_cons_zero, List.set_cons_succ])
     go_cut [59] (fun v59 wc => ∃ (kq : Nat) (x59_16 : Bool), v59 = .bool x59_16 ∧ Aside0 (foghornlaw05_SliceTurned.j1 kq t754 (t755, t756) x59_16 t757 t758 t759 t763 t764 t765 = some r) ∧ Aside0 (kq ≤ kj8) ∧ Aside0 (wc.heap[gb761]? = some (.cells #[.int .i64 t757, .complex .f64 t758.1 t758.2, .bool t759] 83 (0, 0))) ∧ Aside0 (wc.heap[gb767]? = some (.cells #[.int .i64 t763, .complex .f64 t764.1 t764.2, .bool t765] 83 (0, 0))) ∧ Aside0 (Below w.heap.size w wc))
     case first =>
      have H := HC17.out
      clear HC17
      by_cases c25 : t760 = 0
      ·rw [if_pos c25] at H
       have c25b0 : (t760 == 0) = true := beq_iff_eq.mpr c25
       have c25b1 : (t760 != 0) = false := bne_eq_false_iff_eq.mpr c25
       clear c25
       (first | rw [c25b0] | (simp only [i64_w, i32_w]; rw [c25b0]) | skip)
       as_aux_lemma =>
        have H' := Aside0.mk H
        clear H
        go_wp2
        go_meet
        case rel => exact ⟨_, ((t766 != 0)), (by first | rfl | (simp; done) | (simp [*]; done)), H', ⟨by have := HJ8.out; first | omega | exact Nat.le_refl _⟩, ⟨by (with_reducible repeat (first | refine blk_drewN ?_ _ | refine blk_drew ?_ | refine blk_alloc ?_ _)); refine blk_far ?_ NB761_767.out _; (with_reducible repeat (first | refine blk_drewN ?_ _ | refine blk_drew ?_ | refine blk_alloc ?_ _)); refine blk_far ?_ NB761_767.out _; (with_reducible repeat (first | refine blk_drewN ?_ _ | refine blk_drew ?_ | refine blk_alloc ?_ _)); refine blk_far ?_ NB761_767.out _; (with_reducible repeat (first | refine blk_drewN ?_ _ | refine blk_drew ?_ | refine blk_alloc ?_ _)); exact BK761.out⟩, ⟨by (with_reducible repeat (first | refine blk_drewN ?_ _ | refine blk_drew ?_ | refine blk_alloc ?_ _)); refine blk_put (cs := #[.int .i64 t763, .complex .f64 t764.1 t764.2, .bool false]) ?_ 2 _ rfl; (with_reducible repeat (first | refine blk_drewN ?_ _ | refine blk_drew ?_ | refine blk_alloc ?_ _)); refine blk_put (cs := #[.int .i64 t763, .complex .f64 0 0, .bool false]) ?_ 1 _ rfl; (with_reducible repeat (first | refine blk_drewN ?_ _ | refine blk_drew ?_ | refine blk_alloc ?_ _)); refine blk_put (cs := #[.int .i64 0, .complex .f64 0 0, .bool false]) ?_ 0 _ rfl; (with_reducible repeat (first | refine blk_drewN ?_ _ | refine blk_drew ?_ | refine blk_alloc ?_ _)); exact BK767.out⟩, ⟨by repeat (first | (with_reducible first | exact HB.out | apply below_alloc | apply pw_below_drewN | apply below_drew1 | refine below_set ?_ GE761.out | refine below_set ?_ GE767.out) | exact HB.out)⟩⟩
      ·rw [if_neg c25] at H
       have c25b0 : (t760 == 0) = false := beq_eq_false_iff_ne.mpr c25
       have c25b1 : (t760 != 0) = true := bne_iff_ne.mpr c25
       (first | rw [c25b0] | (simp only [i64_w, i32_w]; rw [c25b0]) | skip)
       as_aux_lemma =>
        have H' := Aside0.mk H
        clear H
        go_wp2
        go_meet
        case rel => exact ⟨_, (true), (by first | rfl | (simp; done) | (simp [*]; done)), H', ⟨by have := HJ8.out; first | omega | exact Nat.le_refl _⟩, ⟨by (with_reducible repeat (first | refine blk_drewN ?_ _ | refine blk_drew ?_ | refine blk_alloc ?_ _)); refine blk_far ?_ NB761_767.out _; (with_reducible repeat (first | refine blk_drewN ?_ _ | refine blk_drew ?_ | refine blk_alloc ?_ _)); refine blk_far ?_ NB761_767.out _; (with_reducible repeat (first | refine blk_drewN ?_ _ | refine blk_drew ?_ | refine blk_alloc ?_ _)); refine blk_far ?_ NB761_767.out _; (with_reducible repeat (first | refine blk_drewN ?_ _ | refine blk_drew ?_ | refine blk_alloc ?_ _)); exact BK761.out⟩, ⟨by (with_reducible repeat (first | refine blk_drewN ?_ _ | refine blk_drew ?_ | refine blk_alloc ?_ _)); refine blk_put (cs := #[.int .i64 t763, .complex .f64 t764.1 t764.2, .bool false]) ?_ 2 _ rfl; (with_reducible repeat (first | refine blk_drewN ?_ _ | refine blk_drew ?_ | refine blk_alloc ?_ _)); refine blk_put (cs := #[.int .i64 t763, .complex .f64 0 0, .bool false]) ?_ 1 _ rfl; (with_reducible repeat (first | refine blk_drewN ?_ _ | refine blk_drew ?_ | refine blk_alloc ?_ _)); refine blk_put (cs := #[.int .i64 0, .complex .f64 0 0, .bool false]) ?_ 0 _ rfl; (with_reducible repeat (first | refine blk_drewN ?_ _ | refine blk_drew ?_ | refine blk_alloc ?_ _)); exact BK767.out⟩, ⟨by repeat (first | (with_reducible first | exact HB.out | apply below_alloc | apply pw_below_drewN | apply below_drew1 | refine below_set ?_ GE761.out | refine below_set ?_ GE767.out) | exact HB.out)⟩⟩
     case rest =>
      clear HC17
      try clear c1
      try clear c2
      try clear p2
      try clear c5
      try clear c6
      try clear c12
      try clear c12b0
      try clear c12b1
      try clear c13
      try clear c23
      try clear c25
      try clear c25b0
      try clear c25b1
      try clear hcz20_0
      try clear hcz20_1
      try clear hcz20_2
      try clear hcz24_0
      try clear hcz24_1
      try clear hcz24_2
      try clear hfz20_0
      try clear hfz20_1
      try clear hfz20_2
      try clear hfz24_0
      try clear hfz24_1
      try clear hfz24_2
      try clear p2
      obtain ⟨kq, x59_16, rfl, HA, HJ16, BK761, BK767, HB⟩ := hcut
      cases kq with
      | zero => exact absurd HA.out (by simp [foghornlaw05_SliceTurned.j1])
      | succ kj16 =>
       have H := HA.out
       clear HA
       simp only [foghornlaw05_SliceTurned.j1] at H
       by_cases c26 : x59_16 = true
       ·subst c26
        have H1 : (some false) = some r := by rw [if_pos rfl] at H; exact H
        clear H
        have H := H1
        clear H1
        as_aux_lemma =>
         exact absurd ((Option.some.inj H).trans HQ_.out) (by decide)
       ·replace c26 := Bool.eq_false_iff.mpr c26
        subst c26
        have H1 : (if t754 = 32 then (foghornlaw05_SliceTurned.j2 kj16 t754 (t755, t756) true t757 t758 t759 t763 t764 t765) else (foghornlaw05_SliceTurned.j2 kj16 t754 (t755, t756) (t754 == 128) t757 t758 t759 t763 t764 t765)) = some r := by rw [if_neg (show ¬ (false = true) by decide)] at H; exact H
        clear H
        have H := H1
        clear H1
        have HC27 := Aside0.mk H
        clear H
        go_upto_region 11 with (fail)
        go_cut [65] (fun v65 wc => ∃ (kq : Nat) (x65_26 : Bool), v65 = .bool x65_26 ∧ Aside0 (foghornlaw05_SliceTurned.j2 kq t754 (t755, t756) x65_26 t757 t758 t759 t763 t764 t765 = some r) ∧ Aside0 (kq ≤ kj16) ∧ Aside0 (wc.heap[gb761]? = some (.cells #[.int .i64 t757, .complex .f64 t758.1 t758.2, .bool t759] 83 (0, 0))) ∧ Aside0 (wc.heap[gb767]? = some (.cells #[.int .i64 t763, .complex .f64 t764.1 t764.2, .bool t765] 83 (0, 0))) ∧ Aside0 (Below w.heap.size w wc))
        case first =>
         have H := HC27.out
         clear HC27
         by_cases c28 : t754 = 32
         ·rw [if_pos c28] at H
          have c28b0 : (t754 == 32) = true := beq_iff_eq.mpr c28
          have c28b1 : (t754 != 32) = false := bne_eq_false_iff_eq.mpr c28
          clear c28
          (first | rw [c28b0] | (simp only [i64_w, i32_w]; rw [c28b0]) | skip)
          as_aux_lemma =>
           have H' := Aside0.mk H
           clear H
           go_wp2
           go_meet
           case rel => exact ⟨_, (true), (by first | rfl | (simp; done) | (simp [*]; done)), H', ⟨by have := HJ8.out; have := HJ16.out; first | omega | exact Nat.le_refl _⟩, ⟨by (with_reducible repeat (first | refine blk_drewN ?_ _ | refine blk_drew ?_ | refine blk_alloc ?_ _)); exact BK761.out⟩, ⟨by (with_reducible repeat (first | refine blk_drewN ?_ _ | refine blk_drew ?_ | refine blk_alloc ?_ _)); exact BK767.out⟩, ⟨by repeat (first | (with_reducible first | exact HB.out | apply below_alloc | apply pw_below_drewN | apply below_drew1 | refine below_set ?_ GE761.out | refine below_set ?_ GE767.out) | exact HB.out)⟩⟩
         ·rw [if_neg c28] at H
          have c28b0 : (t754 == 32) = false := beq_eq_false_iff_ne.mpr c28
          have c28b1 : (t754 != 32) = true := bne_iff_ne.mpr c28
          (first | rw [c28b0] | (simp only [i64_w, i32_w]; rw [c28b0]) | skip)
          as_aux_lemma =>
           have H' := Aside0.mk H
           clear H
           go_wp2
           go_meet
           case rel => exact ⟨_, ((t754 == 128)), (by first | rfl | (simp; done) | (simp [*]; done)), H', ⟨by have := HJ8.out; have := HJ16.out; first | omega | exact Nat.le_refl _⟩, ⟨by (with_reducible repeat (first | refine blk_drewN ?_ _ | refine blk_drew ?_ | refine blk_alloc ?_ _)); exact BK761.out⟩, ⟨by (with_reducible repeat (first | refine blk_drewN ?_ _ | refine blk_drew ?_ | refine blk_alloc ?_ _)); exact BK767.out⟩, ⟨by repeat (first | (with_reducible first | exact HB.out | apply below_alloc | apply pw_below_drewN | apply below_drew1 | refine below_set ?_ GE761.out | refine below_set ?_ GE767.out) | exact HB.out)⟩⟩
        case rest =>
         clear HC27
         try clear c1
         try clear c2
         try clear p2
         try clear c5
         try clear c6
         try clear c12
         try clear c12b0
         try clear c12b1
         try clear c13
         try clear c23
         try clear c25
         try clear c25b0
         try clear c25b1
         try clear c26
         try clear c28
         try clear c28b0
         try clear c28b1
         try clear hcz20_0
         try clear hcz20_1
         try clear hcz20_2
         try clear hcz24_0
         try clear hcz24_1
         try clear hcz24_2
         try clear hfz20_0
         try clear hfz20_1
         try clear hfz20_2
         try clear hfz24_0
         try clear hfz24_1
         try clear hfz24_2
         try clear p2
         obtain ⟨kq, x65_26, rfl, HA, HJ26, BK761, BK767, HB⟩ := hcut
         cases kq with
         | zero => exact absurd HA.out (by simp [foghornlaw05_SliceTurned.j2])
         | succ kj26 =>
          have H := HA.out
          clear HA
          simp only [foghornlaw05_SliceTurned.j2] at H
          by_cases c29 : x65_26 = true
          ·subst c29
           have H1 : ((slice_Gap.f t754 (t755, t756) t757).bind fun bt768 => (foghornlaw05_SliceTurned.l0 kj26 t754 (t755, t756) bt768.1 0 t757 t758 t759 t763 t764 t765)) = some r := by rw [if_pos rfl] at H; exact H
           clear H
           have H := H1
           clear H1
           replace H := Option.bind_eq_some_iff.mp H
           obtain ⟨⟨t768, t769⟩, A300, H⟩ := H
           replace H : (foghornlaw05_SliceTurned.l0 kj26 t754 (t755, t756) t768 0 t757 t758 t759 t763 t764 t765) = some r := H
           have A30 := Aside0.mk A300
           clear A300
           have H' := Aside0.mk H
           clear H
           have hnb31 := NB761_767.out
           have hnc31 := NB767_761.out
           have hcz32_0 : wc.cell? ⟨gb761, 0, none⟩ = some (.int .i64 t757) := (blk_cell BK761.out 0).trans rfl
           have hcz32_1 : wc.cell? ⟨gb761, 1, none⟩ = some (.complex .f64 t758.1 t758.2) := (blk_cell BK761.out 1).trans rfl
           have hcz32_2 : wc.cell? ⟨gb761, 2, none⟩ = some (.bool t759) := (blk_cell BK761.out 2).trans rfl
           have hfz32_0 := blk_frozen BK761.out 0
           have hfz32_1 := blk_frozen BK761.out 1
           have hfz32_2 := blk_frozen BK761.out 2
           go_wp2_with (first | ((with_reducible refine gate_callee (f := 51) rfl ?_); refine goesL_ (some 71) rfl rfl Try.func51 (by kernel_rfl) rfl #[.int .i64 t754, .complex .f64 t755 t756, .int .i64 t757] rfl (by (try simp only [List.map_toArray, List.map_cons, List.map_nil]); first | done | rfl | (simp only [List.length_drop, List.length_take]; rfl)) ?_; (with_reducible refine (slice_Gap.calls t754 (t755, t756) t757 t768 t769 _ A30.out).mono ?_); rintro e w33 ⟨rfl, hb⟩; refine ⟨_, rfl, ?_⟩; have n0_ := Aside0.mk (blk_below (g := gb761) (o := .cells #[.int .i64 t757, .complex .f64 t758.1 t758.2, .bool t759] 83 (0, 0)) (by (with_reducible repeat (first | refine blk_drewN ?_ _ | refine blk_drew ?_ | refine blk_alloc ?_ _)); exact BK761.out) hb); have n1_ := Aside0.mk (blk_below (g := gb767) (o := .cells #[.int .i64 t763, .complex .f64 t764.1 t764.2, .bool t765] 83 (0, 0)) (by (with_reducible repeat (first | refine blk_drewN ?_ _ | refine blk_drew ?_ | refine blk_alloc ?_ _)); exact BK767.out) hb); have n2_ := Aside0.mk (below_step (by repeat (first | (with_reducible first | exact HB.out | apply below_alloc | apply pw_below_drewN | apply below_drew1 | refine below_set ?_ GE761.out | refine below_set ?_ GE767.out) | exact HB.out)) hb); clear BK761; clear BK767; clear HB; have BK761 := n0_; have BK767 := n1_; have HB := n2_; clear n0_ n1_ n2_; (try clear hb); (try clear hb2); (try clear hk); (try clear hi)))
           go_loopg [15] kj26 (fun kq v15 w' => ∃ (x15_4 : Int), v15 = .int .i64 x15_4 ∧ Aside0 (foghornlaw05_SliceTurned.l0 kq t754 (t755, t756) t768 x15_4 t757 t758 t759 t763 t764 t765 = some r) ∧ Aside0 (kq ≤ kj26) ∧ Aside0 (w'.heap[gb761]? = some (.cells #[.int .i64 t757, .complex .f64 t758.1 t758.2, .bool t759] 83 (0, 0))) ∧ Aside0 (w'.heap[gb767]? = some (.cells #[.int .i64 t763, .complex .f64 t764.1 t764.2, .bool t765] 83 (0, 0))) ∧ Aside0 (Below w.heap.size w w'))
           case atStart => exact ⟨(0), (by first | rfl | (simp; done) | (simp [*]; done)), H', ⟨Nat.le_refl _⟩, ⟨by (with_reducible repeat (first | refine blk_drewN ?_ _ | refine blk_drew ?_ | refine blk_alloc ?_ _)); exact BK761.out⟩, ⟨by (with_reducible repeat (first | refine blk_drewN ?_ _ | refine blk_drew ?_ | refine blk_alloc ?_ _)); exact BK767.out⟩, ⟨by repeat (first | (with_reducible first | exact HB.out | apply below_alloc | apply pw_below_drewN | apply below_drew1 | refine below_set ?_ GE761.out | refine below_set ?_ GE767.out) | exact HB.out)⟩⟩
           case round =>
            clear H'
            try clear c1
            try clear c2
            try clear p2
            try clear c3
            try clear c5
            try clear c6
            try clear c12
            try clear c12b0
            try clear c12b1
            try clear c13
            try clear c23
            try clear c25
            try clear c25b0
            try clear c25b1
            try clear c26
            try clear c28
            try clear c28b0
            try clear c28b1
            try clear c29
            try clear c31
            try clear hcz20_0
            try clear hcz20_1
            try clear hcz20_2
            try clear hcz24_0
            try clear hcz24_1
            try clear hcz24_2
            try clear hcz32_0
            try clear hcz32_1
            try clear hcz32_2
            try clear hfz20_0
            try clear hfz20_1
            try clear hfz20_2
            try clear hfz24_0
            try clear hfz24_1
            try clear hfz24_2
            try clear hfz32_0
            try clear hfz32_1
            try clear hfz32_2
            try clear p2
            obtain ⟨x15_4, rfl, HA, HK4, BK761, BK767, HB⟩ := hrel
            cases gk with
            | zero => exact absurd HA.out (by simp [foghornlaw05_SliceTurned.l0])
            | succ k4 =>
             have H := HA.out
             clear HA
             simp only [foghornlaw05_SliceTurned.l0] at H
             by_cases c34 : x15_4 < t754
             ·rw [if_pos c34] at H
              have c34b0 : decide (x15_4 < t754) = true := decide_eq_true c34
              clear c34
              replace H := Option.bind_eq_some_iff.mp H
              obtain ⟨⟨t770, t771⟩, A350, H⟩ := H
              replace H : (if x15_4 = t757 then (foghornlaw05_SliceTurned.l0 k4 t754 (t755, t756) t768 (wrap64 (x15_4 + 1)) t757 t758 t759 t763 t764 t765) else (if (FloatKind.f64.format.order t770 t768 == some .eq) = true then (some true) else (foghornlaw05_SliceTurned.l0 k4 t754 (t755, t756) t768 (wrap64 (x15_4 + 1)) t757 t758 t759 t763 t764 t765))) = some r := H
              have A35 := Aside0.mk A350
              clear A350
              by_cases c36 : x15_4 = t757
              ·rw [if_pos c36] at H
               have c36b0 : (x15_4 == t757) = true := beq_iff_eq.mpr c36
               have c36b1 : (x15_4 != t757) = false := bne_eq_false_iff_eq.mpr c36
               clear c36
               as_aux_lemma =>
                have H' := Aside0.mk H
                clear H
                go_wp2_with (first | ((with_reducible refine gate_callee (f := 51) rfl ?_); refine goesL_ (some 83) rfl rfl Try.func51 (by kernel_rfl) rfl #[.int .i64 t754, .complex .f64 t755 t756, .int .i64 x15_4] rfl (by (try simp only [List.map_toArray, List.map_cons, List.map_nil]); first | done | rfl | (simp only [List.length_drop, List.length_take]; rfl)) ?_; (with_reducible refine (slice_Gap.calls t754 (t755, t756) x15_4 t770 t771 _ A35.out).mono ?_); rintro e w37 ⟨rfl, hb⟩; refine ⟨_, rfl, ?_⟩; have n0_ := Aside0.mk (blk_below (g := gb761) (o := .cells #[.int .i64 t757, .complex .f64 t758.1 t758.2, .bool t759] 83 (0, 0)) (by (with_reducible repeat (first | refine blk_drewN ?_ _ | refine blk_drew ?_ | refine blk_alloc ?_ _)); exact BK761.out) hb); have n1_ := Aside0.mk (blk_below (g := gb767) (o := .cells #[.int .i64 t763, .complex .f64 t764.1 t764.2, .bool t765] 83 (0, 0)) (by (with_reducible repeat (first | refine blk_drewN ?_ _ | refine blk_drew ?_ | refine blk_alloc ?_ _)); exact BK767.out) hb); have n2_ := Aside0.mk (below_step (by repeat (first | (with_reducible first | exact HB.out | apply below_alloc | apply pw_below_drewN | apply below_drew1 | refine below_set ?_ GE761.out | refine below_set ?_ GE767.out) | exact HB.out)) hb); clear BK761; clear BK767; clear HB; have BK761 := n0_; have BK767 := n1_; have HB := n2_; clear n0_ n1_ n2_; (try clear hb); (try clear hb2); (try clear hk); (try clear hi); have hnb38 := NB761_767.out; have hnc38 := NB767_761.out; have hcz39_0 : w37.cell? ⟨gb761, 0, none⟩ = some (.int .i64 t757) := (blk_cell BK761.out 0).trans rfl; have hcz39_1 : w37.cell? ⟨gb761, 1, none⟩ = some (.complex .f64 t758.1 t758.2) := (blk_cell BK761.out 1).trans rfl; have hcz39_2 : w37.cell? ⟨gb761, 2, none⟩ = some (.bool t759) := (blk_cell BK761.out 2).trans rfl; have hfz39_0 := blk_frozen BK761.out 0; have hfz39_1 := blk_frozen BK761.out 1; have hfz39_2 := blk_frozen BK761.out 2))
                first | go_roundg k4 | (simp only [add_plain] at *; go_roundg k4)
                case measure => have := HJ8.out; have := HJ16.out; have := HJ26.out; have := HK4.out; omega
                case rel => exact ⟨(wrap64 (x15_4 + 1)), (by first | rfl | (simp; done) | (simp [*]; done)), H', ⟨by have := HJ8.out; have := HJ16.out; have := HJ26.out; have := HK4.out; omega⟩, ⟨by (with_reducible repeat (first | refine blk_drewN ?_ _ | refine blk_drew ?_ | refine blk_alloc ?_ _)); exact BK761.out⟩, ⟨by (with_reducible repeat (first | refine blk_drewN ?_ _ | refine blk_drew ?_ | refine blk_alloc ?_ _)); exact BK767.out⟩, ⟨by repeat (first | (with_reducible first | exact HB.out | apply below_alloc | apply pw_below_drewN | apply below_drew1 | refine below_set ?_ GE761.out | refine below_set ?_ GE767.out) | exact HB.out)⟩⟩
              ·rw [if_neg c36] at H
               have c36b0 : (x15_4 == t757) = false := beq_eq_false_iff_ne.mpr c36
               have c36b1 : (x15_4 != t757) = true := bne_iff_ne.mpr c36
               by_cases c40 : (FloatKind.f64.format.order t770 t768 == some .eq) = true
               ·rw [if_pos c40] at H
                have c40b0 : (FloatKind.f64.format.order t770 t768 == some .eq) = true := c40
                (try (have c40b1 : decide (FloatKind.f64.format.order t770 t768 = some .eq) = true := by simpa using c40))
                (try (have c40b2 : (FloatKind.f64.format.order t770 t768 == some .eq) = true := by simpa using c40))
                clear c40
                as_aux_lemma =>
                 obtain rfl := Option.some.inj H
                 go_wp2_with (first | ((with_reducible refine gate_callee (f := 51) rfl ?_); refine goesL_ (some 83) rfl rfl Try.func51 (by kernel_rfl) rfl #[.int .i64 t754, .complex .f64 t755 t756, .int .i64 x15_4] rfl (by (try simp only [List.map_toArray, List.map_cons, List.map_nil]); first | done | rfl | (simp only [List.length_drop, List.length_take]; rfl)) ?_; (with_reducible refine (slice_Gap.calls t754 (t755, t756) x15_4 t770 t771 _ A35.out).mono ?_); rintro e w41 ⟨rfl, hb⟩; refine ⟨_, rfl, ?_⟩; have n0_ := Aside0.mk (blk_below (g := gb761) (o := .cells #[.int .i64 t757, .complex .f64 t758.1 t758.2, .bool t759] 83 (0, 0)) (by (with_reducible repeat (first | refine blk_drewN ?_ _ | refine blk_drew ?_ | refine blk_alloc ?_ _)); exact BK761.out) hb); have n1_ := Aside0.mk (blk_below (g := gb767) (o := .cells #[.int .i64 t763, .complex .f64 t764.1 t764.2, .bool t765] 83 (0, 0)) (by (with_reducible repeat (first | refine blk_drewN ?_ _ | refine blk_drew ?_ | refine blk_alloc ?_ _)); exact BK767.out) hb); have n2_ := Aside0.mk (below_step (by repeat (first | (with_reducible first | exact HB.out | apply below_alloc | apply pw_below_drewN | apply below_drew1 | refine below_set ?_ GE761.out | refine below_set ?_ GE767.out) | exact HB.out)) hb); clear BK761; clear BK767; clear HB; have BK761 := n0_; have BK767 := n1_; have HB := n2_; clear n0_ n1_ n2_; (try clear hb); (try clear hb2); (try clear hk); (try clear hi); have hnb42 := NB761_767.out; have hnc42 := NB767_761.out; have hcz43_0 : w41.cell? ⟨gb761, 0, none⟩ = some (.int .i64 t757) := (blk_cell BK761.out 0).trans rfl; have hcz43_1 : w41.cell? ⟨gb761, 1, none⟩ = some (.complex .f64 t758.1 t758.2) := (blk_cell BK761.out 1).trans rfl; have hcz43_2 : w41.cell? ⟨gb761, 2, none⟩ = some (.bool t759) := (blk_cell BK761.out 2).trans rfl; have hfz43_0 := blk_frozen BK761.out 0; have hfz43_1 := blk_frozen BK761.out 1; have hfz43_2 := blk_frozen BK761.out 2))
                 go_ret
                 exact ⟨by first | rfl | (simp [errW_none, errW_some] <;> rfl) | (simp [*, errW_none, errW_some] <;> rfl), by repeat (first | (with_reducible first | exact HB.out | apply below_alloc | apply pw_below_drewN | apply below_drew1 | refine below_set ?_ GE761.out | refine below_set ?_ GE767.out) | exact HB.out)⟩
               ·rw [if_neg c40] at H
                have c40b0 : (FloatKind.f64.format.order t770 t768 == some .eq) = false := by simpa using c40
                (try (have c40b1 : decide (FloatKind.f64.format.order t770 t768 = some .eq) = false := by simpa using c40))
                (try (have c40b2 : (FloatKind.f64.format.order t770 t768 == some .eq) = false := by simpa using c40))
                (try (have c40b3 : ¬ (FloatKind.f64.format.order t770 t768 = some .eq) := by simpa using c40))
                clear c40
                as_aux_lemma =>
                 have H' := Aside0.mk H
                 clear H
                 go_wp2_with (first | ((with_reducible refine gate_callee (f := 51) rfl ?_); refine goesL_ (some 83) rfl rfl Try.func51 (by kernel_rfl) rfl #[.int .i64 t754, .complex .f64 t755 t756, .int .i64 x15_4] rfl (by (try simp only [List.map_toArray, List.map_cons, List.map_nil]); first | done | rfl | (simp only [List.length_drop, List.length_take]; rfl)) ?_; (with_reducible refine (slice_Gap.calls t754 (t755, t756) x15_4 t770 t771 _ A35.out).mono ?_); rintro e w44 ⟨rfl, hb⟩; refine ⟨_, rfl, ?_⟩; have n0_ := Aside0.mk (blk_below (g := gb761) (o := .cells #[.int .i64 t757, .complex .f64 t758.1 t758.2, .bool t759] 83 (0, 0)) (by (with_reducible repeat (first | refine blk_drewN ?_ _ | refine blk_drew ?_ | refine blk_alloc ?_ _)); exact BK761.out) hb); have n1_ := Aside0.mk (blk_below (g := gb767) (o := .cells #[.int .i64 t763, .complex .f64 t764.1 t764.2, .bool t765] 83 (0, 0)) (by (with_reducible repeat (first | refine blk_drewN ?_ _ | refine blk_drew ?_ | refine blk_alloc ?_ _)); exact BK767.out) hb); have n2_ := Aside0.mk (below_step (by repeat (first | (with_reducible first | exact HB.out | apply below_alloc | apply pw_below_drewN | apply below_drew1 | refine below_set ?_ GE761.out | refine below_set ?_ GE767.out) | exact HB.out)) hb); clear BK761; clear BK767; clear HB; have BK761 := n0_; have BK767 := n1_; have HB := n2_; clear n0_ n1_ n2_; (try clear hb); (try clear hb2); (try clear hk); (try clear hi); have hnb45 := NB761_767.out; have hnc45 := NB767_761.out; have hcz46_0 : w44.cell? ⟨gb761, 0, none⟩ = some (.int .i64 t757) := (blk_cell BK761.out 0).trans rfl; have hcz46_1 : w44.cell? ⟨gb761, 1, none⟩ = some (.complex .f64 t758.1 t758.2) := (blk_cell BK761.out 1).trans rfl; have hcz46_2 : w44.cell? ⟨gb761, 2, none⟩ = some (.bool t759) := (blk_cell BK761.out 2).trans rfl; have hfz46_0 := blk_frozen BK761.out 0; have hfz46_1 := blk_frozen BK761.out 1; have hfz46_2 := blk_frozen BK761.out 2))
                 first | go_roundg k4 | (simp only [add_plain] at *; go_roundg k4)
                 case measure => have := HJ8.out; have := HJ16.out; have := HJ26.out; have := HK4.out; omega
                 case rel => exact ⟨(wrap64 (x15_4 + 1)), (by first | rfl | (simp; done) | (simp [*]; done)), H', ⟨by have := HJ8.out; have := HJ16.out; have := HJ26.out; have := HK4.out; omega⟩, ⟨by (with_reducible repeat (first | refine blk_drewN ?_ _ | refine blk_drew ?_ | refine blk_alloc ?_ _)); exact BK761.out⟩, ⟨by (with_reducible repeat (first | refine blk_drewN ?_ _ | refine blk_drew ?_ | refine blk_alloc ?_ _)); exact BK767.out⟩, ⟨by repeat (first | (with_reducible first | exact HB.out | apply below_alloc | apply pw_below_drewN | apply below_drew1 | refine below_set ?_ GE761.out | refine below_set ?_ GE767.out) | exact HB.out)⟩⟩
             ·rw [if_neg c34] at H
              have c34b0 : decide (x15_4 < t754) = false := decide_eq_false c34
              clear c34
              replace H := Option.bind_eq_some_iff.mp H
              obtain ⟨t772, A470, H⟩ := H
              replace H : (some ((FloatKind.f64.format.order t764.1 t772 == some .eq) && (FloatKind.f64.format.order t764.2 t758.1 == some .eq))) = some r := H
              have A47 := Aside0.mk A470
              clear A470
              as_aux_lemma =>
               obtain rfl := Option.some.inj H
               have hnb48 := NB767_761.out
               have hnc48 := NB761_767.out
               have hcz49_0 : wr.cell? ⟨gb767, 0, none⟩ = some (.int .i64 t763) := (blk_cell BK767.out 0).trans rfl
               have hcz49_1 : wr.cell? ⟨gb767, 1, none⟩ = some (.complex .f64 t764.1 t764.2) := (blk_cell BK767.out 1).trans rfl
               have hcz49_2 : wr.cell? ⟨gb767, 2, none⟩ = some (.bool t765) := (blk_cell BK767.out 2).trans rfl
               have hfz49_0 := blk_frozen BK767.out 0
               have hfz49_1 := blk_frozen BK767.out 1
               have hfz49_2 := blk_frozen BK767.out 2
               have hcz50_0 : wr.cell? ⟨gb761, 0, none⟩ = some (.int .i64 t757) := (blk_cell BK761.out 0).trans rfl
               have hcz50_1 : wr.cell? ⟨gb761, 1, none⟩ = some (.complex .f64 t758.1 t758.2) := (blk_cell BK761.out 1).trans rfl
               have hcz50_2 : wr.cell? ⟨gb761, 2, none⟩ = some (.bool t759) := (blk_cell BK761.out 2).trans rfl
               have hfz50_0 := blk_frozen BK761.out 0
               have hfz50_1 := blk_frozen BK761.out 1
               have hfz50_2 := blk_frozen BK761.out 2
               have hfoA47_ := fun (t_ : TypeId) (w_ : World) => run_float_arith (P := Try.prog) w_ .sub t_ .f64 0 t758.2 t772 A47.out
               go_wp2
               go_ret
               exact ⟨by first | rfl | (simp [errW_none, errW_some] <;> rfl) | (simp [*, errW_none, errW_some] <;> rfl), by repeat (first | (with_reducible first | exact HB.out | apply below_alloc | apply pw_below_drewN | apply below_drew1 | refine below_set ?_ GE761.out | refine below_set ?_ GE767.out) | exact HB.out)⟩
          ·replace c29 := Bool.eq_false_iff.mpr c29
           subst c29
           have H1 : ((floatBits .sub .f64 0 t758.2).bind fun t773 => (some ((FloatKind.f64.format.order t764.1 t773 == some .eq) && (FloatKind.f64.format.order t764.2 t758.1 == some .eq)))) = some r := by rw [if_neg (show ¬ (false = true) by decide)] at H; exact H
           clear H
           have H := H1
           clear H1
           replace H := Option.bind_eq_some_iff.mp H
           obtain ⟨t773, A510, H⟩ := H
           replace H : (some ((FloatKind.f64.format.order t764.1 t773 == some .eq) && (FloatKind.f64.format.order t764.2 t758.1 == some .eq))) = some r := H
           have A51 := Aside0.mk A510
           clear A510
           as_aux_lemma =>
            obtain rfl := Option.some.inj H
            have hnb52 := NB767_761.out
            have hnc52 := NB761_767.out
            have hcz53_0 : wc.cell? ⟨gb767, 0, none⟩ = some (.int .i64 t763) := (blk_cell BK767.out 0).trans rfl
            have hcz53_1 : wc.cell? ⟨gb767, 1, none⟩ = some (.complex .f64 t764.1 t764.2) := (blk_cell BK767.out 1).trans rfl
            have hcz53_2 : wc.cell? ⟨gb767, 2, none⟩ = some (.bool t765) := (blk_cell BK767.out 2).trans rfl
            have hfz53_0 := blk_frozen BK767.out 0
            have hfz53_1 := blk_frozen BK767.out 1
            have hfz53_2 := blk_frozen BK767.out 2
            have hcz54_0 : wc.cell? ⟨gb761, 0, none⟩ = some (.int .i64 t757) := (blk_cell BK761.out 0).trans rfl
            have hcz54_1 : wc.cell? ⟨gb761, 1, none⟩ = some (.complex .f64 t758.1 t758.2) := (blk_cell BK761.out 1).trans rfl
            have hcz54_2 : wc.cell? ⟨gb761, 2, none⟩ = some (.bool t759) := (blk_cell BK761.out 2).trans rfl
            have hfz54_0 := blk_frozen BK761.out 0
            have hfz54_1 := blk_frozen BK761.out 1
            have hfz54_2 := blk_frozen BK761.out 2
            have hfoA51_ := fun (t_ : TypeId) (w_ : World) => run_float_arith (P := Try.prog) w_ .sub t_ .f64 0 t758.2 t773 A51.out
            go_wp2
            go_ret
            exact ⟨by first | rfl | (simp [errW_none, errW_some] <;> rfl) | (simp [*, errW_none, errW_some] <;> rfl), by repeat (first | (with_reducible first | exact HB.out | apply below_alloc | apply pw_below_drewN | apply below_drew1 | refine below_set ?_ GE761.out | refine below_set ?_ GE767.out) | exact HB.out)⟩
 ·replace c5 := Bool.eq_false_iff.mpr c5
  subst c5
  have H1 : (some false) = some r := by rw [if_neg (show ¬ (false = true) by decide)] at H; exact H
  clear H
  have H := H1
  clear H1
  as_aux_lemma =>
   exact absurd ((Option.some.inj H).trans HQ_.out) (by decide)

theorem foghornlaw05_SliceTurned.walk (P : foghornlaw05_SliceTurned.Pure) (a0 : Int) (a1 : Int) (a2 : Int) (w : World) (w0 : (Lit.int .i64 a0).wf = true) (w1 : (Lit.int .i32 a1).wf = true) (w2 : (Lit.int .i32 a2).wf = true) :
  Calls Try.prog 12 #[.int .i64 a0, .int .i32 a1, .int .i32 a2] w fun e w' => e = .returned (.bool true) ∧ Below w.heap.size w w' := by
 obtain ⟨k, h⟩ := P a0 a1 a2 w0 w1 w2
 refine (foghornlaw05_SliceTurned.calls k a0 a1 a2 true w h rfl).mono ?_
 rintro e w' ⟨rfl, hd⟩
 exact ⟨rfl, hd⟩

end Go.Proofs.Ythfcafllcgjepaa.Q
