-- Printed by myprint.py (ours) over the kit's printer, out of the translation.
import Derived.Test.YthfcafllcgjepaaSliceRowsK0
import Derived.Test.YthfcafllcgjepaaSliceRowsF1
import Derived.Test.YthfcafllcgjepaaSliceRowsQ3
import Derived.Test.YthfcafllcgjepaaSliceRowsQ5
namespace Go.Proofs.Ythfcafllcgjepaa.Q
open Go.RowKit Go.Proofs.YthfcafllcgjepaaW.PrintWords Go.Proofs.YthfcafllcgjepaaW.PrintLast Go.Proofs.YthfcafllcgjepaaW.PrintMore
attribute [local go_sem] ArrW.ptrOf_slice unary_neg_float unary_neg_complex run_store_float run_store_complex max2_int min2_int max_two min_two max_three min_three max_four min_four   -- for this text's walks alone
set_option linter.unusedVariables false
set_option linter.unusedSimpArgs false

/-! ### foghornlaw05_SliceRows: function 13 -/
set_option maxHeartbeats 8000000 in
set_option maxRecDepth 100000 in
theorem foghornlaw05_SliceRows.calls (k : Nat) (a0 : Int) (A1 : Option Addr) (c1 : Nat) (l1 : List (S206)) (r : Bool) (w : World) (hr1 : Kd.C k206 w A1 l1.length l1) (hc1 : l1.length ≤ c1) (h : foghornlaw05_SliceRows.f k a0 l1 = some r) (hq_ : r = true) :
  Calls Try.prog 13 #[.int .i64 a0, .slice A1 l1.length c1] w fun e w' => e = .returned (.bool r) ∧ Below w.heap.size w w' := by
 have HQ_ := Aside0.mk hq_
 clear hq_
 have hu83 := Try.underlying83
 have HR1 := Aside0.mk hr1
 have HC1 := Aside0.mk hc1
 clear hr1 hc1
 have HB := Aside0.mk (Below.refl w.heap.size w)
 have H : ((foghornlaw05_samples.f k l1).bind fun t841 => ((foghornref05_Row.f k a0 t841).bind fun bt844 => ((slice_Row.f k a0 t841).bind fun bt848 => ((slice_Row.f k a0 t841).bind fun bt852 => (if bt848.2 = bt844.2 then ((foghornlaw05_rows.f k bt848.1 bt844.1).bind fun t856 => (if t856 = true then ((foghornlaw05_rows.f k bt852.1 bt844.1).bind fun t857 => (if t857 = true then (if (wrap64 ((l1.length : Int) + 1)) = (t841.length : Int) + 1 then ((some (t841 ++ [(⟨(4651892959631900672, 0), false⟩ : S101)] : List (S101))).bind fun y858 => (if 0 ≤ (l1.length : Int) then (if (l1.length : Int) < (y858.length : Int) then (if (!((FloatKind.f64.format.order (((rd_T101 y858 (l1.length : Int)).f0).1) 4651892959631900672 == some .eq) && (FloatKind.f64.format.order (((rd_T101 y858 (l1.length : Int)).f0).2) 0 == some .eq))) = true then (foghornlaw05_SliceRows.j0 k bt844.1 bt848.1 bt852.1 true) else ((foghornlaw05_samples.f k l1).bind fun t863 => ((foghornref02_Same.f k t841 t863).bind fun t866 => (foghornlaw05_SliceRows.j0 k bt844.1 bt848.1 bt852.1 (!t866))))) else (none)) else (none))) else (none)) else (foghornlaw05_SliceRows.j0 k bt844.1 bt848.1 bt852.1 true))) else (foghornlaw05_SliceRows.j0 k bt844.1 bt848.1 bt852.1 true))) else (foghornlaw05_SliceRows.j0 k bt844.1 bt848.1 bt852.1 true)))))) = some r := h
 clear h
 replace H := Option.bind_eq_some_iff.mp H
 obtain ⟨t841, A30, H⟩ := H
 replace H : ((foghornref05_Row.f k a0 t841).bind fun bt844 => ((slice_Row.f k a0 t841).bind fun bt848 => ((slice_Row.f k a0 t841).bind fun bt852 => (if bt848.2 = bt844.2 then ((foghornlaw05_rows.f k bt848.1 bt844.1).bind fun t856 => (if t856 = true then ((foghornlaw05_rows.f k bt852.1 bt844.1).bind fun t857 => (if t857 = true then (if (wrap64 ((l1.length : Int) + 1)) = (t841.length : Int) + 1 then ((some (t841 ++ [(⟨(4651892959631900672, 0), false⟩ : S101)] : List (S101))).bind fun y858 => (if 0 ≤ (l1.length : Int) then (if (l1.length : Int) < (y858.length : Int) then (if (!((FloatKind.f64.format.order (((rd_T101 y858 (l1.length : Int)).f0).1) 4651892959631900672 == some .eq) && (FloatKind.f64.format.order (((rd_T101 y858 (l1.length : Int)).f0).2) 0 == some .eq))) = true then (foghornlaw05_SliceRows.j0 k bt844.1 bt848.1 bt852.1 true) else ((foghornlaw05_samples.f k l1).bind fun t863 => ((foghornref02_Same.f k t841 t863).bind fun t866 => (foghornlaw05_SliceRows.j0 k bt844.1 bt848.1 bt852.1 (!t866))))) else (none)) else (none))) else (none)) else (foghornlaw05_SliceRows.j0 k bt844.1 bt848.1 bt852.1 true))) else (foghornlaw05_SliceRows.j0 k bt844.1 bt848.1 bt852.1 true))) else (foghornlaw05_SliceRows.j0 k bt844.1 bt848.1 bt852.1 true))))) = some r := H
 have A3 := Aside0.mk A30
 clear A30
 replace H := Option.bind_eq_some_iff.mp H
 obtain ⟨⟨t844, t845⟩, A40, H⟩ := H
 replace H : ((slice_Row.f k a0 t841).bind fun bt848 => ((slice_Row.f k a0 t841).bind fun bt852 => (if bt848.2 = t845 then ((foghornlaw05_rows.f k bt848.1 t844).bind fun t856 => (if t856 = true then ((foghornlaw05_rows.f k bt852.1 t844).bind fun t857 => (if t857 = true then (if (wrap64 ((l1.length : Int) + 1)) = (t841.length : Int) + 1 then ((some (t841 ++ [(⟨(4651892959631900672, 0), false⟩ : S101)] : List (S101))).bind fun y858 => (if 0 ≤ (l1.length : Int) then (if (l1.length : Int) < (y858.length : Int) then (if (!((FloatKind.f64.format.order (((rd_T101 y858 (l1.length : Int)).f0).1) 4651892959631900672 == some .eq) && (FloatKind.f64.format.order (((rd_T101 y858 (l1.length : Int)).f0).2) 0 == some .eq))) = true then (foghornlaw05_SliceRows.j0 k t844 bt848.1 bt852.1 true) else ((foghornlaw05_samples.f k l1).bind fun t863 => ((foghornref02_Same.f k t841 t863).bind fun t866 => (foghornlaw05_SliceRows.j0 k t844 bt848.1 bt852.1 (!t866))))) else (none)) else (none))) else (none)) else (foghornlaw05_SliceRows.j0 k t844 bt848.1 bt852.1 true))) else (foghornlaw05_SliceRows.j0 k t844 bt848.1 bt852.1 true))) else (foghornlaw05_SliceRows.j0 k t844 bt848.1 bt852.1 true)))) = some r := H
 have A4 := Aside0.mk A40
 clear A40
 replace H := Option.bind_eq_some_iff.mp H
 obtain ⟨⟨t848, t849⟩, A50, H⟩ := H
 replace H : ((slice_Row.f k a0 t841).bind fun bt852 => (if t849 = t845 then ((foghornlaw05_rows.f k t848 t844).bind fun t856 => (if t856 = true then ((foghornlaw05_rows.f k bt852.1 t844).bind fun t857 => (if t857 = true then (if (wrap64 ((l1.length : Int) + 1)) = (t841.length : Int) + 1 then ((some (t841 ++ [(⟨(4651892959631900672, 0), false⟩ : S101)] : List (S101))).bind fun y858 => (if 0 ≤ (l1.length : Int) then (if (l1.length : Int) < (y858.length : Int) then (if (!((FloatKind.f64.format.order (((rd_T101 y858 (l1.length : Int)).f0).1) 4651892959631900672 == some .eq) && (FloatKind.f64.format.order (((rd_T101 y858 (l1.length : Int)).f0).2) 0 == some .eq))) = true then (foghornlaw05_SliceRows.j0 k t844 t848 bt852.1 true) else ((foghornlaw05_samples.f k l1).bind fun t863 => ((foghornref02_Same.f k t841 t863).bind fun t866 => (foghornlaw05_SliceRows.j0 k t844 t848 bt852.1 (!t866))))) else (none)) else (none))) else (none)) else (foghornlaw05_SliceRows.j0 k t844 t848 bt852.1 true))) else (foghornlaw05_SliceRows.j0 k t844 t848 bt852.1 true))) else (foghornlaw05_SliceRows.j0 k t844 t848 bt852.1 true))) = some r := H
 have A5 := Aside0.mk A50
 clear A50
 replace H := Option.bind_eq_some_iff.mp H
 obtain ⟨⟨t852, t853⟩, A60, H⟩ := H
 replace H : (if t849 = t845 then ((foghornlaw05_rows.f k t848 t844).bind fun t856 => (if t856 = true then ((foghornlaw05_rows.f k t852 t844).bind fun t857 => (if t857 = true then (if (wrap64 ((l1.length : Int) + 1)) = (t841.length : Int) + 1 then ((some (t841 ++ [(⟨(4651892959631900672, 0), false⟩ : S101)] : List (S101))).bind fun y858 => (if 0 ≤ (l1.length : Int) then (if (l1.length : Int) < (y858.length : Int) then (if (!((FloatKind.f64.format.order (((rd_T101 y858 (l1.length : Int)).f0).1) 4651892959631900672 == some .eq) && (FloatKind.f64.format.order (((rd_T101 y858 (l1.length : Int)).f0).2) 0 == some .eq))) = true then (foghornlaw05_SliceRows.j0 k t844 t848 t852 true) else ((foghornlaw05_samples.f k l1).bind fun t863 => ((foghornref02_Same.f k t841 t863).bind fun t866 => (foghornlaw05_SliceRows.j0 k t844 t848 t852 (!t866))))) else (none)) else (none))) else (none)) else (foghornlaw05_SliceRows.j0 k t844 t848 t852 true))) else (foghornlaw05_SliceRows.j0 k t844 t848 t852 true))) else (foghornlaw05_SliceRows.j0 k t844 t848 t852 true)) = some r := H
 have A6 := Aside0.mk A60
 clear A60
 have HC7 := Aside0.mk H
 clear H
 go_enter Try.func13, Try.ntmps13
 go_upto_region 6 with (first | ((with_reducible refine gate_callee (f := 66) rfl ?_); refine goesL_ (some 21) rfl rfl Try.func66 (by kernel_rfl) rfl #[.slice A1 l1.length c1] rfl (by (try simp only [List.map_toArray, List.map_cons, List.map_nil]); first | done | rfl | (simp only [List.length_drop, List.length_take]; rfl)) ?_; (with_reducible refine (foghornlaw05_samples.calls k _ _ l1 t841 _ ?side1 ?side2 A3.out).mono ?_); (case side1 => repeat (first | exact HR1.out | (with_reducible refine Kd.C_alloc ?_ _) | (with_reducible refine Kd.C_drewN ?_ _) | (with_reducible refine Kd.C_drew ?_))); (case side2 => exact HC1.out); rintro e w8 ⟨v842, rfl, ho0, hb⟩; refine ⟨_, rfl, ?_⟩; have n0_ := Aside0.mk (Kd.U_lower ho0 (below_size (by repeat (first | (with_reducible first | exact HB.out | apply below_alloc | apply pw_below_drewN | apply below_drew1) | exact HB.out)))); have n1_ := Aside0.mk (below_step (by repeat (first | (with_reducible first | exact HB.out | apply below_alloc | apply pw_below_drewN | apply below_drew1) | exact HB.out)) hb); clear HB; have HO843 := n0_; have HB := n1_; clear n0_ n1_; (try clear hb); (try clear hb2); (try clear hk); (try clear hi); (try clear ho0); obtain ⟨Ao9, co9, eo9⟩ := Kd.U_slice HO843.out; subst eo9) | ((with_reducible refine gate_callee (f := 67) rfl ?_); refine goesL_ (some 27) rfl rfl Try.func67 (by kernel_rfl) rfl #[.int .i64 a0, .slice Ao9 t841.length co9] rfl (by (try simp only [List.map_toArray, List.map_cons, List.map_nil]); first | done | rfl | (simp only [List.length_drop, List.length_take]; rfl)) ?_; (with_reducible refine (foghornref05_Row.calls k a0 _ _ t841 t844 t845 _ ?side1 ?side2 A4.out).mono ?_); (case side1 => repeat (first | exact (Kd.U_reads' HO843.out).2.2 | (with_reducible refine Kd.C_alloc ?_ _) | (with_reducible refine Kd.C_drewN ?_ _) | (with_reducible refine Kd.C_drew ?_))); (case side2 => exact (Kd.U_reads' HO843.out).2.1); rintro e w10 ⟨v846, rfl, ho0, hb⟩; refine ⟨_, rfl, ?_⟩; have n0_ := Aside0.mk (Kd.U_below (by (with_reducible repeat (first | apply Kd.U_alloc | apply Kd.U_drewN | apply Kd.U_drew)); exact HO843.out) hb); have n1_ := Aside0.mk (Kd.R_lower ho0 (below_size (by repeat (first | (with_reducible first | exact HB.out | apply below_alloc | apply pw_below_drewN | apply below_drew1) | exact HB.out)))); have n2_ := Aside0.mk (below_step (by repeat (first | (with_reducible first | exact HB.out | apply below_alloc | apply pw_below_drewN | apply below_drew1) | exact HB.out)) hb); clear HO843; clear HB; have HO843 := n0_; have HO847 := n1_; have HB := n2_; clear n0_ n1_ n2_; (try clear hb); (try clear hb2); (try clear hk); (try clear hi); (try clear ho0)) | ((with_reducible refine gate_callee (f := 68) rfl ?_); refine goesL_ (some 33) rfl rfl Try.func68 (by kernel_rfl) rfl #[.int .i64 a0, .slice Ao9 t841.length co9] rfl (by (try simp only [List.map_toArray, List.map_cons, List.map_nil]); first | done | rfl | (simp only [List.length_drop, List.length_take]; rfl)) ?_; (with_reducible refine (slice_Row.calls k a0 _ _ t841 t848 t849 _ ?side1 ?side2 A5.out).mono ?_); (case side1 => repeat (first | exact (Kd.U_reads' HO843.out).2.2 | (with_reducible refine Kd.C_alloc ?_ _) | (with_reducible refine Kd.C_drewN ?_ _) | (with_reducible refine Kd.C_drew ?_))); (case side2 => exact (Kd.U_reads' HO843.out).2.1); rintro e w11 ⟨v850, rfl, ho0, hb⟩; refine ⟨_, rfl, ?_⟩; have n0_ := Aside0.mk (Kd.U_below (by (with_reducible repeat (first | apply Kd.U_alloc | apply Kd.U_drewN | apply Kd.U_drew)); exact HO843.out) hb); have n1_ := Aside0.mk (Kd.R_below (by (with_reducible repeat (first | apply Kd.R_alloc | apply Kd.R_drewN | apply Kd.R_drew)); exact HO847.out) hb); have n2_ := Aside0.mk (Kd.R_lower ho0 (below_size (by repeat (first | (with_reducible first | exact HB.out | apply below_alloc | apply pw_below_drewN | apply below_drew1) | exact HB.out)))); have n3_ := Aside0.mk (below_step (by repeat (first | (with_reducible first | exact HB.out | apply below_alloc | apply pw_below_drewN | apply below_drew1) | exact HB.out)) hb); clear HO843; clear HO847; clear HB; have HO843 := n0_; have HO847 := n1_; have HO851 := n2_; have HB := n3_; clear n0_ n1_ n2_ n3_; (try clear hb); (try clear hb2); (try clear hk); (try clear hi); (try clear ho0)) | ((with_reducible refine gate_callee (f := 68) rfl ?_); refine goesL_ (some 39) rfl rfl Try.func68 (by kernel_rfl) rfl #[.int .i64 a0, .slice Ao9 t841.length co9] rfl (by (try simp only [List.map_toArray, List.map_cons, List.map_nil]); first | done | rfl | (simp only [List.length_drop, List.length_take]; rfl)) ?_; (with_reducible refine (slice_Row.calls k a0 _ _ t841 t852 t853 _ ?side1 ?side2 A6.out).mono ?_); (case side1 => repeat (first | exact (Kd.U_reads' HO843.out).2.2 | (with_reducible refine Kd.C_alloc ?_ _) | (with_reducible refine Kd.C_drewN ?_ _) | (with_reducible refine Kd.C_drew ?_))); (case side2 => exact (Kd.U_reads' HO843.out).2.1); rintro e w12 ⟨v854, rfl, ho0, hb⟩; refine ⟨_, rfl, ?_⟩; have n0_ := Aside0.mk (Kd.U_below (by (with_reducible repeat (first | apply Kd.U_alloc | apply Kd.U_drewN | apply Kd.U_drew)); exact HO843.out) hb); have n1_ := Aside0.mk (Kd.R_below (by (with_reducible repeat (first | apply Kd.R_alloc | apply Kd.R_drewN | apply Kd.R_drew)); exact HO847.out) hb); have n2_ := Aside0.mk (Kd.R_elder' (by (with_reducible repeat (first | apply Kd.R_alloc | apply Kd.R_drewN | apply Kd.R_drew)); exact HO851.out) (Kd.R_base ho0) hb); have n3_ := Aside0.mk (Kd.R_lower (Kd.R_new' ho0 (Kd.R_lt (by (with_reducible repeat (first | apply Kd.R_alloc | apply Kd.R_drewN | apply Kd.R_drew)); exact HO851.out))) (below_size (by repeat (first | (with_reducible first | exact HB.out | apply below_alloc | apply pw_below_drewN | apply below_drew1) | exact HB.out)))); have n4_ := Aside0.mk (below_step (by repeat (first | (with_reducible first | exact HB.out | apply below_alloc | apply pw_below_drewN | apply below_drew1) | exact HB.out)) hb); clear HO843; clear HO847; clear HO851; clear HB; have HO843 := n0_; have HO847 := n1_; have HO851 := n2_; have HO855 := n3_; have HB := n4_; clear n0_ n1_ n2_ n3_ n4_; (try clear hb); (try clear hb2); (try clear hk); (try clear hi); (try clear ho0)))
 (try simp only [Act.put, List.setIfInBounds_toArray, List.set_cons_zero, List.set_cons_succ])
 go_cut [74] (fun v74 wc => ∃ (kq : Nat) (x74_6 : Bool), v74 = .bool x74_6 ∧ Aside0 (foghornlaw05_SliceRows.j0 kq t844 t848 t852 x74_6 = some r) ∧ Aside0 (kq ≤ k) ∧ Aside0 (Kd.R k80 80 wc w.heap.size (fun _ => True) v846 t844) ∧ Aside0 (Kd.R k83 83 wc w.heap.size (fun k_ => some k_ ≠ (v854 : Value).ownBlock) v850 t848) ∧ Aside0 (Kd.R k83 83 wc w.heap.size (fun k_ => some k_ ≠ (v850 : Value).ownBlock) v854 t852) ∧ Aside0 (Below w.heap.size w wc))
 case first =>
  have H := HC7.out
  clear HC7
  by_cases c13 : t849 = t845
  ·rw [if_pos c13] at H
   have c13b0 : (t849 == t845) = true := beq_iff_eq.mpr c13
   have c13b1 : (t849 != t845) = false := bne_eq_false_iff_eq.mpr c13
   clear c13
   (first | rw [c13b0] | (simp only [i64_w, i32_w]; rw [c13b0]) | skip)
   replace H := Option.bind_eq_some_iff.mp H
   obtain ⟨t856, A140, H⟩ := H
   replace H : (if t856 = true then ((foghornlaw05_rows.f k t852 t844).bind fun t857 => (if t857 = true then (if (wrap64 ((l1.length : Int) + 1)) = (t841.length : Int) + 1 then ((some (t841 ++ [(⟨(4651892959631900672, 0), false⟩ : S101)] : List (S101))).bind fun y858 => (if 0 ≤ (l1.length : Int) then (if (l1.length : Int) < (y858.length : Int) then (if (!((FloatKind.f64.format.order (((rd_T101 y858 (l1.length : Int)).f0).1) 4651892959631900672 == some .eq) && (FloatKind.f64.format.order (((rd_T101 y858 (l1.length : Int)).f0).2) 0 == some .eq))) = true then (foghornlaw05_SliceRows.j0 k t844 t848 t852 true) else ((foghornlaw05_samples.f k l1).bind fun t863 => ((foghornref02_Same.f k t841 t863).bind fun t866 => (foghornlaw05_SliceRows.j0 k t844 t848 t852 (!t866))))) else (none)) else (none))) else (none)) else (foghornlaw05_SliceRows.j0 k t844 t848 t852 true))) else (foghornlaw05_SliceRows.j0 k t844 t848 t852 true)) = some r := H
   have A14 := Aside0.mk A140
   clear A140
   by_cases c15 : t856 = true
   ·subst c15
    have H1 : ((foghornlaw05_rows.f k t852 t844).bind fun t857 => (if t857 = true then (if (wrap64 ((l1.length : Int) + 1)) = (t841.length : Int) + 1 then ((some (t841 ++ [(⟨(4651892959631900672, 0), false⟩ : S101)] : List (S101))).bind fun y858 => (if 0 ≤ (l1.length : Int) then (if (l1.length : Int) < (y858.length : Int) then (if (!((FloatKind.f64.format.order (((rd_T101 y858 (l1.length : Int)).f0).1) 4651892959631900672 == some .eq) && (FloatKind.f64.format.order (((rd_T101 y858 (l1.length : Int)).f0).2) 0 == some .eq))) = true then (foghornlaw05_SliceRows.j0 k t844 t848 t852 true) else ((foghornlaw05_samples.f k l1).bind fun t863 => ((foghornref02_Same.f k t841 t863).bind fun t866 => (foghornlaw05_SliceRows.j0 k t844 t848 t852 (!t866))))) else (none)) else (none))) else (none)) else (foghornlaw05_SliceRows.j0 k t844 t848 t852 true))) = some r := by rw [if_pos rfl] at H; exact H
    clear H
    have H := H1
    clear H1
    replace H := Option.bind_eq_some_iff.mp H
    obtain ⟨t857, A160, H⟩ := H
    replace H : (if t857 = true then (if (wrap64 ((l1.length : Int) + 1)) = (t841.length : Int) + 1 then ((some (t841 ++ [(⟨(4651892959631900672, 0), false⟩ : S101)] : List (S101))).bind fun y858 => (if 0 ≤ (l1.length : Int) then (if (l1.length : Int) < (y858.length : Int) then (if (!((FloatKind.f64.format.order (((rd_T101 y858 (l1.length : Int)).f0).1) 4651892959631900672 == some .eq) && (FloatKind.f64.format.order (((rd_T101 y858 (l1.length : Int)).f0).2) 0 == some .eq))) = true then (foghornlaw05_SliceRows.j0 k t844 t848 t852 true) else ((foghornlaw05_samples.f k l1).bind fun t863 => ((foghornref02_Same.f k t841 t863).bind fun t866 => (foghornlaw05_SliceRows.j0 k t844 t848 t852 (!t866))))) else (none)) else (none))) else (none)) else (foghornlaw05_SliceRows.j0 k t844 t848 t852 true)) = some r := H
    have A16 := Aside0.mk A160
    clear A160
    by_cases c17 : t857 = true
    ·subst c17
     have H1 : (if (wrap64 ((l1.length : Int) + 1)) = (t841.length : Int) + 1 then ((some (t841 ++ [(⟨(4651892959631900672, 0), false⟩ : S101)] : List (S101))).bind fun y858 => (if 0 ≤ (l1.length : Int) then (if (l1.length : Int) < (y858.length : Int) then (if (!((FloatKind.f64.format.order (((rd_T101 y858 (l1.length : Int)).f0).1) 4651892959631900672 == some .eq) && (FloatKind.f64.format.order (((rd_T101 y858 (l1.length : Int)).f0).2) 0 == some .eq))) = true then (foghornlaw05_SliceRows.j0 k t844 t848 t852 true) else ((foghornlaw05_samples.f k l1).bind fun t863 => ((foghornref02_Same.f k t841 t863).bind fun t866 => (foghornlaw05_SliceRows.j0 k t844 t848 t852 (!t866))))) else (none)) else (none))) else (none)) = some r := by rw [if_pos rfl] at H; exact H
     clear H
     have H := H1
     clear H1
     by_cases c18 : (wrap64 ((l1.length : Int) + 1)) = (t841.length : Int) + 1
     ·rw [if_pos c18] at H
      have c18b0 := eq_true c18
      have c18b1 : decide ((wrap64 ((l1.length : Int) + 1)) = (t841.length : Int) + 1) = true := decide_eq_true c18
      clear c18
      obtain ⟨y858, hy858⟩ : ∃ y_ : List (S101), y_ = (t841 ++ [(⟨(4651892959631900672, 0), false⟩ : S101)]) := ⟨_, rfl⟩
      replace H : (if 0 ≤ (l1.length : Int) then (if (l1.length : Int) < (y858.length : Int) then (if (!((FloatKind.f64.format.order (((rd_T101 y858 (l1.length : Int)).f0).1) 4651892959631900672 == some .eq) && (FloatKind.f64.format.order (((rd_T101 y858 (l1.length : Int)).f0).2) 0 == some .eq))) = true then (foghornlaw05_SliceRows.j0 k t844 t848 t852 true) else ((foghornlaw05_samples.f k l1).bind fun t863 => ((foghornref02_Same.f k t841 t863).bind fun t866 => (foghornlaw05_SliceRows.j0 k t844 t848 t852 (!t866))))) else (none)) else (none)) = some r := by first | (rw [hy858]; with_reducible exact H) | (have H2_ := (Option.bind_some _ _).symm.trans H; rw [hy858]; with_reducible exact H2_) | (have H2_ := (Option.bind_some _ _).symm.trans H; with_reducible exact H2_) | with_reducible exact H | (rw [hy858]; exact H) | exact H
      have Ny858 := Aside0.mk hy858
      clear hy858
      by_cases c19 : 0 ≤ (l1.length : Int)
      ·rw [if_pos c19] at H
       have c19b0 : decide (0 ≤ (l1.length : Int)) = true := decide_eq_true c19
       have c19b1 : decide (0 ≤ l1.length) = true := decide_eq_true (by omega)
       clear c19
       by_cases c20 : (l1.length : Int) < (y858.length : Int)
       ·rw [if_pos c20] at H
        have c20b0 : decide ((l1.length : Int) < (y858.length : Int)) = true := decide_eq_true c20
        have c20b1 : decide (l1.length < y858.length) = true := decide_eq_true (Int.ofNat_lt.mp c20)
        clear c20
        by_cases c21 : (!((FloatKind.f64.format.order (((rd_T101 y858 (l1.length : Int)).f0).1) 4651892959631900672 == some .eq) && (FloatKind.f64.format.order (((rd_T101 y858 (l1.length : Int)).f0).2) 0 == some .eq))) = true
        ·rw [if_pos c21] at H
         have c21b0 : (!((FloatKind.f64.format.order (((rd_T101 y858 (l1.length : Int)).f0).1) 4651892959631900672 == some .eq) && (FloatKind.f64.format.order (((rd_T101 y858 (l1.length : Int)).f0).2) 0 == some .eq))) = true := c21
         clear c21
         as_aux_lemma =>
          have H' := Aside0.mk H
          clear H
          obtain ⟨Ao22, co22, eo22⟩ := Kd.R_slice HO851.out
          subst eo22
          obtain ⟨Ao23, co23, eo23⟩ := Kd.R_slice HO847.out
          subst eo23
          go_wp2_with (first | (go_at_call 69; (with_reducible refine (foghornlaw05_rows.calls k _ _ t848 _ _ t844 true _ ?side1 ?side2 ?side3 ?side4 A14.out).mono ?_); (case side1 => repeat (first | exact (Kd.R_reads' HO851.out).2.2 | (with_reducible refine Kd.C_alloc ?_ _) | (with_reducible refine Kd.C_drewN ?_ _) | (with_reducible refine Kd.C_drew ?_))); (case side2 => exact (Kd.R_reads' HO851.out).2.1); (case side3 => repeat (first | exact (Kd.R_reads' HO847.out).2.2 | (with_reducible refine Kd.C_alloc ?_ _) | (with_reducible refine Kd.C_drewN ?_ _) | (with_reducible refine Kd.C_drew ?_))); (case side4 => exact (Kd.R_reads' HO847.out).2.1); rintro e w24 ⟨rfl, hb⟩; have n0_ := Aside0.mk (Kd.U_below (by (with_reducible repeat (first | apply Kd.U_alloc | apply Kd.U_drewN | apply Kd.U_drew)); exact HO843.out) hb); have n1_ := Aside0.mk (Kd.R_below (by (with_reducible repeat (first | apply Kd.R_alloc | apply Kd.R_drewN | apply Kd.R_drew)); exact HO847.out) hb); have n2_ := Aside0.mk (Kd.R_below (by (with_reducible repeat (first | apply Kd.R_alloc | apply Kd.R_drewN | apply Kd.R_drew)); exact HO851.out) hb); have n3_ := Aside0.mk (Kd.R_below (by (with_reducible repeat (first | apply Kd.R_alloc | apply Kd.R_drewN | apply Kd.R_drew)); exact HO855.out) hb); have n4_ := Aside0.mk (below_step (by repeat (first | (with_reducible first | exact HB.out | apply below_alloc | apply pw_below_drewN | apply below_drew1) | exact HB.out)) hb); clear HO843; clear HO847; clear HO851; clear HO855; clear HB; have HO843 := n0_; have HO847 := n1_; have HO851 := n2_; have HO855 := n3_; have HB := n4_; clear n0_ n1_ n2_ n3_ n4_; (try clear hb); (try clear hb2); (try clear hk); (try clear hi); obtain ⟨Ao25, co25, eo25⟩ := Kd.R_slice HO855.out; subst eo25) | (go_at_call 69; (with_reducible refine (foghornlaw05_rows.calls k _ _ t852 _ _ t844 true _ ?side1 ?side2 ?side3 ?side4 A16.out).mono ?_); (case side1 => repeat (first | exact (Kd.R_reads' HO855.out).2.2 | (with_reducible refine Kd.C_alloc ?_ _) | (with_reducible refine Kd.C_drewN ?_ _) | (with_reducible refine Kd.C_drew ?_))); (case side2 => exact (Kd.R_reads' HO855.out).2.1); (case side3 => repeat (first | exact (Kd.R_reads' HO847.out).2.2 | (with_reducible refine Kd.C_alloc ?_ _) | (with_reducible refine Kd.C_drewN ?_ _) | (with_reducible refine Kd.C_drew ?_))); (case side4 => exact (Kd.R_reads' HO847.out).2.1); rintro e w26 ⟨rfl, hb⟩; have n0_ := Aside0.mk (Kd.U_below (by (with_reducible repeat (first | apply Kd.U_alloc | apply Kd.U_drewN | apply Kd.U_drew)); exact HO843.out) hb); have n1_ := Aside0.mk (Kd.R_below (by (with_reducible repeat (first | apply Kd.R_alloc | apply Kd.R_drewN | apply Kd.R_drew)); exact HO847.out) hb); have n2_ := Aside0.mk (Kd.R_below (by (with_reducible repeat (first | apply Kd.R_alloc | apply Kd.R_drewN | apply Kd.R_drew)); exact HO851.out) hb); have n3_ := Aside0.mk (Kd.R_below (by (with_reducible repeat (first | apply Kd.R_alloc | apply Kd.R_drewN | apply Kd.R_drew)); exact HO855.out) hb); have n4_ := Aside0.mk (below_step (by repeat (first | (with_reducible first | exact HB.out | apply below_alloc | apply pw_below_drewN | apply below_drew1) | exact HB.out)) hb); clear HO843; clear HO847; clear HO851; clear HO855; clear HB; have HO843 := n0_; have HO847 := n1_; have HO851 := n2_; have HO855 := n3_; have HB := n4_; clear n0_ n1_ n2_ n3_ n4_; (try clear hb); (try clear hb2); (try clear hk); (try clear hi); obtain ⟨i027, hi027, _, hsz27, _⟩ := info_parts info101; have hq27 : ((wrap64 ((l1.length : Int) + 1)) : Int) = (t841.length : Int) + 1 := of_decide_eq_true (by first | (with_reducible assumption) | assumption); have hn27 := (Kd.U_full HO843.out).1; have hrd27 := Kd.R_reads' (Kd.U_full HO843.out).2; have hcut27 := cut_more (P := Try.prog) 95 101 .i64 Try.underlying95 hi027 Ao9 t841.length co9 (wrap64 ((l1.length : Int) + 1)) (by omega) (by have := hrd27.2.1; omega); have hy27 : y858.length = ((wrap64 ((l1.length : Int) + 1)) : Int).toNat := (by rw [Ny858.out, List.length_append]; simp only [List.length_cons, List.length_nil]; omega); have hr27 := hrd27.2.2; rw [← Ny858.out] at hr27; rw [← hy27] at hcut27; have HR861 := Aside0.mk hr27; have HC861 := Aside0.mk (show y858.length ≤ co9 from by have := hrd27.2.1; omega); have KY27 := Aside0.mk hy27; clear hr27 hrd27 hy27 hq27 hn27 hi027 hsz27; have p862 : 0 ≤ ((l1.length : Int) : Int) := of_decide_eq_true (by first | (with_reducible assumption) | assumption); have q862 : (l1.length : Int) < (y858.length : Int) := of_decide_eq_true (by first | (with_reducible assumption) | assumption); obtain ⟨ad862, e862, hx862_0, hx862_1⟩ := at_T101 (by repeat (first | (with_reducible exact HR861.out) | (with_reducible refine Kd.C_alloc ?_ _) | (with_reducible refine Kd.C_drewN ?_ _) | (with_reducible refine Kd.C_drew ?_) | exact HR861.out)) (l1.length : Int) p862 q862; cases e862; (try simp only [Go.IntWalk.toNatUp] at hx862_0); (try simp only [Go.IntWalk.toNatUp] at hx862_1); replace p862 := eq_true p862; replace q862 := eq_true q862))
          go_meet
          case rel => exact ⟨_, (true), (by first | rfl | (simp; done) | (simp [*]; done)), H', ⟨by first | omega | exact Nat.le_refl _⟩, ⟨by (with_reducible repeat (first | apply Kd.R_alloc | apply Kd.R_drewN | apply Kd.R_drew)); exact HO847.out⟩, ⟨by (with_reducible repeat (first | apply Kd.R_alloc | apply Kd.R_drewN | apply Kd.R_drew)); exact Kd.R_mono HO851.out (fun _ hk => hk.2)⟩, ⟨by (with_reducible repeat (first | apply Kd.R_alloc | apply Kd.R_drewN | apply Kd.R_drew)); exact Kd.R_mono HO855.out (fun _ hk => hk.2)⟩, ⟨by repeat (first | (with_reducible first | exact HB.out | apply below_alloc | apply pw_below_drewN | apply below_drew1) | exact HB.out)⟩⟩
        ·rw [if_neg c21] at H
         have c21b0 : (!((FloatKind.f64.format.order (((rd_T101 y858 (l1.length : Int)).f0).1) 4651892959631900672 == some .eq) && (FloatKind.f64.format.order (((rd_T101 y858 (l1.length : Int)).f0).2) 0 == some .eq))) = false := by simpa using c21
         clear c21
         replace H := Option.bind_eq_some_iff.mp H
         obtain ⟨t863, A280, H⟩ := H
         replace H : ((foghornref02_Same.f k t841 t863).bind fun t866 => (foghornlaw05_SliceRows.j0 k t844 t848 t852 (!t866))) = some r := H
         have A28 := Aside0.mk A280
         clear A280
         replace H := Option.bind_eq_some_iff.mp H
         obtain ⟨t866, A290, H⟩ := H
         replace H : (foghornlaw05_SliceRows.j0 k t844 t848 t852 (!t866)) = some r := H
         have A29 := Aside0.mk A290
         clear A290
         as_aux_lemma =>
          have H' := Aside0.mk H
          clear H
          obtain ⟨Ao30, co30, eo30⟩ := Kd.R_slice HO851.out
          subst eo30
          obtain ⟨Ao31, co31, eo31⟩ := Kd.R_slice HO847.out
          subst eo31
          go_wp2_with (first | (go_at_call 69; (with_reducible refine (foghornlaw05_rows.calls k _ _ t848 _ _ t844 true _ ?side1 ?side2 ?side3 ?side4 A14.out).mono ?_); (case side1 => repeat (first | exact (Kd.R_reads' HO851.out).2.2 | (with_reducible refine Kd.C_alloc ?_ _) | (with_reducible refine Kd.C_drewN ?_ _) | (with_reducible refine Kd.C_drew ?_))); (case side2 => exact (Kd.R_reads' HO851.out).2.1); (case side3 => repeat (first | exact (Kd.R_reads' HO847.out).2.2 | (with_reducible refine Kd.C_alloc ?_ _) | (with_reducible refine Kd.C_drewN ?_ _) | (with_reducible refine Kd.C_drew ?_))); (case side4 => exact (Kd.R_reads' HO847.out).2.1); rintro e w32 ⟨rfl, hb⟩; have n0_ := Aside0.mk (Kd.U_below (by (with_reducible repeat (first | apply Kd.U_alloc | apply Kd.U_drewN | apply Kd.U_drew)); exact HO843.out) hb); have n1_ := Aside0.mk (Kd.R_below (by (with_reducible repeat (first | apply Kd.R_alloc | apply Kd.R_drewN | apply Kd.R_drew)); exact HO847.out) hb); have n2_ := Aside0.mk (Kd.R_below (by (with_reducible repeat (first | apply Kd.R_alloc | apply Kd.R_drewN | apply Kd.R_drew)); exact HO851.out) hb); have n3_ := Aside0.mk (Kd.R_below (by (with_reducible repeat (first | apply Kd.R_alloc | apply Kd.R_drewN | apply Kd.R_drew)); exact HO855.out) hb); have n4_ := Aside0.mk (below_step (by repeat (first | (with_reducible first | exact HB.out | apply below_alloc | apply pw_below_drewN | apply below_drew1) | exact HB.out)) hb); clear HO843; clear HO847; clear HO851; clear HO855; clear HB; have HO843 := n0_; have HO847 := n1_; have HO851 := n2_; have HO855 := n3_; have HB := n4_; clear n0_ n1_ n2_ n3_ n4_; (try clear hb); (try clear hb2); (try clear hk); (try clear hi); obtain ⟨Ao33, co33, eo33⟩ := Kd.R_slice HO855.out; subst eo33) | (go_at_call 69; (with_reducible refine (foghornlaw05_rows.calls k _ _ t852 _ _ t844 true _ ?side1 ?side2 ?side3 ?side4 A16.out).mono ?_); (case side1 => repeat (first | exact (Kd.R_reads' HO855.out).2.2 | (with_reducible refine Kd.C_alloc ?_ _) | (with_reducible refine Kd.C_drewN ?_ _) | (with_reducible refine Kd.C_drew ?_))); (case side2 => exact (Kd.R_reads' HO855.out).2.1); (case side3 => repeat (first | exact (Kd.R_reads' HO847.out).2.2 | (with_reducible refine Kd.C_alloc ?_ _) | (with_reducible refine Kd.C_drewN ?_ _) | (with_reducible refine Kd.C_drew ?_))); (case side4 => exact (Kd.R_reads' HO847.out).2.1); rintro e w34 ⟨rfl, hb⟩; have n0_ := Aside0.mk (Kd.U_below (by (with_reducible repeat (first | apply Kd.U_alloc | apply Kd.U_drewN | apply Kd.U_drew)); exact HO843.out) hb); have n1_ := Aside0.mk (Kd.R_below (by (with_reducible repeat (first | apply Kd.R_alloc | apply Kd.R_drewN | apply Kd.R_drew)); exact HO847.out) hb); have n2_ := Aside0.mk (Kd.R_below (by (with_reducible repeat (first | apply Kd.R_alloc | apply Kd.R_drewN | apply Kd.R_drew)); exact HO851.out) hb); have n3_ := Aside0.mk (Kd.R_below (by (with_reducible repeat (first | apply Kd.R_alloc | apply Kd.R_drewN | apply Kd.R_drew)); exact HO855.out) hb); have n4_ := Aside0.mk (below_step (by repeat (first | (with_reducible first | exact HB.out | apply below_alloc | apply pw_below_drewN | apply below_drew1) | exact HB.out)) hb); clear HO843; clear HO847; clear HO851; clear HO855; clear HB; have HO843 := n0_; have HO847 := n1_; have HO851 := n2_; have HO855 := n3_; have HB := n4_; clear n0_ n1_ n2_ n3_ n4_; (try clear hb); (try clear hb2); (try clear hk); (try clear hi); obtain ⟨i035, hi035, _, hsz35, _⟩ := info_parts info101; have hq35 : ((wrap64 ((l1.length : Int) + 1)) : Int) = (t841.length : Int) + 1 := of_decide_eq_true (by first | (with_reducible assumption) | assumption); have hn35 := (Kd.U_full HO843.out).1; have hrd35 := Kd.R_reads' (Kd.U_full HO843.out).2; have hcut35 := cut_more (P := Try.prog) 95 101 .i64 Try.underlying95 hi035 Ao9 t841.length co9 (wrap64 ((l1.length : Int) + 1)) (by omega) (by have := hrd35.2.1; omega); have hy35 : y858.length = ((wrap64 ((l1.length : Int) + 1)) : Int).toNat := (by rw [Ny858.out, List.length_append]; simp only [List.length_cons, List.length_nil]; omega); have hr35 := hrd35.2.2; rw [← Ny858.out] at hr35; rw [← hy35] at hcut35; have HR861 := Aside0.mk hr35; have HC861 := Aside0.mk (show y858.length ≤ co9 from by have := hrd35.2.1; omega); have KY35 := Aside0.mk hy35; clear hr35 hrd35 hy35 hq35 hn35 hi035 hsz35; have p862 : 0 ≤ ((l1.length : Int) : Int) := of_decide_eq_true (by first | (with_reducible assumption) | assumption); have q862 : (l1.length : Int) < (y858.length : Int) := of_decide_eq_true (by first | (with_reducible assumption) | assumption); obtain ⟨ad862, e862, hx862_0, hx862_1⟩ := at_T101 (by repeat (first | (with_reducible exact HR861.out) | (with_reducible refine Kd.C_alloc ?_ _) | (with_reducible refine Kd.C_drewN ?_ _) | (with_reducible refine Kd.C_drew ?_) | exact HR861.out)) (l1.length : Int) p862 q862; cases e862; (try simp only [Go.IntWalk.toNatUp] at hx862_0); (try simp only [Go.IntWalk.toNatUp] at hx862_1); replace p862 := eq_true p862; replace q862 := eq_true q862) | (go_at_call 66; (with_reducible refine (foghornlaw05_samples.calls k _ _ l1 t863 _ ?side1 ?side2 A28.out).mono ?_); (case side1 => repeat (first | exact (Kd.C_below HR1.out HB.out) | (with_reducible refine Kd.C_alloc ?_ _) | (with_reducible refine Kd.C_drewN ?_ _) | (with_reducible refine Kd.C_drew ?_))); (case side2 => exact HC1.out); rintro e w36 ⟨v864, rfl, ho0, hb⟩; have n0_ := Aside0.mk (Kd.U_elder' (by (with_reducible repeat (first | apply Kd.U_alloc | apply Kd.U_drewN | apply Kd.U_drew)); exact HO843.out) (Kd.U_base ho0) hb); have n1_ := Aside0.mk (Kd.R_below (by (with_reducible repeat (first | apply Kd.R_alloc | apply Kd.R_drewN | apply Kd.R_drew)); exact HO847.out) hb); have n2_ := Aside0.mk (Kd.R_below (by (with_reducible repeat (first | apply Kd.R_alloc | apply Kd.R_drewN | apply Kd.R_drew)); exact HO851.out) hb); have n3_ := Aside0.mk (Kd.R_below (by (with_reducible repeat (first | apply Kd.R_alloc | apply Kd.R_drewN | apply Kd.R_drew)); exact HO855.out) hb); have n4_ := Aside0.mk (Kd.U_lower (Kd.U_new' ho0 (Kd.U_lt (by (with_reducible repeat (first | apply Kd.U_alloc | apply Kd.U_drewN | apply Kd.U_drew)); exact HO843.out))) (below_size (by repeat (first | (with_reducible first | exact HB.out | apply below_alloc | apply pw_below_drewN | apply below_drew1) | exact HB.out)))); have n5_ := Aside0.mk (Kd.C_below (by repeat (first | (with_reducible exact HR861.out) | (with_reducible refine Kd.C_alloc ?_ _) | (with_reducible refine Kd.C_drewN ?_ _) | (with_reducible refine Kd.C_drew ?_) | exact HR861.out)) hb); have n6_ := Aside0.mk (below_step (by repeat (first | (with_reducible first | exact HB.out | apply below_alloc | apply pw_below_drewN | apply below_drew1) | exact HB.out)) hb); clear HO843; clear HO847; clear HO851; clear HO855; clear HR861; clear HB; have HO843 := n0_; have HO847 := n1_; have HO851 := n2_; have HO855 := n3_; have HO865 := n4_; have HR861 := n5_; have HB := n6_; clear n0_ n1_ n2_ n3_ n4_ n5_ n6_; (try clear hb); (try clear hb2); (try clear hk); (try clear hi); (try clear ho0); obtain ⟨Ao37, co37, eo37⟩ := Kd.U_slice HO865.out; subst eo37) | (go_at_call 70; (with_reducible refine (foghornref02_Same.calls k _ _ t841 _ _ t863 t866 _ ?side1 ?side2 ?side3 ?side4 A29.out).mono ?_); (case side1 => repeat (first | exact (Kd.U_reads' HO843.out).2.2 | (with_reducible refine Kd.C_alloc ?_ _) | (with_reducible refine Kd.C_drewN ?_ _) | (with_reducible refine Kd.C_drew ?_))); (case side2 => exact (Kd.U_reads' HO843.out).2.1); (case side3 => repeat (first | exact (Kd.U_reads' HO865.out).2.2 | (with_reducible refine Kd.C_alloc ?_ _) | (with_reducible refine Kd.C_drewN ?_ _) | (with_reducible refine Kd.C_drew ?_))); (case side4 => exact (Kd.U_reads' HO865.out).2.1); rintro e w' ⟨rfl, ⟨nd, rfl⟩⟩))
          go_meet
          case rel => exact ⟨_, (!t866), (by first | rfl | (simp; done) | (simp [*]; done)), H', ⟨by first | omega | exact Nat.le_refl _⟩, ⟨by (with_reducible repeat (first | apply Kd.R_alloc | apply Kd.R_drewN | apply Kd.R_drew)); exact HO847.out⟩, ⟨by (with_reducible repeat (first | apply Kd.R_alloc | apply Kd.R_drewN | apply Kd.R_drew)); exact Kd.R_mono HO851.out (fun _ hk => hk.2)⟩, ⟨by (with_reducible repeat (first | apply Kd.R_alloc | apply Kd.R_drewN | apply Kd.R_drew)); exact Kd.R_mono HO855.out (fun _ hk => hk.2)⟩, ⟨by repeat (first | (with_reducible first | exact HB.out | apply below_alloc | apply pw_below_drewN | apply below_drew1) | exact HB.out)⟩⟩
       ·rw [if_neg c20] at H
        exact absurd H (by simp)
      ·rw [if_neg c19] at H
       exact absurd H (by simp)
     ·rw [if_neg c18] at H
      exact absurd H (by simp)
    ·replace c17 := Bool.eq_false_iff.mpr c17
     subst c17
     have H1 : (foghornlaw05_SliceRows.j0 k t844 t848 t852 true) = some r := by rw [if_neg (show ¬ (false = true) by decide)] at H; exact H
     clear H
     have H := H1
     clear H1
     as_aux_lemma =>
      have H' := Aside0.mk H
      clear H
      obtain ⟨Ao38, co38, eo38⟩ := Kd.R_slice HO851.out
      subst eo38
      obtain ⟨Ao39, co39, eo39⟩ := Kd.R_slice HO847.out
      subst eo39
      go_wp2_with (first | (go_at_call 69; (with_reducible refine (foghornlaw05_rows.calls k _ _ t848 _ _ t844 true _ ?side1 ?side2 ?side3 ?side4 A14.out).mono ?_); (case side1 => repeat (first | exact (Kd.R_reads' HO851.out).2.2 | (with_reducible refine Kd.C_alloc ?_ _) | (with_reducible refine Kd.C_drewN ?_ _) | (with_reducible refine Kd.C_drew ?_))); (case side2 => exact (Kd.R_reads' HO851.out).2.1); (case side3 => repeat (first | exact (Kd.R_reads' HO847.out).2.2 | (with_reducible refine Kd.C_alloc ?_ _) | (with_reducible refine Kd.C_drewN ?_ _) | (with_reducible refine Kd.C_drew ?_))); (case side4 => exact (Kd.R_reads' HO847.out).2.1); rintro e w40 ⟨rfl, hb⟩; have n0_ := Aside0.mk (Kd.U_below (by (with_reducible repeat (first | apply Kd.U_alloc | apply Kd.U_drewN | apply Kd.U_drew)); exact HO843.out) hb); have n1_ := Aside0.mk (Kd.R_below (by (with_reducible repeat (first | apply Kd.R_alloc | apply Kd.R_drewN | apply Kd.R_drew)); exact HO847.out) hb); have n2_ := Aside0.mk (Kd.R_below (by (with_reducible repeat (first | apply Kd.R_alloc | apply Kd.R_drewN | apply Kd.R_drew)); exact HO851.out) hb); have n3_ := Aside0.mk (Kd.R_below (by (with_reducible repeat (first | apply Kd.R_alloc | apply Kd.R_drewN | apply Kd.R_drew)); exact HO855.out) hb); have n4_ := Aside0.mk (below_step (by repeat (first | (with_reducible first | exact HB.out | apply below_alloc | apply pw_below_drewN | apply below_drew1) | exact HB.out)) hb); clear HO843; clear HO847; clear HO851; clear HO855; clear HB; have HO843 := n0_; have HO847 := n1_; have HO851 := n2_; have HO855 := n3_; have HB := n4_; clear n0_ n1_ n2_ n3_ n4_; (try clear hb); (try clear hb2); (try clear hk); (try clear hi); obtain ⟨Ao41, co41, eo41⟩ := Kd.R_slice HO855.out; subst eo41) | (go_at_call 69; (with_reducible refine (foghornlaw05_rows.calls k _ _ t852 _ _ t844 false _ ?side1 ?side2 ?side3 ?side4 A16.out).mono ?_); (case side1 => repeat (first | exact (Kd.R_reads' HO855.out).2.2 | (with_reducible refine Kd.C_alloc ?_ _) | (with_reducible refine Kd.C_drewN ?_ _) | (with_reducible refine Kd.C_drew ?_))); (case side2 => exact (Kd.R_reads' HO855.out).2.1); (case side3 => repeat (first | exact (Kd.R_reads' HO847.out).2.2 | (with_reducible refine Kd.C_alloc ?_ _) | (with_reducible refine Kd.C_drewN ?_ _) | (with_reducible refine Kd.C_drew ?_))); (case side4 => exact (Kd.R_reads' HO847.out).2.1); rintro e w42 ⟨rfl, hb⟩; have n0_ := Aside0.mk (Kd.U_below (by (with_reducible repeat (first | apply Kd.U_alloc | apply Kd.U_drewN | apply Kd.U_drew)); exact HO843.out) hb); have n1_ := Aside0.mk (Kd.R_below (by (with_reducible repeat (first | apply Kd.R_alloc | apply Kd.R_drewN | apply Kd.R_drew)); exact HO847.out) hb); have n2_ := Aside0.mk (Kd.R_below (by (with_reducible repeat (first | apply Kd.R_alloc | apply Kd.R_drewN | apply Kd.R_drew)); exact HO851.out) hb); have n3_ := Aside0.mk (Kd.R_below (by (with_reducible repeat (first | apply Kd.R_alloc | apply Kd.R_drewN | apply Kd.R_drew)); exact HO855.out) hb); have n4_ := Aside0.mk (below_step (by repeat (first | (with_reducible first | exact HB.out | apply below_alloc | apply pw_below_drewN | apply below_drew1) | exact HB.out)) hb); clear HO843; clear HO847; clear HO851; clear HO855; clear HB; have HO843 := n0_; have HO847 := n1_; have HO851 := n2_; have HO855 := n3_; have HB := n4_; clear n0_ n1_ n2_ n3_ n4_; (try clear hb); (try clear hb2); (try clear hk); (try clear hi)))
      go_meet
      case rel => exact ⟨_, (true), (by first | rfl | (simp; done) | (simp [*]; done)), H', ⟨by first | omega | exact Nat.le_refl _⟩, ⟨by (with_reducible repeat (first | apply Kd.R_alloc | apply Kd.R_drewN | apply Kd.R_drew)); exact HO847.out⟩, ⟨by (with_reducible repeat (first | apply Kd.R_alloc | apply Kd.R_drewN | apply Kd.R_drew)); exact Kd.R_mono HO851.out (fun _ hk => hk.2)⟩, ⟨by (with_reducible repeat (first | apply Kd.R_alloc | apply Kd.R_drewN | apply Kd.R_drew)); exact Kd.R_mono HO855.out (fun _ hk => hk.2)⟩, ⟨by repeat (first | (with_reducible first | exact HB.out | apply below_alloc | apply pw_below_drewN | apply below_drew1) | exact HB.out)⟩⟩
   ·replace c15 := Bool.eq_false_iff.mpr c15
    subst c15
    have H1 : (foghornlaw05_SliceRows.j0 k t844 t848 t852 true) = some r := by rw [if_neg (show ¬ (false = true) by decide)] at H; exact H
    clear H
    have H := H1
    clear H1
    as_aux_lemma =>
     have H' := Aside0.mk H
     clear H
     obtain ⟨Ao43, co43, eo43⟩ := Kd.R_slice HO851.out
     subst eo43
     obtain ⟨Ao44, co44, eo44⟩ := Kd.R_slice HO847.out
     subst eo44
     go_wp2_with (first | (go_at_call 69; (with_reducible refine (foghornlaw05_rows.calls k _ _ t848 _ _ t844 false _ ?side1 ?side2 ?side3 ?side4 A14.out).mono ?_); (case side1 => repeat (first | exact (Kd.R_reads' HO851.out).2.2 | (with_reducible refine Kd.C_alloc ?_ _) | (with_reducible refine Kd.C_drewN ?_ _) | (with_reducible refine Kd.C_drew ?_))); (case side2 => exact (Kd.R_reads' HO851.out).2.1); (case side3 => repeat (first | exact (Kd.R_reads' HO847.out).2.2 | (with_reducible refine Kd.C_alloc ?_ _) | (with_reducible refine Kd.C_drewN ?_ _) | (with_reducible refine Kd.C_drew ?_))); (case side4 => exact (Kd.R_reads' HO847.out).2.1); rintro e w45 ⟨rfl, hb⟩; have n0_ := Aside0.mk (Kd.U_below (by (with_reducible repeat (first | apply Kd.U_alloc | apply Kd.U_drewN | apply Kd.U_drew)); exact HO843.out) hb); have n1_ := Aside0.mk (Kd.R_below (by (with_reducible repeat (first | apply Kd.R_alloc | apply Kd.R_drewN | apply Kd.R_drew)); exact HO847.out) hb); have n2_ := Aside0.mk (Kd.R_below (by (with_reducible repeat (first | apply Kd.R_alloc | apply Kd.R_drewN | apply Kd.R_drew)); exact HO851.out) hb); have n3_ := Aside0.mk (Kd.R_below (by (with_reducible repeat (first | apply Kd.R_alloc | apply Kd.R_drewN | apply Kd.R_drew)); exact HO855.out) hb); have n4_ := Aside0.mk (below_step (by repeat (first | (with_reducible first | exact HB.out | apply below_alloc | apply pw_below_drewN | apply below_drew1) | exact HB.out)) hb); clear HO843; clear HO847; clear HO851; clear HO855; clear HB; have HO843 := n0_; have HO847 := n1_; have HO851 := n2_; have HO855 := n3_; have HB := n4_; clear n0_ n1_ n2_ n3_ n4_; (try clear hb); (try clear hb2); (try clear hk); (try clear hi)))
     go_meet
     case rel => exact ⟨_, (true), (by first | rfl | (simp; done) | (simp [*]; done)), H', ⟨by first | omega | exact Nat.le_refl _⟩, ⟨by (with_reducible repeat (first | apply Kd.R_alloc | apply Kd.R_drewN | apply Kd.R_drew)); exact HO847.out⟩, ⟨by (with_reducible repeat (first | apply Kd.R_alloc | apply Kd.R_drewN | apply Kd.R_drew)); exact Kd.R_mono HO851.out (fun _ hk => hk.2)⟩, ⟨by (with_reducible repeat (first | apply Kd.R_alloc | apply Kd.R_drewN | apply Kd.R_drew)); exact Kd.R_mono HO855.out (fun _ hk => hk.2)⟩, ⟨by repeat (first | (with_reducible first | exact HB.out | apply below_alloc | apply pw_below_drewN | apply below_drew1) | exact HB.out)⟩⟩
  ·rw [if_neg c13] at H
   have c13b0 : (t849 == t845) = false := beq_eq_false_iff_ne.mpr c13
   have c13b1 : (t849 != t845) = true := bne_iff_ne.mpr c13
   (first | rw [c13b0] | (simp only [i64_w, i32_w]; rw [c13b0]) | skip)
   as_aux_lemma =>
    have H' := Aside0.mk H
    clear H
    go_wp2
    go_meet
    case rel => exact ⟨_, (true), (by first | rfl | (simp; done) | (simp [*]; done)), H', ⟨by first | omega | exact Nat.le_refl _⟩, ⟨by (with_reducible repeat (first | apply Kd.R_alloc | apply Kd.R_drewN | apply Kd.R_drew)); exact HO847.out⟩, ⟨by (with_reducible repeat (first | apply Kd.R_alloc | apply Kd.R_drewN | apply Kd.R_drew)); exact Kd.R_mono HO851.out (fun _ hk => hk.2)⟩, ⟨by (with_reducible repeat (first | apply Kd.R_alloc | apply Kd.R_drewN | apply Kd.R_drew)); exact Kd.R_mono HO855.out (fun _ hk => hk.2)⟩, ⟨by repeat (first | (with_reducible first | exact HB.out | apply below_alloc | apply pw_below_drewN | apply below_drew1) | exact HB.out)⟩⟩
 case rest =>
  clear HC7
  try clear c1
  try clear c2
  try clear p2
  try clear q2
  try clear q3
  try clear c6
  try clear p6
  try clear p8
  try clear q8
  try clear hx8
  try clear c13
  try clear c13b0
  try clear c13b1
  try clear c15
  try clear c17
  try clear c18
  try clear c18b0
  try clear c18b1
  try clear c19
  try clear c19b0
  try clear c19b1
  try clear c20
  try clear c20b0
  try clear c20b1
  try clear c21
  try clear c21b0
  try clear q27
  try clear q35
  try clear hx862_0
  try clear hx862_1
  try clear p862
  try clear q862
  obtain ⟨kq, x74_6, rfl, HA, HJ6, HO_7, HO_9, HO_11, HB⟩ := hcut
  cases kq with
  | zero => exact absurd HA.out (by simp [foghornlaw05_SliceRows.j0])
  | succ kj6 =>
   have H := HA.out
   clear HA
   simp only [foghornlaw05_SliceRows.j0] at H
   by_cases c46 : x74_6 = true
   ·subst c46
    have H1 : (some false) = some r := by rw [if_pos rfl] at H; exact H
    clear H
    have H := H1
    clear H1
    as_aux_lemma =>
     exact absurd ((Option.some.inj H).trans HQ_.out) (by decide)
   ·replace c46 := Bool.eq_false_iff.mpr c46
    subst c46
    have H1 : ((slice_Lost.f kj6 t852).bind fun t867 => ((slice_Lost.f kj6 t852).bind fun t870 => (foghornlaw05_SliceRows.l0 kj6 t844 t848 t852 t867 t870 0 0))) = some r := by rw [if_neg (show ¬ (false = true) by decide)] at H; exact H
    clear H
    have H := H1
    clear H1
    replace H := Option.bind_eq_some_iff.mp H
    obtain ⟨t867, A470, H⟩ := H
    replace H : ((slice_Lost.f kj6 t852).bind fun t870 => (foghornlaw05_SliceRows.l0 kj6 t844 t848 t852 t867 t870 0 0)) = some r := H
    have A47 := Aside0.mk A470
    clear A470
    replace H := Option.bind_eq_some_iff.mp H
    obtain ⟨t870, A480, H⟩ := H
    replace H : (foghornlaw05_SliceRows.l0 kj6 t844 t848 t852 t867 t870 0 0) = some r := H
    have A48 := Aside0.mk A480
    clear A480
    have H' := Aside0.mk H
    clear H
    obtain ⟨Ao49, co49, eo49⟩ := Kd.R_slice HO_11.out
    subst eo49
    go_wp2_with (first | ((with_reducible refine gate_callee (f := 71) rfl ?_); refine goesL_ (some 76) rfl rfl Try.func71 (by kernel_rfl) rfl #[.slice Ao49 t852.length co49] rfl (by (try simp only [List.map_toArray, List.map_cons, List.map_nil]); first | done | rfl | (simp only [List.length_drop, List.length_take]; rfl)) ?_; (with_reducible refine (slice_Lost.calls kj6 _ _ t852 t867 _ ?side1 ?side2 A47.out).mono ?_); (case side1 => repeat (first | exact (Kd.R_reads' HO_11.out).2.2 | (with_reducible refine Kd.C_alloc ?_ _) | (with_reducible refine Kd.C_drewN ?_ _) | (with_reducible refine Kd.C_drew ?_))); (case side2 => exact (Kd.R_reads' HO_11.out).2.1); rintro e w50 ⟨v868, rfl, ho0, hb⟩; refine ⟨_, rfl, ?_⟩; have n0_ := Aside0.mk (Kd.R_below (by (with_reducible repeat (first | apply Kd.R_alloc | apply Kd.R_drewN | apply Kd.R_drew)); exact HO_7.out) hb); have n1_ := Aside0.mk (Kd.R_below (by (with_reducible repeat (first | apply Kd.R_alloc | apply Kd.R_drewN | apply Kd.R_drew)); exact HO_9.out) hb); have n2_ := Aside0.mk (Kd.R_below (by (with_reducible repeat (first | apply Kd.R_alloc | apply Kd.R_drewN | apply Kd.R_drew)); exact HO_11.out) hb); have n3_ := Aside0.mk (Kd.R_lower ho0 (below_size (by repeat (first | (with_reducible first | exact HB.out | apply below_alloc | apply pw_below_drewN | apply below_drew1) | exact HB.out)))); have n4_ := Aside0.mk (below_step (by repeat (first | (with_reducible first | exact HB.out | apply below_alloc | apply pw_below_drewN | apply below_drew1) | exact HB.out)) hb); clear HO_7; clear HO_9; clear HO_11; clear HB; have HO_7 := n0_; have HO_9 := n1_; have HO_11 := n2_; have HO869 := n3_; have HB := n4_; clear n0_ n1_ n2_ n3_ n4_; (try clear hb); (try clear hb2); (try clear hk); (try clear hi); (try clear ho0)) | ((with_reducible refine gate_callee (f := 71) rfl ?_); refine goesL_ (some 78) rfl rfl Try.func71 (by kernel_rfl) rfl #[.slice Ao49 t852.length co49] rfl (by (try simp only [List.map_toArray, List.map_cons, List.map_nil]); first | done | rfl | (simp only [List.length_drop, List.length_take]; rfl)) ?_; (with_reducible refine (slice_Lost.calls kj6 _ _ t852 t870 _ ?side1 ?side2 A48.out).mono ?_); (case side1 => repeat (first | exact (Kd.R_reads' HO_11.out).2.2 | (with_reducible refine Kd.C_alloc ?_ _) | (with_reducible refine Kd.C_drewN ?_ _) | (with_reducible refine Kd.C_drew ?_))); (case side2 => exact (Kd.R_reads' HO_11.out).2.1); rintro e w51 ⟨v871, rfl, ho0, hb⟩; refine ⟨_, rfl, ?_⟩; have n0_ := Aside0.mk (Kd.R_below (by (with_reducible repeat (first | apply Kd.R_alloc | apply Kd.R_drewN | apply Kd.R_drew)); exact HO_7.out) hb); have n1_ := Aside0.mk (Kd.R_below (by (with_reducible repeat (first | apply Kd.R_alloc | apply Kd.R_drewN | apply Kd.R_drew)); exact HO_9.out) hb); have n2_ := Aside0.mk (Kd.R_below (by (with_reducible repeat (first | apply Kd.R_alloc | apply Kd.R_drewN | apply Kd.R_drew)); exact HO_11.out) hb); have n3_ := Aside0.mk (Kd.R_elder' (by (with_reducible repeat (first | apply Kd.R_alloc | apply Kd.R_drewN | apply Kd.R_drew)); exact HO869.out) (Kd.R_base ho0) hb); have n4_ := Aside0.mk (Kd.R_lower (Kd.R_new' ho0 (Kd.R_lt (by (with_reducible repeat (first | apply Kd.R_alloc | apply Kd.R_drewN | apply Kd.R_drew)); exact HO869.out))) (below_size (by repeat (first | (with_reducible first | exact HB.out | apply below_alloc | apply pw_below_drewN | apply below_drew1) | exact HB.out)))); have n5_ := Aside0.mk (below_step (by repeat (first | (with_reducible first | exact HB.out | apply below_alloc | apply pw_below_drewN | apply below_drew1) | exact HB.out)) hb); clear HO_7; clear HO_9; clear HO_11; clear HO869; clear HB; have HO_7 := n0_; have HO_9 := n1_; have HO_11 := n2_; have HO869 := n3_; have HO872 := n4_; have HB := n5_; clear n0_ n1_ n2_ n3_ n4_ n5_; (try clear hb); (try clear hb2); (try clear hk); (try clear hi); (try clear ho0)))
    go_loopg [15, 16] kj6 (fun kq v15 v16 w' => ∃ (x15_2 : Int) (x16_2 : Int), v15 = .int .i64 x15_2 ∧ v16 = .int .i64 x16_2 ∧ Aside0 (foghornlaw05_SliceRows.l0 kq t844 t848 t852 t867 t870 x15_2 x16_2 = some r) ∧ Aside0 (kq ≤ kj6) ∧ Aside0 (Kd.R k80 80 w' w.heap.size (fun _ => True) v846 t844) ∧ Aside0 (Kd.R k83 83 w' w.heap.size (fun k_ => some k_ ≠ ((.slice Ao49 t852.length co49) : Value).ownBlock) v850 t848) ∧ Aside0 (Kd.R k83 83 w' w.heap.size (fun k_ => some k_ ≠ (v850 : Value).ownBlock) (.slice Ao49 t852.length co49) t852) ∧ Aside0 (Kd.R (Kd.int .i64) 3 w' w.heap.size (fun k_ => some k_ ≠ (v871 : Value).ownBlock) v868 t867) ∧ Aside0 (Kd.R (Kd.int .i64) 3 w' w.heap.size (fun k_ => some k_ ≠ (v868 : Value).ownBlock) v871 t870) ∧ Aside0 (Below w.heap.size w w'))
    case atStart => exact ⟨(0), (0), (by first | rfl | (simp; done) | (simp [*]; done)), (by first | rfl | (simp; done) | (simp [*]; done)), H', ⟨Nat.le_refl _⟩, ⟨by (with_reducible repeat (first | apply Kd.R_alloc | apply Kd.R_drewN | apply Kd.R_drew)); exact HO_7.out⟩, ⟨by (with_reducible repeat (first | apply Kd.R_alloc | apply Kd.R_drewN | apply Kd.R_drew)); exact HO_9.out⟩, ⟨by (with_reducible repeat (first | apply Kd.R_alloc | apply Kd.R_drewN | apply Kd.R_drew)); exact HO_11.out⟩, ⟨by (with_reducible repeat (first | apply Kd.R_alloc | apply Kd.R_drewN | apply Kd.R_drew)); exact Kd.R_mono HO869.out (fun _ hk => hk.2)⟩, ⟨by (with_reducible repeat (first | apply Kd.R_alloc | apply Kd.R_drewN | apply Kd.R_drew)); exact Kd.R_mono HO872.out (fun _ hk => hk.2)⟩, ⟨by repeat (first | (with_reducible first | exact HB.out | apply below_alloc | apply pw_below_drewN | apply below_drew1) | exact HB.out)⟩⟩
    case round =>
     clear H'
     try clear c1
     try clear c2
     try clear p2
     try clear q2
     try clear q3
     try clear c4
     try clear c6
     try clear p6
     try clear c7
     try clear p8
     try clear q8
     try clear hx8
     try clear c13
     try clear c13b0
     try clear c13b1
     try clear c15
     try clear c17
     try clear c18
     try clear c18b0
     try clear c18b1
     try clear c19
     try clear c19b0
     try clear c19b1
     try clear c20
     try clear c20b0
     try clear c20b1
     try clear c21
     try clear c21b0
     try clear q27
     try clear q35
     try clear c46
     try clear hx862_0
     try clear hx862_1
     try clear p2
     try clear p6
     try clear p8
     try clear p862
     try clear q2
     try clear q27
     try clear q3
     try clear q35
     try clear q8
     try clear q862
     obtain ⟨x15_2, x16_2, rfl, rfl, HA, HK2, HO_7, HO_9, HO_11, HO_13, HO_14, HB⟩ := hrel
     cases gk with
     | zero => exact absurd HA.out (by simp [foghornlaw05_SliceRows.l0])
     | succ k2 =>
      have H := HA.out
      clear HA
      simp only [foghornlaw05_SliceRows.l0] at H
      by_cases c52 : x16_2 < (t844.length : Int)
      ·rw [if_pos c52] at H
       have c52b0 : decide (x16_2 < (t844.length : Int)) = true := decide_eq_true c52
       clear c52
       by_cases c53 : 0 ≤ x16_2
       ·rw [if_pos c53] at H
        have c53b0 : decide (0 ≤ x16_2) = true := decide_eq_true c53
        clear c53
        obtain ⟨bq54, hbq54⟩ : ∃ b_ : Bool, b_ = ((rd_T80 t844 x16_2).f2) := ⟨_, rfl⟩
        replace H : (if bq54 = true then (if x15_2 ≥ (t867.length : Int) then (some false) else (if 0 ≤ x15_2 then (if x15_2 < (t867.length : Int) then (if (rd t867 x15_2) = x16_2 then (if x15_2 ≥ (t870.length : Int) then (some false) else (if x15_2 < (t870.length : Int) then (if (rd t870 x15_2) = x16_2 then (foghornlaw05_SliceRows.l0 k2 t844 t848 t852 t867 t870 (wrap64 (x15_2 + 1)) (wrap64 (x16_2 + 1))) else (some false)) else (none))) else (some false)) else (none)) else (none))) else (foghornlaw05_SliceRows.l0 k2 t844 t848 t852 t867 t870 x15_2 (wrap64 (x16_2 + 1)))) = some r := by rw [← hbq54] at H; exact H
        have Nbq54 := Aside0.mk hbq54
        clear hbq54
        by_cases c55 : bq54 = true
        ·subst c55
         have H1 : (if x15_2 ≥ (t867.length : Int) then (some false) else (if 0 ≤ x15_2 then (if x15_2 < (t867.length : Int) then (if (rd t867 x15_2) = x16_2 then (if x15_2 ≥ (t870.length : Int) then (some false) else (if x15_2 < (t870.length : Int) then (if (rd t870 x15_2) = x16_2 then (foghornlaw05_SliceRows.l0 k2 t844 t848 t852 t867 t870 (wrap64 (x15_2 + 1)) (wrap64 (x16_2 + 1))) else (some false)) else (none))) else (some false)) else (none)) else (none))) = some r := by rw [if_pos rfl] at H; exact H
         clear H
         have H := H1
         clear H1
         by_cases c56 : x15_2 ≥ (t867.length : Int)
         ·rw [if_pos c56] at H
          have c56b0 : decide ((t867.length : Int) ≤ x15_2) = true := decide_eq_true c56
          clear c56
          as_aux_lemma =>
           exact absurd ((Option.some.inj H).trans HQ_.out) (by decide)
         ·rw [if_neg c56] at H
          have c56b0 : decide ((t867.length : Int) ≤ x15_2) = false := decide_eq_false c56
          clear c56
          by_cases c57 : 0 ≤ x15_2
          ·rw [if_pos c57] at H
           have c57b0 : decide (0 ≤ x15_2) = true := decide_eq_true c57
           clear c57
           by_cases c58 : x15_2 < (t867.length : Int)
           ·rw [if_pos c58] at H
            have c58b0 : decide (x15_2 < (t867.length : Int)) = true := decide_eq_true c58
            clear c58
            by_cases c59 : (rd t867 x15_2) = x16_2
            ·rw [if_pos c59] at H
             have c59b0 : ((rd t867 x15_2) == x16_2) = true := beq_iff_eq.mpr c59
             have c59b1 : ((rd t867 x15_2) != x16_2) = false := bne_eq_false_iff_eq.mpr c59
             clear c59
             by_cases c60 : x15_2 ≥ (t870.length : Int)
             ·rw [if_pos c60] at H
              have c60b0 : decide ((t870.length : Int) ≤ x15_2) = true := decide_eq_true c60
              clear c60
              as_aux_lemma =>
               exact absurd ((Option.some.inj H).trans HQ_.out) (by decide)
             ·rw [if_neg c60] at H
              have c60b0 : decide ((t870.length : Int) ≤ x15_2) = false := decide_eq_false c60
              clear c60
              by_cases c61 : x15_2 < (t870.length : Int)
              ·rw [if_pos c61] at H
               have c61b0 : decide (x15_2 < (t870.length : Int)) = true := decide_eq_true c61
               clear c61
               by_cases c62 : (rd t870 x15_2) = x16_2
               ·rw [if_pos c62] at H
                have c62b0 : ((rd t870 x15_2) == x16_2) = true := beq_iff_eq.mpr c62
                have c62b1 : ((rd t870 x15_2) != x16_2) = false := bne_eq_false_iff_eq.mpr c62
                clear c62
                as_aux_lemma =>
                 have H' := Aside0.mk H
                 clear H
                 obtain ⟨Ao63, co63, eo63⟩ := Kd.R_slice HO_7.out
                 subst eo63
                 have p873 : 0 ≤ (x16_2 : Int) := of_decide_eq_true (by first | (with_reducible assumption) | assumption)
                 have q873 : x16_2 < (t844.length : Int) := of_decide_eq_true (by first | (with_reducible assumption) | assumption)
                 obtain ⟨ad873, e873, hx873_0, hx873_1, hx873_2⟩ := at_T80 (Kd.R_reads' HO_7.out).2.2 x16_2 p873 q873
                 (try rw [← Nbq54.out] at hx873_2)
                 cases e873
                 replace p873 := eq_true p873
                 replace q873 := eq_true q873
                 obtain ⟨Ao64, co64, eo64⟩ := Kd.R_slice HO_13.out
                 subst eo64
                 have p874 : 0 ≤ (x15_2 : Int) := of_decide_eq_true (by first | (with_reducible assumption) | assumption)
                 have q874 : x15_2 < (t867.length : Int) := of_decide_eq_true (by first | (with_reducible assumption) | assumption)
                 obtain ⟨ad874, e874, hx874_0⟩ := Kd.at_int (Kd.R_reads' HO_13.out).2.2 x15_2 p874 q874
                 cases e874
                 replace p874 := eq_true p874
                 replace q874 := eq_true q874
                 obtain ⟨Ao65, co65, eo65⟩ := Kd.R_slice HO_14.out
                 subst eo65
                 have p875 : 0 ≤ (x15_2 : Int) := of_decide_eq_true (by first | (with_reducible assumption) | assumption)
                 have q875 : x15_2 < (t870.length : Int) := of_decide_eq_true (by first | (with_reducible assumption) | assumption)
                 obtain ⟨ad875, e875, hx875_0⟩ := Kd.at_int (Kd.R_reads' HO_14.out).2.2 x15_2 p875 q875
                 cases e875
                 replace p875 := eq_true p875
                 replace q875 := eq_true q875
                 go_wp2
                 first | go_roundg k2 | (simp only [add_plain] at *; go_roundg k2)
                 case measure => have := HJ6.out; have := HK2.out; omega
                 case rel => exact ⟨(wrap64 (x15_2 + 1)), (wrap64 (x16_2 + 1)), (by first | rfl | (simp; done) | (simp [*]; done)), (by first | rfl | (simp; done) | (simp [*]; done)), H', ⟨by have := HJ6.out; have := HK2.out; omega⟩, ⟨by (with_reducible repeat (first | apply Kd.R_alloc | apply Kd.R_drewN | apply Kd.R_drew)); exact HO_7.out⟩, ⟨by (with_reducible repeat (first | apply Kd.R_alloc | apply Kd.R_drewN | apply Kd.R_drew)); exact HO_9.out⟩, ⟨by (with_reducible repeat (first | apply Kd.R_alloc | apply Kd.R_drewN | apply Kd.R_drew)); exact HO_11.out⟩, ⟨by (with_reducible repeat (first | apply Kd.R_alloc | apply Kd.R_drewN | apply Kd.R_drew)); exact HO_13.out⟩, ⟨by (with_reducible repeat (first | apply Kd.R_alloc | apply Kd.R_drewN | apply Kd.R_drew)); exact HO_14.out⟩, ⟨by repeat (first | (with_reducible first | exact HB.out | apply below_alloc | apply pw_below_drewN | apply below_drew1) | exact HB.out)⟩⟩
               ·rw [if_neg c62] at H
                have c62b0 : ((rd t870 x15_2) == x16_2) = false := beq_eq_false_iff_ne.mpr c62
                have c62b1 : ((rd t870 x15_2) != x16_2) = true := bne_iff_ne.mpr c62
                as_aux_lemma =>
                 exact absurd ((Option.some.inj H).trans HQ_.out) (by decide)
              ·rw [if_neg c61] at H
               exact absurd H (by simp)
            ·rw [if_neg c59] at H
             have c59b0 : ((rd t867 x15_2) == x16_2) = false := beq_eq_false_iff_ne.mpr c59
             have c59b1 : ((rd t867 x15_2) != x16_2) = true := bne_iff_ne.mpr c59
             as_aux_lemma =>
              exact absurd ((Option.some.inj H).trans HQ_.out) (by decide)
           ·rw [if_neg c58] at H
            exact absurd H (by simp)
          ·rw [if_neg c57] at H
           exact absurd H (by simp)
        ·replace c55 := Bool.eq_false_iff.mpr c55
         subst c55
         have H1 : (foghornlaw05_SliceRows.l0 k2 t844 t848 t852 t867 t870 x15_2 (wrap64 (x16_2 + 1))) = some r := by rw [if_neg (show ¬ (false = true) by decide)] at H; exact H
         clear H
         have H := H1
         clear H1
         as_aux_lemma =>
          have H' := Aside0.mk H
          clear H
          obtain ⟨Ao66, co66, eo66⟩ := Kd.R_slice HO_7.out
          subst eo66
          have p873 : 0 ≤ (x16_2 : Int) := of_decide_eq_true (by first | (with_reducible assumption) | assumption)
          have q873 : x16_2 < (t844.length : Int) := of_decide_eq_true (by first | (with_reducible assumption) | assumption)
          obtain ⟨ad873, e873, hx873_0, hx873_1, hx873_2⟩ := at_T80 (Kd.R_reads' HO_7.out).2.2 x16_2 p873 q873
          (try rw [← Nbq54.out] at hx873_2)
          cases e873
          replace p873 := eq_true p873
          replace q873 := eq_true q873
          go_wp2
          first | go_roundg k2 | (simp only [add_plain] at *; go_roundg k2)
          case measure => have := HJ6.out; have := HK2.out; omega
          case rel => exact ⟨(x15_2), (wrap64 (x16_2 + 1)), (by first | rfl | (simp; done) | (simp [*]; done)), (by first | rfl | (simp; done) | (simp [*]; done)), H', ⟨by have := HJ6.out; have := HK2.out; omega⟩, ⟨by (with_reducible repeat (first | apply Kd.R_alloc | apply Kd.R_drewN | apply Kd.R_drew)); exact HO_7.out⟩, ⟨by (with_reducible repeat (first | apply Kd.R_alloc | apply Kd.R_drewN | apply Kd.R_drew)); exact HO_9.out⟩, ⟨by (with_reducible repeat (first | apply Kd.R_alloc | apply Kd.R_drewN | apply Kd.R_drew)); exact HO_11.out⟩, ⟨by (with_reducible repeat (first | apply Kd.R_alloc | apply Kd.R_drewN | apply Kd.R_drew)); exact HO_13.out⟩, ⟨by (with_reducible repeat (first | apply Kd.R_alloc | apply Kd.R_drewN | apply Kd.R_drew)); exact HO_14.out⟩, ⟨by repeat (first | (with_reducible first | exact HB.out | apply below_alloc | apply pw_below_drewN | apply below_drew1) | exact HB.out)⟩⟩
       ·rw [if_neg c53] at H
        exact absurd H (by simp)
      ·rw [if_neg c52] at H
       have c52b0 : decide (x16_2 < (t844.length : Int)) = false := decide_eq_false c52
       clear c52
       have HC67 := Aside0.mk H
       clear H
       obtain ⟨Ao68, co68, eo68⟩ := Kd.R_slice HO_7.out
       subst eo68
       go_upto_region 18 with (fail)
       go_cut [127] (fun v127 wc => ∃ (kq : Nat) (x127_66 : Bool), v127 = .bool x127_66 ∧ Aside0 (foghornlaw05_SliceRows.j2 kq t844 t848 t852 t867 t870 x127_66 = some r) ∧ Aside0 (kq ≤ k2) ∧ Aside0 (Kd.R k80 80 wc w.heap.size (fun _ => True) (.slice Ao68 t844.length co68) t844) ∧ Aside0 (Kd.R k83 83 wc w.heap.size (fun k_ => some k_ ≠ ((.slice Ao49 t852.length co49) : Value).ownBlock) v850 t848) ∧ Aside0 (Kd.R k83 83 wc w.heap.size (fun k_ => some k_ ≠ (v850 : Value).ownBlock) (.slice Ao49 t852.length co49) t852) ∧ Aside0 (Kd.R (Kd.int .i64) 3 wc w.heap.size (fun k_ => some k_ ≠ (v871 : Value).ownBlock) v868 t867) ∧ Aside0 (Kd.R (Kd.int .i64) 3 wc w.heap.size (fun k_ => some k_ ≠ (v868 : Value).ownBlock) v871 t870) ∧ Aside0 (Below w.heap.size w wc))
       case first =>
        have H := HC67.out
        clear HC67
        by_cases c69 : (t867.length : Int) = x15_2
        ·rw [if_pos c69] at H
         have c69b0 : ((t867.length : Int) == x15_2) = true := beq_iff_eq.mpr c69
         have c69b1 : ((t867.length : Int) != x15_2) = false := bne_eq_false_iff_eq.mpr c69
         clear c69
         (first | rw [c69b0] | (simp only [i64_w, i32_w]; rw [c69b0]) | skip)
         as_aux_lemma =>
          have H' := Aside0.mk H
          clear H
          obtain ⟨Ao70, co70, eo70⟩ := Kd.R_slice HO_13.out
          subst eo70
          obtain ⟨Ao71, co71, eo71⟩ := Kd.R_slice HO_14.out
          subst eo71
          go_wp2
          go_meet
          case rel => exact ⟨_, (((t870.length : Int) != x15_2)), (by first | rfl | (simp; done) | (simp [*]; done)), H', ⟨by have := HJ6.out; have := HK2.out; first | omega | exact Nat.le_refl _⟩, ⟨by (with_reducible repeat (first | apply Kd.R_alloc | apply Kd.R_drewN | apply Kd.R_drew)); exact HO_7.out⟩, ⟨by (with_reducible repeat (first | apply Kd.R_alloc | apply Kd.R_drewN | apply Kd.R_drew)); exact HO_9.out⟩, ⟨by (with_reducible repeat (first | apply Kd.R_alloc | apply Kd.R_drewN | apply Kd.R_drew)); exact HO_11.out⟩, ⟨by (with_reducible repeat (first | apply Kd.R_alloc | apply Kd.R_drewN | apply Kd.R_drew)); exact HO_13.out⟩, ⟨by (with_reducible repeat (first | apply Kd.R_alloc | apply Kd.R_drewN | apply Kd.R_drew)); exact HO_14.out⟩, ⟨by repeat (first | (with_reducible first | exact HB.out | apply below_alloc | apply pw_below_drewN | apply below_drew1) | exact HB.out)⟩⟩
        ·rw [if_neg c69] at H
         have c69b0 : ((t867.length : Int) == x15_2) = false := beq_eq_false_iff_ne.mpr c69
         have c69b1 : ((t867.length : Int) != x15_2) = true := bne_iff_ne.mpr c69
         (first | rw [c69b0] | (simp only [i64_w, i32_w]; rw [c69b0]) | skip)
         as_aux_lemma =>
          have H' := Aside0.mk H
          clear H
          obtain ⟨Ao72, co72, eo72⟩ := Kd.R_slice HO_13.out
          subst eo72
          go_wp2
          go_meet
          case rel => exact ⟨_, (true), (by first | rfl | (simp; done) | (simp [*]; done)), H', ⟨by have := HJ6.out; have := HK2.out; first | omega | exact Nat.le_refl _⟩, ⟨by (with_reducible repeat (first | apply Kd.R_alloc | apply Kd.R_drewN | apply Kd.R_drew)); exact HO_7.out⟩, ⟨by (with_reducible repeat (first | apply Kd.R_alloc | apply Kd.R_drewN | apply Kd.R_drew)); exact HO_9.out⟩, ⟨by (with_reducible repeat (first | apply Kd.R_alloc | apply Kd.R_drewN | apply Kd.R_drew)); exact HO_11.out⟩, ⟨by (with_reducible repeat (first | apply Kd.R_alloc | apply Kd.R_drewN | apply Kd.R_drew)); exact HO_13.out⟩, ⟨by (with_reducible repeat (first | apply Kd.R_alloc | apply Kd.R_drewN | apply Kd.R_drew)); exact HO_14.out⟩, ⟨by repeat (first | (with_reducible first | exact HB.out | apply below_alloc | apply pw_below_drewN | apply below_drew1) | exact HB.out)⟩⟩
       case rest =>
        clear HC67
        try clear c1
        try clear c2
        try clear p2
        try clear q2
        try clear q3
        try clear c4
        try clear c5
        try clear q5
        try clear c6
        try clear p6
        try clear c7
        try clear p8
        try clear q8
        try clear hx8
        try clear c13
        try clear c13b0
        try clear c13b1
        try clear c15
        try clear c17
        try clear c18
        try clear c18b0
        try clear c18b1
        try clear c19
        try clear c19b0
        try clear c19b1
        try clear c20
        try clear c20b0
        try clear c20b1
        try clear c21
        try clear c21b0
        try clear q27
        try clear q35
        try clear c46
        try clear c52
        try clear c52b0
        try clear c53
        try clear c53b0
        try clear q54
        try clear c55
        try clear c56
        try clear c56b0
        try clear c57
        try clear c57b0
        try clear c58
        try clear c58b0
        try clear c59
        try clear c59b0
        try clear c59b1
        try clear c60
        try clear c60b0
        try clear c61
        try clear c61b0
        try clear c62
        try clear c62b0
        try clear c62b1
        try clear p64
        try clear c66
        try clear c67
        try clear c68
        try clear c69
        try clear c69b0
        try clear c69b1
        try clear c71
        try clear hx862_0
        try clear hx862_1
        try clear hx873_0
        try clear hx873_1
        try clear hx873_2
        try clear hx874_0
        try clear hx875_0
        try clear p2
        try clear p6
        try clear p8
        try clear p862
        try clear p873
        try clear p874
        try clear p875
        try clear q2
        try clear q27
        try clear q3
        try clear q35
        try clear q8
        try clear q862
        try clear q873
        try clear q874
        try clear q875
        obtain ⟨kq, x127_66, rfl, HA, HJ66, HO_7, HO_9, HO_11, HO_13, HO_14, HB⟩ := hcut
        cases kq with
        | zero => exact absurd HA.out (by simp [foghornlaw05_SliceRows.j2])
        | succ kj66 =>
         have H := HA.out
         clear HA
         simp only [foghornlaw05_SliceRows.j2] at H
         by_cases c73 : x127_66 = true
         ·subst c73
          have H1 : (some false) = some r := by rw [if_pos rfl] at H; exact H
          clear H
          have H := H1
          clear H1
          as_aux_lemma =>
           exact absurd ((Option.some.inj H).trans HQ_.out) (by decide)
         ·replace c73 := Bool.eq_false_iff.mpr c73
          subst c73
          have H1 : (foghornlaw05_SliceRows.l1 kj66 t844 t848 t852 t867 t870 0) = some r := by rw [if_neg (show ¬ (false = true) by decide)] at H; exact H
          clear H
          have H := H1
          clear H1
          have H' := Aside0.mk H
          clear H
          go_wp2
          go_loopg [17] kj66 (fun kq v17 w' => ∃ (x13_4 : List Int) (x17_4 : Int), v17 = .int .i64 x17_4 ∧ Aside0 (foghornlaw05_SliceRows.l1 kq t844 t848 t852 x13_4 t870 x17_4 = some r) ∧ Aside0 (kq ≤ kj66) ∧ Aside0 (Kd.R k80 80 w' w.heap.size (fun _ => True) (.slice Ao68 t844.length co68) t844) ∧ Aside0 (Kd.R k83 83 w' w.heap.size (fun k_ => some k_ ≠ ((.slice Ao49 t852.length co49) : Value).ownBlock) v850 t848) ∧ Aside0 (Kd.R k83 83 w' w.heap.size (fun k_ => some k_ ≠ (v850 : Value).ownBlock) (.slice Ao49 t852.length co49) t852) ∧ Aside0 (Kd.R (Kd.int .i64) 3 w' w.heap.size (fun k_ => some k_ ≠ (v871 : Value).ownBlock) v868 x13_4) ∧ Aside0 (Kd.R (Kd.int .i64) 3 w' w.heap.size (fun k_ => some k_ ≠ (v868 : Value).ownBlock) v871 t870) ∧ Aside0 (Below w.heap.size w w'))
          case atStart => exact ⟨(t867), (0), (by first | rfl | (simp; done) | (simp [*]; done)), H', ⟨Nat.le_refl _⟩, ⟨by (with_reducible repeat (first | apply Kd.R_alloc | apply Kd.R_drewN | apply Kd.R_drew)); exact HO_7.out⟩, ⟨by (with_reducible repeat (first | apply Kd.R_alloc | apply Kd.R_drewN | apply Kd.R_drew)); exact HO_9.out⟩, ⟨by (with_reducible repeat (first | apply Kd.R_alloc | apply Kd.R_drewN | apply Kd.R_drew)); exact HO_11.out⟩, ⟨by (with_reducible repeat (first | apply Kd.R_alloc | apply Kd.R_drewN | apply Kd.R_drew)); exact HO_13.out⟩, ⟨by (with_reducible repeat (first | apply Kd.R_alloc | apply Kd.R_drewN | apply Kd.R_drew)); exact HO_14.out⟩, ⟨by repeat (first | (with_reducible first | exact HB.out | apply below_alloc | apply pw_below_drewN | apply below_drew1) | exact HB.out)⟩⟩
          case round =>
           clear H'
           try clear c1
           try clear c2
           try clear p2
           try clear q2
           try clear q3
           try clear c4
           try clear c5
           try clear q5
           try clear c6
           try clear p6
           try clear c7
           try clear p8
           try clear q8
           try clear hx8
           try clear c13
           try clear c13b0
           try clear c13b1
           try clear c15
           try clear c17
           try clear c18
           try clear c18b0
           try clear c18b1
           try clear c19
           try clear c19b0
           try clear c19b1
           try clear c20
           try clear c20b0
           try clear c20b1
           try clear c21
           try clear c21b0
           try clear q27
           try clear q35
           try clear c46
           try clear c52
           try clear c52b0
           try clear c53
           try clear c53b0
           try clear q54
           try clear c55
           try clear c56
           try clear c56b0
           try clear c57
           try clear c57b0
           try clear c58
           try clear c58b0
           try clear c59
           try clear c59b0
           try clear c59b1
           try clear c60
           try clear c60b0
           try clear c61
           try clear c61b0
           try clear c62
           try clear c62b0
           try clear c62b1
           try clear p64
           try clear c66
           try clear c67
           try clear c68
           try clear c69
           try clear c69b0
           try clear c69b1
           try clear c71
           try clear c73
           try clear hx862_0
           try clear hx862_1
           try clear hx873_0
           try clear hx873_1
           try clear hx873_2
           try clear hx874_0
           try clear hx875_0
           try clear p2
           try clear p6
           try clear p64
           try clear p8
           try clear p862
           try clear p873
           try clear p874
           try clear p875
           try clear q2
           try clear q27
           try clear q3
           try clear q35
           try clear q5
           try clear q54
           try clear q8
           try clear q862
           try clear q873
           try clear q874
           try clear q875
           obtain ⟨x13_4, x17_4, rfl, HA, HK4, HO_7, HO_9, HO_11, HO_13, HO_14, HB⟩ := hrel
           cases gk with
           | zero => exact absurd HA.out (by simp [foghornlaw05_SliceRows.l1])
           | succ k4 =>
            have H := HA.out
            clear HA
            simp only [foghornlaw05_SliceRows.l1] at H
            by_cases c74 : x17_4 < (x13_4.length : Int)
            ·rw [if_pos c74] at H
             have c74b0 : decide (x17_4 < (x13_4.length : Int)) = true := decide_eq_true c74
             clear c74
             by_cases c75 : 0 ≤ x17_4
             ·rw [if_pos c75] at H
              have c75b0 : decide (0 ≤ x17_4) = true := decide_eq_true c75
              clear c75
              obtain ⟨y876, hy876⟩ : ∃ y_ : List Int, y_ = (x13_4.set (x17_4 : Int).toNat (-1)) := ⟨_, rfl⟩
              replace H : (if x17_4 < (t870.length : Int) then (if (rd t870 x17_4) < 0 then (some false) else (foghornlaw05_SliceRows.l1 k4 t844 t848 t852 y876 t870 (wrap64 (x17_4 + 1)))) else (none)) = some r := by first | (rw [hy876]; with_reducible exact H) | (have H2_ := (Option.bind_some _ _).symm.trans H; rw [hy876]; with_reducible exact H2_) | (have H2_ := (Option.bind_some _ _).symm.trans H; with_reducible exact H2_) | with_reducible exact H | (rw [hy876]; exact H) | exact H
              have Ny876 := Aside0.mk hy876
              clear hy876
              by_cases c77 : x17_4 < (t870.length : Int)
              ·rw [if_pos c77] at H
               have c77b0 : decide (x17_4 < (t870.length : Int)) = true := decide_eq_true c77
               clear c77
               by_cases c78 : (rd t870 x17_4) < 0
               ·rw [if_pos c78] at H
                have c78b0 : decide ((rd t870 x17_4) < 0) = true := decide_eq_true c78
                clear c78
                as_aux_lemma =>
                 exact absurd ((Option.some.inj H).trans HQ_.out) (by decide)
               ·rw [if_neg c78] at H
                have c78b0 : decide ((rd t870 x17_4) < 0) = false := decide_eq_false c78
                clear c78
                as_aux_lemma =>
                 have H' := Aside0.mk H
                 clear H
                 obtain ⟨Ao79, co79, eo79⟩ := Kd.R_slice HO_13.out
                 subst eo79
                 have p76 : 0 ≤ (x17_4 : Int) := of_decide_eq_true (by first | (with_reducible assumption) | assumption)
                 have q76 : (x17_4 : Int) < ((x13_4.length : Int) : Int) := of_decide_eq_true (by first | (with_reducible assumption) | assumption)
                 obtain ⟨go76, co76, eo76, gb76, gl76, cl76, HG76⟩ := Kd.R_form HO_13.out (by omega)
                 (first | cases eo76 | (injection eo76 with ea_ en_ ec_; (first | subst ea_ | (injection ea_ with ea_; subst ea_)); subst ec_; clear en_))
                 have GB76 := Aside0.mk gb76
                 have GG76 := Aside0.mk HG76
                 clear gb76 gl76 HG76
                 obtain ⟨hx76_0, hf76_0⟩ := Kd.R_celln 0 HO_13.out (x17_4 : Int) p76 q76
                 replace p76 := eq_true p76
                 replace q76 := eq_true q76
                 have HP80 := Kd.R_putg HO_13.out (x17_4 : Int) (-1)
                 go_wp2_with (first | ((with_reducible refine gate_store (t := 3) (p := 136) rfl ?_); refine store_event (t := 3) (p := 136) (v := ?vo_w81) (w1 := (wr.setCell ⟨go76, (x17_4 : Int).toNat, none⟩ (.int .i64 (-1)))) ?hg ?ho ?hn ?hr ?_; (case ho => rfl); (case hg => rfl); (case hn => rfl); (case hr => first | (go_simp; done) | (go_simp; rfl)); intro w81 hw; have hg : wr.grownBy w81 (some go76) := (by rw [hw]; exact HP80.2); have hp_ : Kd.R (Kd.int .i64) 3 w81 w.heap.size (fun k_ => some k_ ≠ (v871 : Value).ownBlock) (.slice (some ⟨go76, 0, none⟩) x13_4.length co79) y876 := (by rw [hw, Ny876.out]; exact HP80.1); clear HP80; have n0_ := Aside0.mk (Kd.R_over' (v := (.slice (some ⟨go76, 0, none⟩) x13_4.length co79)) (by (with_reducible repeat (first | apply Kd.R_alloc | apply Kd.R_drewN | apply Kd.R_drew)); exact HO_7.out) (Kd.R_typed HO_13.out) (by decide) hg); have n1_ := Aside0.mk (Kd.R_over' (v := (.slice (some ⟨go76, 0, none⟩) x13_4.length co79)) (by (with_reducible repeat (first | apply Kd.R_alloc | apply Kd.R_drewN | apply Kd.R_drew)); exact HO_9.out) (Kd.R_typed HO_13.out) (by decide) hg); have n2_ := Aside0.mk (Kd.R_over' (v := (.slice (some ⟨go76, 0, none⟩) x13_4.length co79)) (by (with_reducible repeat (first | apply Kd.R_alloc | apply Kd.R_drewN | apply Kd.R_drew)); exact HO_11.out) (Kd.R_typed HO_13.out) (by decide) hg); have n3_ := Aside0.mk (hp_); have n4_ := Aside0.mk (Kd.R_after (v := (.slice (some ⟨go76, 0, none⟩) x13_4.length co79)) (v1 := (.slice (some ⟨go76, 0, none⟩) x13_4.length co79)) (ok := (fun _ => True)) (by (with_reducible repeat (first | apply Kd.R_alloc | apply Kd.R_drewN | apply Kd.R_drew)); exact Kd.R_mono HO_14.out (fun _ hk => ⟨trivial, hk⟩)) hg (.inl rfl)); have n5_ := Aside0.mk ((by rw [hw]; exact below_set (HB.out) GB76.out : Below w.heap.size w w81)); clear HO_7; clear HO_9; clear HO_11; clear HO_13; clear HO_14; clear HB; have HO_7 := n0_; have HO_9 := n1_; have HO_11 := n2_; have HO_13 := n3_; have HO_14 := n4_; have HB := n5_; clear n0_ n1_ n2_ n3_ n4_ n5_; clear hg hw hp_; obtain ⟨Ao82, co82, eo82⟩ := Kd.R_slice HO_14.out; subst eo82; have p877 : 0 ≤ (x17_4 : Int) := of_decide_eq_true (by first | (with_reducible assumption) | assumption); have q877 : x17_4 < (t870.length : Int) := of_decide_eq_true (by first | (with_reducible assumption) | assumption); obtain ⟨ad877, e877, hx877_0⟩ := Kd.at_int (Kd.R_reads' HO_14.out).2.2 x17_4 p877 q877; cases e877; replace p877 := eq_true p877; replace q877 := eq_true q877))
                 first | go_roundg k4 | (simp only [add_plain] at *; go_roundg k4)
                 case measure => have := HJ6.out; have := HK2.out; have := HJ66.out; have := HK4.out; omega
                 case rel => exact ⟨(y876), (wrap64 (x17_4 + 1)), (by first | rfl | (simp; done) | (simp [*]; done)), H', ⟨by have := HJ6.out; have := HK2.out; have := HJ66.out; have := HK4.out; omega⟩, ⟨by (with_reducible repeat (first | apply Kd.R_alloc | apply Kd.R_drewN | apply Kd.R_drew)); exact HO_7.out⟩, ⟨by (with_reducible repeat (first | apply Kd.R_alloc | apply Kd.R_drewN | apply Kd.R_drew)); exact HO_9.out⟩, ⟨by (with_reducible repeat (first | apply Kd.R_alloc | apply Kd.R_drewN | apply Kd.R_drew)); exact HO_11.out⟩, ⟨by (with_reducible repeat (first | apply Kd.R_alloc | apply Kd.R_drewN | apply Kd.R_drew)); exact HO_13.out⟩, ⟨by (with_reducible repeat (first | apply Kd.R_alloc | apply Kd.R_drewN | apply Kd.R_drew)); exact Kd.R_mono HO_14.out (fun _ hk => hk.2)⟩, ⟨by repeat (first | (with_reducible first | exact HB.out | apply below_alloc | apply pw_below_drewN | apply below_drew1) | exact HB.out)⟩⟩
              ·rw [if_neg c77] at H
               exact absurd H (by simp)
             ·rw [if_neg c75] at H
              exact absurd H (by simp)
            ·rw [if_neg c74] at H
             have c74b0 : decide (x17_4 < (x13_4.length : Int)) = false := decide_eq_false c74
             clear c74
             have H' := Aside0.mk H
             clear H
             obtain ⟨Ao83, co83, eo83⟩ := Kd.R_slice HO_13.out
             subst eo83
             go_wp2
             go_loopg [18] k4 (fun kq v18 w' => ∃ (x9_5 : List (S83)) (x18_5 : Int), v18 = .int .i64 x18_5 ∧ Aside0 (foghornlaw05_SliceRows.l2 kq t844 x9_5 t852 x18_5 = some r) ∧ Aside0 (kq ≤ k4) ∧ Aside0 (Kd.R k80 80 w' w.heap.size (fun _ => True) (.slice Ao68 t844.length co68) t844) ∧ Aside0 (Kd.R k83 83 w' w.heap.size (fun k_ => some k_ ≠ ((.slice Ao49 t852.length co49) : Value).ownBlock) v850 x9_5) ∧ Aside0 (Kd.R k83 83 w' w.heap.size (fun k_ => some k_ ≠ (v850 : Value).ownBlock) (.slice Ao49 t852.length co49) t852) ∧ Aside0 (Below w.heap.size w w'))
             case atStart => exact ⟨(t848), (0), (by first | rfl | (simp; done) | (simp [*]; done)), H', ⟨Nat.le_refl _⟩, ⟨by (with_reducible repeat (first | apply Kd.R_alloc | apply Kd.R_drewN | apply Kd.R_drew)); exact HO_7.out⟩, ⟨by (with_reducible repeat (first | apply Kd.R_alloc | apply Kd.R_drewN | apply Kd.R_drew)); exact HO_9.out⟩, ⟨by (with_reducible repeat (first | apply Kd.R_alloc | apply Kd.R_drewN | apply Kd.R_drew)); exact HO_11.out⟩, ⟨by repeat (first | (with_reducible first | exact HB.out | apply below_alloc | apply pw_below_drewN | apply below_drew1) | exact HB.out)⟩⟩
             case round =>
              clear H'
              try clear c1
              try clear c2
              try clear p2
              try clear q2
              try clear q3
              try clear c4
              try clear c5
              try clear q5
              try clear c6
              try clear p6
              try clear c7
              try clear p7
              try clear q7
              try clear hx7
              try clear hf7
              try clear p8
              try clear q8
              try clear hx8
              try clear c13
              try clear c13b0
              try clear c13b1
              try clear c15
              try clear c17
              try clear c18
              try clear c18b0
              try clear c18b1
              try clear c19
              try clear c19b0
              try clear c19b1
              try clear c20
              try clear c20b0
              try clear c20b1
              try clear c21
              try clear c21b0
              try clear q27
              try clear q35
              try clear c46
              try clear c52
              try clear c52b0
              try clear c53
              try clear c53b0
              try clear q54
              try clear c55
              try clear c56
              try clear c56b0
              try clear c57
              try clear c57b0
              try clear c58
              try clear c58b0
              try clear c59
              try clear c59b0
              try clear c59b1
              try clear c60
              try clear c60b0
              try clear c61
              try clear c61b0
              try clear c62
              try clear c62b0
              try clear c62b1
              try clear p64
              try clear c66
              try clear c67
              try clear c68
              try clear c69
              try clear c69b0
              try clear c69b1
              try clear c71
              try clear c73
              try clear c74
              try clear c74b0
              try clear c75
              try clear c75b0
              try clear p76
              try clear q76
              try clear hx76
              try clear hf76
              try clear c77
              try clear c77b0
              try clear c78
              try clear c78b0
              try clear hx76_0
              try clear hx862_0
              try clear hx862_1
              try clear hx873_0
              try clear hx873_1
              try clear hx873_2
              try clear hx874_0
              try clear hx875_0
              try clear hx877_0
              try clear p2
              try clear p6
              try clear p64
              try clear p76
              try clear p8
              try clear p862
              try clear p873
              try clear p874
              try clear p875
              try clear p877
              try clear q2
              try clear q27
              try clear q3
              try clear q35
              try clear q5
              try clear q54
              try clear q76
              try clear q8
              try clear q862
              try clear q873
              try clear q874
              try clear q875
              try clear q877
              obtain ⟨x9_5, x18_5, rfl, HA, HK5, HO_7, HO_9, HO_11, HB⟩ := hrel
              cases gk with
              | zero => exact absurd HA.out (by simp [foghornlaw05_SliceRows.l2])
              | succ k5 =>
               have H := HA.out
               clear HA
               simp only [foghornlaw05_SliceRows.l2] at H
               by_cases c84 : x18_5 < (x9_5.length : Int)
               ·rw [if_pos c84] at H
                have c84b0 : decide (x18_5 < (x9_5.length : Int)) = true := decide_eq_true c84
                clear c84
                by_cases c85 : 0 ≤ x18_5
                ·rw [if_pos c85] at H
                 have c85b0 : decide (0 ≤ x18_5) = true := decide_eq_true c85
                 clear c85
                 obtain ⟨y878, hy878⟩ : ∃ y_ : List (S83), y_ = (x9_5.set (x18_5 : Int).toNat (⟨(-1), (0, 0), false⟩ : S83)) := ⟨_, rfl⟩
                 replace H : (foghornlaw05_SliceRows.l2 k5 t844 y878 t852 (wrap64 (x18_5 + 1))) = some r := by first | (rw [hy878]; with_reducible exact H) | (have H2_ := (Option.bind_some _ _).symm.trans H; rw [hy878]; with_reducible exact H2_) | (have H2_ := (Option.bind_some _ _).symm.trans H; with_reducible exact H2_) | with_reducible exact H | (rw [hy878]; exact H) | exact H
                 have Ny878 := Aside0.mk hy878
                 clear hy878
                 as_aux_lemma =>
                  have H' := Aside0.mk H
                  clear H
                  obtain ⟨Ao87, co87, eo87⟩ := Kd.R_slice HO_9.out
                  subst eo87
                  have p86 : 0 ≤ (x18_5 : Int) := of_decide_eq_true (by first | (with_reducible assumption) | assumption)
                  have q86 : (x18_5 : Int) < ((x9_5.length : Int) : Int) := of_decide_eq_true (by first | (with_reducible assumption) | assumption)
                  obtain ⟨go86, co86, eo86, gb86, gl86, cl86, HG86⟩ := Kd.R_form HO_9.out (by omega)
                  (first | cases eo86 | (injection eo86 with ea_ en_ ec_; (first | subst ea_ | (injection ea_ with ea_; subst ea_)); subst ec_; clear en_))
                  have GB86 := Aside0.mk gb86
                  have GG86 := Aside0.mk HG86
                  clear gb86 gl86 HG86
                  obtain ⟨ce86, hcl86, hM86, hcc86, hfr86⟩ := Kd.R_elem HO_9.out z83 (x18_5 : Int) p86 q86
                  obtain rfl := k83_openM hM86
                  have hx86_0 : wr.cell? ⟨go86, (x18_5 : Int).toNat * 3, none⟩ = some (.int .i64 ((rd_T83 x9_5 x18_5).f0)) := hcc86 0 _ rfl
                  have hx86_1 : wr.cell? ⟨go86, (x18_5 : Int).toNat * 3 + 1, none⟩ = some (.complex .f64 (((rd_T83 x9_5 x18_5).f1).1) (((rd_T83 x9_5 x18_5).f1).2)) := hcc86 1 _ rfl
                  have hx86_2 : wr.cell? ⟨go86, (x18_5 : Int).toNat * 3 + 2, none⟩ = some (.bool ((rd_T83 x9_5 x18_5).f2)) := hcc86 2 _ rfl
                  have hf86_0 : wr.frozen? ⟨go86, (x18_5 : Int).toNat * 3, none⟩ = false := hfr86 0
                  have hf86_1 : wr.frozen? ⟨go86, (x18_5 : Int).toNat * 3 + 1, none⟩ = false := hfr86 1
                  have hf86_2 : wr.frozen? ⟨go86, (x18_5 : Int).toNat * 3 + 2, none⟩ = false := hfr86 2
                  clear hcl86 hcc86 hfr86 hM86
                  replace p86 := eq_true p86
                  replace q86 := eq_true q86
                  have HX88 := Aside0.mk (show Kd.R k83 83 wr w.heap.size (fun k_ => some k_ ≠ (.slice Ao49 t852.length co49 : Value).ownBlock) (.slice (some ⟨go86, 0, none⟩) x9_5.length co87) x9_5 from (by (with_reducible repeat (first | apply Kd.R_alloc | apply Kd.R_drewN | apply Kd.R_drew)); exact HO_9.out))
                  obtain ⟨ce88, hcl88, hM88, hcc88, hfr88⟩ := Kd.R_elem HX88.out z83 (x18_5 : Int) (of_decide_eq_true (by first | (with_reducible assumption) | assumption)) (by have h_ : (x18_5 : Int) < ((x9_5.length : Int) : Int) := of_decide_eq_true (by first | (with_reducible assumption) | assumption); first | exact h_ | (have e_ := (Kd.R_reads' HO_9.out).1; omega) | simpa using h_)
                  obtain rfl := k83_openM hM88
                  have HP88 := Kd.R_seg HX88.out (x18_5 : Int) (of_decide_eq_true (by first | (with_reducible assumption) | assumption)) (by have h_ : (x18_5 : Int) < ((x9_5.length : Int) : Int) := of_decide_eq_true (by first | (with_reducible assumption) | assumption); first | exact h_ | (have e_ := (Kd.R_reads' HO_9.out).1; omega) | simpa using h_) (seg := [.int .i64 (-1), .complex .f64 0 0, .bool false]) (j := 0) hcl88 hcc88 (show 3 ≤ 3 from by decide) (x' := (⟨(-1), (0, 0), false⟩ : S83)) (k83_mkM _ _ _ (⟨(-1), (0, 0), false⟩ : S83) ) (fun _ hk => hk)
                  have hx88_0 := hcc88 0 _ rfl
                  (try simp only [show (k83).sz = 3 from rfl, Nat.mul_one, Nat.add_zero] at hx88_0)
                  have hf88_0 := hfr88 0
                  (try simp only [show (k83).sz = 3 from rfl, Nat.mul_one, Nat.add_zero] at hf88_0)
                  have hx88_1 := hcc88 1 _ rfl
                  (try simp only [show (k83).sz = 3 from rfl, Nat.mul_one, Nat.add_zero] at hx88_1)
                  have hf88_1 := hfr88 1
                  (try simp only [show (k83).sz = 3 from rfl, Nat.mul_one, Nat.add_zero] at hf88_1)
                  have hx88_2 := hcc88 2 _ rfl
                  (try simp only [show (k83).sz = 3 from rfl, Nat.mul_one, Nat.add_zero] at hx88_2)
                  have hf88_2 := hfr88 2
                  (try simp only [show (k83).sz = 3 from rfl, Nat.mul_one, Nat.add_zero] at hf88_2)
                  clear hcl88 hcc88 hfr88 hM88
                  go_wp2_with (first | ((with_reducible refine gate_store (t := 83) (p := 151) rfl ?_); refine store_event (t := 83) (p := 151) (v := ?vo_w89) (w1 := (((wr.setCell ⟨go86, (x18_5 : Int).toNat * 3, none⟩ (.int .i64 (-1))).setCell ⟨go86, (x18_5 : Int).toNat * 3 + 1, none⟩ (.complex .f64 0 0)).setCell ⟨go86, (x18_5 : Int).toNat * 3 + 2, none⟩ (.bool false))) ?hg ?ho ?hn ?hr ?_; (case ho => rfl); (case hg => rfl); (case hn => rfl); (case hr => first | (go_simp; done) | (go_simp; rfl)); intro w89 hw; have hg : wr.grownBy w89 (some go86) := (by rw [hw]; exact HP88.2); have hp_ : Kd.R k83 83 w89 w.heap.size (fun k_ => some k_ ≠ (.slice Ao49 t852.length co49 : Value).ownBlock) (.slice (some ⟨go86, 0, none⟩) x9_5.length co87) y878 := (by rw [hw, Ny878.out]; exact HP88.1); clear HP88; have n0_ := Aside0.mk (Kd.R_over' (v := (.slice (some ⟨go86, 0, none⟩) x9_5.length co87)) (by (with_reducible repeat (first | apply Kd.R_alloc | apply Kd.R_drewN | apply Kd.R_drew)); exact HO_7.out) (Kd.R_typed HO_9.out) (by decide) hg); have n1_ := Aside0.mk (hp_); have n2_ := Aside0.mk (Kd.R_after (v := (.slice (some ⟨go86, 0, none⟩) x9_5.length co87)) (v1 := (.slice (some ⟨go86, 0, none⟩) x9_5.length co87)) (ok := (fun _ => True)) (by (with_reducible repeat (first | apply Kd.R_alloc | apply Kd.R_drewN | apply Kd.R_drew)); exact Kd.R_mono HO_11.out (fun _ hk => ⟨trivial, hk⟩)) hg (.inl rfl)); have n3_ := Aside0.mk ((by rw [hw]; exact below_set (below_set (below_set (HB.out) GB86.out) GB86.out) GB86.out : Below w.heap.size w w89)); clear HO_7; clear HO_9; clear HO_11; clear HB; have HO_7 := n0_; have HO_9 := n1_; have HO_11 := n2_; have HB := n3_; clear n0_ n1_ n2_ n3_; clear hg hw hp_))
                  first | go_roundg k5 | (simp only [add_plain] at *; go_roundg k5)
                  case measure => have := HJ6.out; have := HK2.out; have := HJ66.out; have := HK4.out; have := HK5.out; omega
                  case rel => exact ⟨(y878), (wrap64 (x18_5 + 1)), (by first | rfl | (simp; done) | (simp [*]; done)), H', ⟨by have := HJ6.out; have := HK2.out; have := HJ66.out; have := HK4.out; have := HK5.out; omega⟩, ⟨by (with_reducible repeat (first | apply Kd.R_alloc | apply Kd.R_drewN | apply Kd.R_drew)); exact HO_7.out⟩, ⟨by (with_reducible repeat (first | apply Kd.R_alloc | apply Kd.R_drewN | apply Kd.R_drew)); exact HO_9.out⟩, ⟨by (with_reducible repeat (first | apply Kd.R_alloc | apply Kd.R_drewN | apply Kd.R_drew)); exact Kd.R_mono HO_11.out (fun _ hk => hk.2)⟩, ⟨by repeat (first | (with_reducible first | exact HB.out | apply below_alloc | apply pw_below_drewN | apply below_drew1) | exact HB.out)⟩⟩
                ·rw [if_neg c85] at H
                 exact absurd H (by simp)
               ·rw [if_neg c84] at H
                have c84b0 : decide (x18_5 < (x9_5.length : Int)) = false := decide_eq_false c84
                clear c84
                have H' := Aside0.mk H
                clear H
                obtain ⟨Ao90, co90, eo90⟩ := Kd.R_slice HO_9.out
                subst eo90
                go_wp2
                go_loopg [9, 19] k5 (fun kq v9 v19 w' => ∃ (x9_6 : List (S83)) (x19_6 : Int), v19 = .int .i64 x19_6 ∧ Aside0 (foghornlaw05_SliceRows.l3 kq t844 x9_6 t852 x19_6 = some r) ∧ Aside0 (kq ≤ k5) ∧ Aside0 (Kd.R k80 80 w' w.heap.size (fun _ => True) (.slice Ao68 t844.length co68) t844) ∧ Aside0 (Kd.R k83 83 w' w.heap.size (fun k_ => some k_ ≠ ((.slice Ao49 t852.length co49) : Value).ownBlock) v9 x9_6) ∧ Aside0 (Kd.R k83 83 w' w.heap.size (fun k_ => some k_ ≠ (v9 : Value).ownBlock) (.slice Ao49 t852.length co49) t852) ∧ Aside0 (Below w.heap.size w w'))
                case atStart => exact ⟨(x9_5), (0), (by first | rfl | (simp; done) | (simp [*]; done)), H', ⟨Nat.le_refl _⟩, ⟨by (with_reducible repeat (first | apply Kd.R_alloc | apply Kd.R_drewN | apply Kd.R_drew)); exact HO_7.out⟩, ⟨by (with_reducible repeat (first | apply Kd.R_alloc | apply Kd.R_drewN | apply Kd.R_drew)); exact HO_9.out⟩, ⟨by (with_reducible repeat (first | apply Kd.R_alloc | apply Kd.R_drewN | apply Kd.R_drew)); exact HO_11.out⟩, ⟨by repeat (first | (with_reducible first | exact HB.out | apply below_alloc | apply pw_below_drewN | apply below_drew1) | exact HB.out)⟩⟩
                case round =>
                 clear H'
                 try clear c1
                 try clear c2
                 try clear p2
                 try clear q2
                 try clear q3
                 try clear c4
                 try clear c5
                 try clear q5
                 try clear c6
                 try clear p6
                 try clear c7
                 try clear p7
                 try clear q7
                 try clear hx7
                 try clear hf7
                 try clear c8
                 try clear p8
                 try clear q8
                 try clear hx8
                 try clear hf8
                 try clear c13
                 try clear c13b0
                 try clear c13b1
                 try clear c15
                 try clear c17
                 try clear c18
                 try clear c18b0
                 try clear c18b1
                 try clear c19
                 try clear c19b0
                 try clear c19b1
                 try clear c20
                 try clear c20b0
                 try clear c20b1
                 try clear c21
                 try clear c21b0
                 try clear q27
                 try clear q35
                 try clear c46
                 try clear c52
                 try clear c52b0
                 try clear c53
                 try clear c53b0
                 try clear q54
                 try clear c55
                 try clear c56
                 try clear c56b0
                 try clear c57
                 try clear c57b0
                 try clear c58
                 try clear c58b0
                 try clear c59
                 try clear c59b0
                 try clear c59b1
                 try clear c60
                 try clear c60b0
                 try clear c61
                 try clear c61b0
                 try clear c62
                 try clear c62b0
                 try clear c62b1
                 try clear p64
                 try clear c66
                 try clear c67
                 try clear c68
                 try clear c69
                 try clear c69b0
                 try clear c69b1
                 try clear c71
                 try clear c73
                 try clear c74
                 try clear c74b0
                 try clear c75
                 try clear c75b0
                 try clear p76
                 try clear q76
                 try clear hx76
                 try clear hf76
                 try clear c77
                 try clear c77b0
                 try clear c78
                 try clear c78b0
                 try clear c84
                 try clear c84b0
                 try clear c85
                 try clear c85b0
                 try clear c86
                 try clear p86
                 try clear q86
                 try clear hx86
                 try clear hf86
                 try clear p87
                 try clear q87
                 try clear hx87
                 try clear c88
                 try clear hx88
                 try clear hf88
                 try clear hx76_0
                 try clear hx862_0
                 try clear hx862_1
                 try clear hx86_0
                 try clear hx86_1
                 try clear hx86_2
                 try clear hx873_0
                 try clear hx873_1
                 try clear hx873_2
                 try clear hx874_0
                 try clear hx875_0
                 try clear hx877_0
                 try clear hx88_0
                 try clear hx88_1
                 try clear hx88_2
                 try clear p2
                 try clear p6
                 try clear p64
                 try clear p7
                 try clear p76
                 try clear p8
                 try clear p86
                 try clear p862
                 try clear p873
                 try clear p874
                 try clear p875
                 try clear p877
                 try clear q2
                 try clear q27
                 try clear q3
                 try clear q35
                 try clear q5
                 try clear q54
                 try clear q7
                 try clear q76
                 try clear q8
                 try clear q86
                 try clear q862
                 try clear q873
                 try clear q874
                 try clear q875
                 try clear q877
                 obtain ⟨x9_6, x19_6, rfl, HA, HK6, HO_7, HO_9, HO_11, HB⟩ := hrel
                 cases gk with
                 | zero => exact absurd HA.out (by simp [foghornlaw05_SliceRows.l3])
                 | succ k6 =>
                  have H := HA.out
                  clear HA
                  simp only [foghornlaw05_SliceRows.l3] at H
                  by_cases c91 : x19_6 < 20
                  ·rw [if_pos c91] at H
                   have c91b0 : decide (x19_6 < 20) = true := decide_eq_true c91
                   clear c91
                   by_cases c92 : x9_6.length < 4398046511104
                   ·rw [if_pos c92] at H
                    have LMc92 := Aside0.mk c92
                    clear c92
                    obtain ⟨y879, hy879⟩ : ∃ y_ : List (S83), y_ = (x9_6 ++ [(⟨(-2), (0, 0), false⟩ : S83)]) := ⟨_, rfl⟩
                    replace H : (foghornlaw05_SliceRows.l3 k6 t844 y879 t852 (wrap64 (x19_6 + 1))) = some r := by first | (rw [hy879]; with_reducible exact H) | (have H2_ := (Option.bind_some _ _).symm.trans H; rw [hy879]; with_reducible exact H2_) | (have H2_ := (Option.bind_some _ _).symm.trans H; with_reducible exact H2_) | with_reducible exact H | (rw [hy879]; exact H) | exact H
                    have Ny879 := Aside0.mk hy879
                    clear hy879
                    as_aux_lemma =>
                     have H' := Aside0.mk H
                     clear H
                     go_wp2_with (first | ((with_reducible refine gate_builtin (b := .append) (xs := #[.tmp 156, .tmp 158]) rfl ?_); (try (refine gate_guard (by rfl) ?_; dsimp only)); at_builtin; refine Kd.R_append k83 (w0 := w) w.heap.size rfl (.tmp 156) (.tmp 158) 121 83 (.agg #[(.int .i64 0), (.complex .f64 0 0), (.bool false)]) 32 rfl Try.underlying121 info83 rfl (by decide) (by omega) u9 x9_6 (⟨(-2), (0, 0), false⟩ : S83) [.int .i64 (-2), .complex .f64 0 0, .bool false] (fun k_ => some k_ ≠ (.slice Ao49 t852.length co49 : Value).ownBlock) (fun _ => False) rfl rfl ?aP (fun _ hk => hk.elim) ?aF ?aO ?aB ?aS ?aL ?_; (case aP => exact k83_mkM _ _ _ (⟨(-2), (0, 0), false⟩ : S83)); (case aB => exact (by repeat (first | (with_reducible first | exact HB.out | apply below_alloc | apply pw_below_drewN | apply below_drew1) | exact HB.out))); (case aF => exact (fun k_ hk => Kd.fresh' (Kd.R_lt (by (with_reducible repeat (first | apply Kd.R_alloc | apply Kd.R_drewN | apply Kd.R_drew)); exact HO_11.out)) k_ hk)); (case aO => exact (by (with_reducible repeat (first | apply Kd.R_alloc | apply Kd.R_drewN | apply Kd.R_drew)); exact HO_9.out)); (case aS => exact (below_size (by repeat (first | (with_reducible first | exact HB.out | apply below_alloc | apply pw_below_drewN | apply below_drew1) | exact HB.out)))); (case aL => have := LMc92.out; omega); intro v880 w93 ho hb hg hat; rw [← Ny879.out] at ho; have n0_ := Aside0.mk (Kd.R_over' (by (with_reducible repeat (first | apply Kd.R_alloc | apply Kd.R_drewN | apply Kd.R_drew)); exact HO_7.out) (Kd.R_typed (by (with_reducible repeat (first | apply Kd.R_alloc | apply Kd.R_drewN | apply Kd.R_drew)); exact HO_9.out)) (by decide) hg); have n1_ := Aside0.mk (Kd.R_after (ok := (fun _ => True)) (by (with_reducible repeat (first | apply Kd.R_alloc | apply Kd.R_drewN | apply Kd.R_drew)); exact Kd.R_mono HO_11.out (fun _ hk => ⟨trivial, hk⟩)) hg hat); have n2_ := Aside0.mk (hb); have n3_ := Aside0.mk (ho); clear HO_7; clear HO_11; clear HB; clear HO_9; have HO_7 := n0_; have HO_11 := n1_; have HB := n2_; have HO881 := n3_; clear n0_ n1_ n2_ n3_; clear ho hb hg hat))
                     first | go_roundg k6 | (simp only [add_plain] at *; go_roundg k6)
                     case measure => have := HJ6.out; have := HK2.out; have := HJ66.out; have := HK4.out; have := HK5.out; have := HK6.out; omega
                     case rel => exact ⟨(y879), (wrap64 (x19_6 + 1)), (by first | rfl | (simp; done) | (simp [*]; done)), H', ⟨by have := HJ6.out; have := HK2.out; have := HJ66.out; have := HK4.out; have := HK5.out; have := HK6.out; omega⟩, ⟨by (with_reducible repeat (first | apply Kd.R_alloc | apply Kd.R_drewN | apply Kd.R_drew)); exact HO_7.out⟩, ⟨by (with_reducible repeat (first | apply Kd.R_alloc | apply Kd.R_drewN | apply Kd.R_drew)); exact HO881.out⟩, ⟨by (with_reducible repeat (first | apply Kd.R_alloc | apply Kd.R_drewN | apply Kd.R_drew)); exact Kd.R_mono HO_11.out (fun _ hk => hk.2)⟩, ⟨by repeat (first | (with_reducible first | exact HB.out | apply below_alloc | apply pw_below_drewN | apply below_drew1) | exact HB.out)⟩⟩
                   ·rw [if_neg c92] at H
                    exact absurd H (by simp)
                  ·rw [if_neg c91] at H
                   have c91b0 : decide (x19_6 < 20) = false := decide_eq_false c91
                   clear c91
                   replace H := Option.bind_eq_some_iff.mp H
                   obtain ⟨t882, A940, H⟩ := H
                   replace H : (if t882 = true then (some (decide ((x9_6.length : Int) ≥ 20))) else (some false)) = some r := H
                   have A94 := Aside0.mk A940
                   clear A940
                   by_cases c95 : t882 = true
                   ·subst c95
                    have H1 : (some (decide ((x9_6.length : Int) ≥ 20))) = some r := by rw [if_pos rfl] at H; exact H
                    clear H
                    have H := H1
                    clear H1
                    as_aux_lemma =>
                     obtain rfl := Option.some.inj H
                     go_wp2_with (first | ((with_reducible refine gate_callee (f := 69) rfl ?_); refine goesL_ (some 162) rfl rfl Try.func69 (by kernel_rfl) rfl #[.slice Ao49 t852.length co49, .slice Ao68 t844.length co68] rfl (by (try simp only [List.map_toArray, List.map_cons, List.map_nil]); first | done | rfl | (simp only [List.length_drop, List.length_take]; rfl)) ?_; (with_reducible refine (foghornlaw05_rows.calls k6 _ _ t852 _ _ t844 true _ ?side1 ?side2 ?side3 ?side4 A94.out).mono ?_); (case side1 => repeat (first | exact (Kd.R_reads' HO_11.out).2.2 | (with_reducible refine Kd.C_alloc ?_ _) | (with_reducible refine Kd.C_drewN ?_ _) | (with_reducible refine Kd.C_drew ?_))); (case side2 => exact (Kd.R_reads' HO_11.out).2.1); (case side3 => repeat (first | exact (Kd.R_reads' HO_7.out).2.2 | (with_reducible refine Kd.C_alloc ?_ _) | (with_reducible refine Kd.C_drewN ?_ _) | (with_reducible refine Kd.C_drew ?_))); (case side4 => exact (Kd.R_reads' HO_7.out).2.1); rintro e w96 ⟨rfl, hb⟩; refine ⟨_, rfl, ?_⟩; have n0_ := Aside0.mk (Kd.R_below (by (with_reducible repeat (first | apply Kd.R_alloc | apply Kd.R_drewN | apply Kd.R_drew)); exact HO_7.out) hb); have n1_ := Aside0.mk (Kd.R_below (by (with_reducible repeat (first | apply Kd.R_alloc | apply Kd.R_drewN | apply Kd.R_drew)); exact HO_9.out) hb); have n2_ := Aside0.mk (Kd.R_below (by (with_reducible repeat (first | apply Kd.R_alloc | apply Kd.R_drewN | apply Kd.R_drew)); exact HO_11.out) hb); have n3_ := Aside0.mk (below_step (by repeat (first | (with_reducible first | exact HB.out | apply below_alloc | apply pw_below_drewN | apply below_drew1) | exact HB.out)) hb); clear HO_7; clear HO_9; clear HO_11; clear HB; have HO_7 := n0_; have HO_9 := n1_; have HO_11 := n2_; have HB := n3_; clear n0_ n1_ n2_ n3_; (try clear hb); (try clear hb2); (try clear hk); (try clear hi); obtain ⟨Ao97, co97, eo97⟩ := Kd.R_slice HO_9.out; subst eo97))
                     go_ret
                     exact ⟨by first | rfl | (simp [errW_none, errW_some] <;> rfl) | (simp [*, errW_none, errW_some] <;> rfl), by repeat (first | (with_reducible first | exact HB.out | apply below_alloc | apply pw_below_drewN | apply below_drew1) | exact HB.out)⟩
                   ·replace c95 := Bool.eq_false_iff.mpr c95
                    subst c95
                    have H1 : (some false) = some r := by rw [if_neg (show ¬ (false = true) by decide)] at H; exact H
                    clear H
                    have H := H1
                    clear H1
                    as_aux_lemma =>
                     exact absurd ((Option.some.inj H).trans HQ_.out) (by decide)

theorem foghornlaw05_SliceRows.walk (P : foghornlaw05_SliceRows.Pure) (a0 : Int) (A1 : Option Addr) (c1 : Nat) (l1 : List (S206)) (w : World) (hr1 : Kd.C k206 w A1 l1.length l1) (hc1 : l1.length ≤ c1) (hw0 : (Lit.int .i64 a0).wf = true) (hw1 : l1.length * 12 ≤ 140737488351232 ∧ ∀ x ∈ l1, (fun y_ : S206 => ((Lit.int .i32 y_.f0).wf = true) ∧ ((Lit.int .i32 y_.f1).wf = true) ∧ (True)) x) (hk_ : 1 + ((l1.map (fun y_ : S206 => (1 + 1 + 1 + 1))).sum + 1) ≤ 1048576) :
  Calls Try.prog 13 #[.int .i64 a0, .slice A1 l1.length c1] w fun e w' => e = .returned (.bool true) ∧ Below w.heap.size w w' := by
 obtain ⟨k, h⟩ := P a0 l1 hw0 hw1 hk_
 refine (foghornlaw05_SliceRows.calls k a0 _ _ l1 true w hr1 hc1 h rfl).mono ?_
 rintro e w' ⟨rfl, hd⟩
 exact ⟨rfl, hd⟩

end Go.Proofs.Ythfcafllcgjepaa.Q
