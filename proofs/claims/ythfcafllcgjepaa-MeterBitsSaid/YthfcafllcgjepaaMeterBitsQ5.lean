-- Printed by myprint.py (ours) over the kit's printer, out of the translation.
import Derived.Test.YthfcafllcgjepaaMeterBitsK0
import Derived.Test.YthfcafllcgjepaaMeterBitsF0
import Derived.Test.YthfcafllcgjepaaMeterBitsQ0
import Derived.Test.YthfcafllcgjepaaMeterBitsQ1
import Derived.Test.YthfcafllcgjepaaMeterBitsQ2
import Derived.Test.YthfcafllcgjepaaMeterBitsQ4
namespace Go.Proofs.Ythfcafllcgjepaa.Q
open Go.RowKit Go.Proofs.YthfcafllcgjepaaW.PrintWords Go.Proofs.YthfcafllcgjepaaW.PrintLast Go.Proofs.YthfcafllcgjepaaW.PrintMore
attribute [local go_sem] ArrW.ptrOf_slice unary_neg_float unary_neg_complex run_store_float run_store_complex max2_int min2_int max_two min_two max_three min_three max_four min_four   -- for this text's walks alone
set_option linter.unusedVariables false
set_option linter.unusedSimpArgs false

/-! ### foghornlaw30_MeterBits: function 4 -/
set_option maxHeartbeats 8000000 in
set_option maxRecDepth 100000 in
theorem foghornlaw30_MeterBits.calls (k : Nat) (A0 : Option Addr) (c0 : Nat) (l0 : List Bool) (A1 : Option Addr) (c1 : Nat) (l1 : List Bool) (a2 : Int) (r : Bool) (w : World) (hr0 : Kd.C Kd.bool w A0 l0.length l0) (hc0 : l0.length ≤ c0) (hr1 : Kd.C Kd.bool w A1 l1.length l1) (hc1 : l1.length ≤ c1) (h : foghornlaw30_MeterBits.f k l0 l1 a2 = some r) (hq_ : r = true) :
  Calls Try.prog 4 #[.slice A0 l0.length c0, .slice A1 l1.length c1, .int .i64 a2] w fun e w' => e = .returned (.bool r) ∧ Below w.heap.size w w' := by
 have HQ_ := Aside0.mk hq_
 clear hq_
 have HR0 := Aside0.mk hr0
 have HC0 := Aside0.mk hc0
 clear hr0 hc0
 have HR1 := Aside0.mk hr1
 have HC1 := Aside0.mk hc1
 clear hr1 hc1
 have HB := Aside0.mk (Below.refl w.heap.size w)
 have H : ((foghornlaw30_lent.f l0).bind fun t373 => ((foghornlaw30_lent.f l1).bind fun t376 => ((meter_Errors.f k t373 t376).bind fun bt379 => ((foghornref30_Errors.f k l0 l1).bind fun bt382 => ((meter_Runs.f k t373 t376 a2).bind fun bt385 => ((foghornref30_Runs.f k l0 l1 a2).bind fun bt389 => (if bt379.1 = bt382.1 then (if bt379.2.1 = bt382.2.1 then (if bt379.2.2 = bt382.2.2 then (if bt385.2 = bt389.2 then ((foghornlaw30_runs.f k bt385.1 bt389.1).bind fun t393 => (if t393 = true then ((foghornlaw30_kept.f k t373 l0).bind fun t394 => (if t394 = true then ((foghornlaw30_kept.f k t376 l1).bind fun t395 => (foghornlaw30_MeterBits.j0 k a2 t373 t376 bt385.1 bt389.1 (!t395))) else (foghornlaw30_MeterBits.j0 k a2 t373 t376 bt385.1 bt389.1 true))) else (foghornlaw30_MeterBits.j0 k a2 t373 t376 bt385.1 bt389.1 true))) else (foghornlaw30_MeterBits.j0 k a2 t373 t376 bt385.1 bt389.1 true)) else (foghornlaw30_MeterBits.j0 k a2 t373 t376 bt385.1 bt389.1 true)) else (foghornlaw30_MeterBits.j0 k a2 t373 t376 bt385.1 bt389.1 true)) else (foghornlaw30_MeterBits.j0 k a2 t373 t376 bt385.1 bt389.1 true)))))))) = some r := h
 clear h
 replace H := Option.bind_eq_some_iff.mp H
 obtain ⟨t373, A40, H⟩ := H
 replace H : ((foghornlaw30_lent.f l1).bind fun t376 => ((meter_Errors.f k t373 t376).bind fun bt379 => ((foghornref30_Errors.f k l0 l1).bind fun bt382 => ((meter_Runs.f k t373 t376 a2).bind fun bt385 => ((foghornref30_Runs.f k l0 l1 a2).bind fun bt389 => (if bt379.1 = bt382.1 then (if bt379.2.1 = bt382.2.1 then (if bt379.2.2 = bt382.2.2 then (if bt385.2 = bt389.2 then ((foghornlaw30_runs.f k bt385.1 bt389.1).bind fun t393 => (if t393 = true then ((foghornlaw30_kept.f k t373 l0).bind fun t394 => (if t394 = true then ((foghornlaw30_kept.f k t376 l1).bind fun t395 => (foghornlaw30_MeterBits.j0 k a2 t373 t376 bt385.1 bt389.1 (!t395))) else (foghornlaw30_MeterBits.j0 k a2 t373 t376 bt385.1 bt389.1 true))) else (foghornlaw30_MeterBits.j0 k a2 t373 t376 bt385.1 bt389.1 true))) else (foghornlaw30_MeterBits.j0 k a2 t373 t376 bt385.1 bt389.1 true)) else (foghornlaw30_MeterBits.j0 k a2 t373 t376 bt385.1 bt389.1 true)) else (foghornlaw30_MeterBits.j0 k a2 t373 t376 bt385.1 bt389.1 true)) else (foghornlaw30_MeterBits.j0 k a2 t373 t376 bt385.1 bt389.1 true))))))) = some r := H
 have A4 := Aside0.mk A40
 clear A40
 replace H := Option.bind_eq_some_iff.mp H
 obtain ⟨t376, A50, H⟩ := H
 replace H : ((meter_Errors.f k t373 t376).bind fun bt379 => ((foghornref30_Errors.f k l0 l1).bind fun bt382 => ((meter_Runs.f k t373 t376 a2).bind fun bt385 => ((foghornref30_Runs.f k l0 l1 a2).bind fun bt389 => (if bt379.1 = bt382.1 then (if bt379.2.1 = bt382.2.1 then (if bt379.2.2 = bt382.2.2 then (if bt385.2 = bt389.2 then ((foghornlaw30_runs.f k bt385.1 bt389.1).bind fun t393 => (if t393 = true then ((foghornlaw30_kept.f k t373 l0).bind fun t394 => (if t394 = true then ((foghornlaw30_kept.f k t376 l1).bind fun t395 => (foghornlaw30_MeterBits.j0 k a2 t373 t376 bt385.1 bt389.1 (!t395))) else (foghornlaw30_MeterBits.j0 k a2 t373 t376 bt385.1 bt389.1 true))) else (foghornlaw30_MeterBits.j0 k a2 t373 t376 bt385.1 bt389.1 true))) else (foghornlaw30_MeterBits.j0 k a2 t373 t376 bt385.1 bt389.1 true)) else (foghornlaw30_MeterBits.j0 k a2 t373 t376 bt385.1 bt389.1 true)) else (foghornlaw30_MeterBits.j0 k a2 t373 t376 bt385.1 bt389.1 true)) else (foghornlaw30_MeterBits.j0 k a2 t373 t376 bt385.1 bt389.1 true)))))) = some r := H
 have A5 := Aside0.mk A50
 clear A50
 replace H := Option.bind_eq_some_iff.mp H
 obtain ⟨⟨t379, t380, t381⟩, A60, H⟩ := H
 replace H : ((foghornref30_Errors.f k l0 l1).bind fun bt382 => ((meter_Runs.f k t373 t376 a2).bind fun bt385 => ((foghornref30_Runs.f k l0 l1 a2).bind fun bt389 => (if t379 = bt382.1 then (if t380 = bt382.2.1 then (if t381 = bt382.2.2 then (if bt385.2 = bt389.2 then ((foghornlaw30_runs.f k bt385.1 bt389.1).bind fun t393 => (if t393 = true then ((foghornlaw30_kept.f k t373 l0).bind fun t394 => (if t394 = true then ((foghornlaw30_kept.f k t376 l1).bind fun t395 => (foghornlaw30_MeterBits.j0 k a2 t373 t376 bt385.1 bt389.1 (!t395))) else (foghornlaw30_MeterBits.j0 k a2 t373 t376 bt385.1 bt389.1 true))) else (foghornlaw30_MeterBits.j0 k a2 t373 t376 bt385.1 bt389.1 true))) else (foghornlaw30_MeterBits.j0 k a2 t373 t376 bt385.1 bt389.1 true)) else (foghornlaw30_MeterBits.j0 k a2 t373 t376 bt385.1 bt389.1 true)) else (foghornlaw30_MeterBits.j0 k a2 t373 t376 bt385.1 bt389.1 true)) else (foghornlaw30_MeterBits.j0 k a2 t373 t376 bt385.1 bt389.1 true))))) = some r := H
 have A6 := Aside0.mk A60
 clear A60
 replace H := Option.bind_eq_some_iff.mp H
 obtain ⟨⟨t382, t383, t384⟩, A70, H⟩ := H
 replace H : ((meter_Runs.f k t373 t376 a2).bind fun bt385 => ((foghornref30_Runs.f k l0 l1 a2).bind fun bt389 => (if t379 = t382 then (if t380 = t383 then (if t381 = t384 then (if bt385.2 = bt389.2 then ((foghornlaw30_runs.f k bt385.1 bt389.1).bind fun t393 => (if t393 = true then ((foghornlaw30_kept.f k t373 l0).bind fun t394 => (if t394 = true then ((foghornlaw30_kept.f k t376 l1).bind fun t395 => (foghornlaw30_MeterBits.j0 k a2 t373 t376 bt385.1 bt389.1 (!t395))) else (foghornlaw30_MeterBits.j0 k a2 t373 t376 bt385.1 bt389.1 true))) else (foghornlaw30_MeterBits.j0 k a2 t373 t376 bt385.1 bt389.1 true))) else (foghornlaw30_MeterBits.j0 k a2 t373 t376 bt385.1 bt389.1 true)) else (foghornlaw30_MeterBits.j0 k a2 t373 t376 bt385.1 bt389.1 true)) else (foghornlaw30_MeterBits.j0 k a2 t373 t376 bt385.1 bt389.1 true)) else (foghornlaw30_MeterBits.j0 k a2 t373 t376 bt385.1 bt389.1 true)))) = some r := H
 have A7 := Aside0.mk A70
 clear A70
 replace H := Option.bind_eq_some_iff.mp H
 obtain ⟨⟨t385, t386⟩, A80, H⟩ := H
 replace H : ((foghornref30_Runs.f k l0 l1 a2).bind fun bt389 => (if t379 = t382 then (if t380 = t383 then (if t381 = t384 then (if t386 = bt389.2 then ((foghornlaw30_runs.f k t385 bt389.1).bind fun t393 => (if t393 = true then ((foghornlaw30_kept.f k t373 l0).bind fun t394 => (if t394 = true then ((foghornlaw30_kept.f k t376 l1).bind fun t395 => (foghornlaw30_MeterBits.j0 k a2 t373 t376 t385 bt389.1 (!t395))) else (foghornlaw30_MeterBits.j0 k a2 t373 t376 t385 bt389.1 true))) else (foghornlaw30_MeterBits.j0 k a2 t373 t376 t385 bt389.1 true))) else (foghornlaw30_MeterBits.j0 k a2 t373 t376 t385 bt389.1 true)) else (foghornlaw30_MeterBits.j0 k a2 t373 t376 t385 bt389.1 true)) else (foghornlaw30_MeterBits.j0 k a2 t373 t376 t385 bt389.1 true)) else (foghornlaw30_MeterBits.j0 k a2 t373 t376 t385 bt389.1 true))) = some r := H
 have A8 := Aside0.mk A80
 clear A80
 replace H := Option.bind_eq_some_iff.mp H
 obtain ⟨⟨t389, t390⟩, A90, H⟩ := H
 replace H : (if t379 = t382 then (if t380 = t383 then (if t381 = t384 then (if t386 = t390 then ((foghornlaw30_runs.f k t385 t389).bind fun t393 => (if t393 = true then ((foghornlaw30_kept.f k t373 l0).bind fun t394 => (if t394 = true then ((foghornlaw30_kept.f k t376 l1).bind fun t395 => (foghornlaw30_MeterBits.j0 k a2 t373 t376 t385 t389 (!t395))) else (foghornlaw30_MeterBits.j0 k a2 t373 t376 t385 t389 true))) else (foghornlaw30_MeterBits.j0 k a2 t373 t376 t385 t389 true))) else (foghornlaw30_MeterBits.j0 k a2 t373 t376 t385 t389 true)) else (foghornlaw30_MeterBits.j0 k a2 t373 t376 t385 t389 true)) else (foghornlaw30_MeterBits.j0 k a2 t373 t376 t385 t389 true)) else (foghornlaw30_MeterBits.j0 k a2 t373 t376 t385 t389 true)) = some r := H
 have A9 := Aside0.mk A90
 clear A90
 have HC10 := Aside0.mk H
 clear H
 go_enter Try.func4, Try.ntmps4
 go_upto_region 7 with (first | ((with_reducible refine gate_callee (f := 31) rfl ?_); refine goesL_ (some 23) rfl rfl Try.func31 (by kernel_rfl) rfl #[.slice A0 l0.length c0] rfl (by (try simp only [List.map_toArray, List.map_cons, List.map_nil]); first | done | rfl | (simp only [List.length_drop, List.length_take]; rfl)) ?_; (with_reducible refine (foghornlaw30_lent.calls _ _ l0 t373 _ ?side1 ?side2 A4.out).mono ?_); (case side1 => repeat (first | exact HR0.out | (with_reducible refine Kd.C_alloc ?_ _) | (with_reducible refine Kd.C_drewN ?_ _) | (with_reducible refine Kd.C_drew ?_))); (case side2 => exact HC0.out); rintro e w11 ⟨v374, rfl, ho0, hb⟩; refine ⟨_, rfl, ?_⟩; have n0_ := Aside0.mk (Kd.U_lower ho0 (below_size (by repeat (first | (with_reducible first | exact HB.out | apply below_alloc | apply pw_below_drewN | apply below_drew1) | exact HB.out)))); have n1_ := Aside0.mk (below_step (by repeat (first | (with_reducible first | exact HB.out | apply below_alloc | apply pw_below_drewN | apply below_drew1) | exact HB.out)) hb); clear HB; have HO375 := n0_; have HB := n1_; clear n0_ n1_; (try clear hb); (try clear hb2); (try clear hk); (try clear hi); (try clear ho0)) | ((with_reducible refine gate_callee (f := 31) rfl ?_); refine goesL_ (some 25) rfl rfl Try.func31 (by kernel_rfl) rfl #[.slice A1 l1.length c1] rfl (by (try simp only [List.map_toArray, List.map_cons, List.map_nil]); first | done | rfl | (simp only [List.length_drop, List.length_take]; rfl)) ?_; (with_reducible refine (foghornlaw30_lent.calls _ _ l1 t376 _ ?side1 ?side2 A5.out).mono ?_); (case side1 => repeat (first | exact (Kd.C_below HR1.out HB.out) | (with_reducible refine Kd.C_alloc ?_ _) | (with_reducible refine Kd.C_drewN ?_ _) | (with_reducible refine Kd.C_drew ?_))); (case side2 => exact HC1.out); rintro e w12 ⟨v377, rfl, ho0, hb⟩; refine ⟨_, rfl, ?_⟩; have n0_ := Aside0.mk (Kd.U_elder' (by (with_reducible repeat (first | apply Kd.U_alloc | apply Kd.U_drewN | apply Kd.U_drew)); exact HO375.out) (Kd.U_base ho0) hb); have n1_ := Aside0.mk (Kd.U_lower (Kd.U_new' ho0 (Kd.U_lt (by (with_reducible repeat (first | apply Kd.U_alloc | apply Kd.U_drewN | apply Kd.U_drew)); exact HO375.out))) (below_size (by repeat (first | (with_reducible first | exact HB.out | apply below_alloc | apply pw_below_drewN | apply below_drew1) | exact HB.out)))); have n2_ := Aside0.mk (below_step (by repeat (first | (with_reducible first | exact HB.out | apply below_alloc | apply pw_below_drewN | apply below_drew1) | exact HB.out)) hb); clear HO375; clear HB; have HO375 := n0_; have HO378 := n1_; have HB := n2_; clear n0_ n1_ n2_; (try clear hb); (try clear hb2); (try clear hk); (try clear hi); (try clear ho0); obtain ⟨Ao13, co13, eo13⟩ := Kd.U_slice HO375.out; subst eo13; obtain ⟨Ao14, co14, eo14⟩ := Kd.U_slice HO378.out; subst eo14) | ((with_reducible refine gate_callee (f := 32) rfl ?_); refine goesL_ (some 29) rfl rfl Try.func32 (by kernel_rfl) rfl #[.slice Ao13 t373.length co13, .slice Ao14 t376.length co14] rfl (by (try simp only [List.map_toArray, List.map_cons, List.map_nil]); first | done | rfl | (simp only [List.length_drop, List.length_take]; rfl)) ?_; (with_reducible refine (meter_Errors.calls k _ _ t373 _ _ t376 t379 t380 t381 _ ?side1 ?side2 ?side3 ?side4 A6.out).mono ?_); (case side1 => repeat (first | exact (Kd.U_reads' HO375.out).2.2 | (with_reducible refine Kd.C_alloc ?_ _) | (with_reducible refine Kd.C_drewN ?_ _) | (with_reducible refine Kd.C_drew ?_))); (case side2 => exact (Kd.U_reads' HO375.out).2.1); (case side3 => repeat (first | exact (Kd.U_reads' HO378.out).2.2 | (with_reducible refine Kd.C_alloc ?_ _) | (with_reducible refine Kd.C_drewN ?_ _) | (with_reducible refine Kd.C_drew ?_))); (case side4 => exact (Kd.U_reads' HO378.out).2.1); rintro e w' ⟨rfl, ⟨nd, rfl⟩⟩; refine ⟨_, rfl, ?_⟩) | ((with_reducible refine gate_callee (f := 33) rfl ?_); refine goesL_ (some 36) rfl rfl Try.func33 (by kernel_rfl) rfl #[.slice A0 l0.length c0, .slice A1 l1.length c1] rfl (by (try simp only [List.map_toArray, List.map_cons, List.map_nil]); first | done | rfl | (simp only [List.length_drop, List.length_take]; rfl)) ?_; (with_reducible refine (foghornref30_Errors.calls k _ _ l0 _ _ l1 t382 t383 t384 _ ?side1 ?side2 ?side3 ?side4 A7.out).mono ?_); (case side1 => repeat (first | exact (Kd.C_below HR0.out (by repeat (first | (with_reducible first | exact HB.out | apply below_alloc | apply pw_below_drewN | apply below_drew1) | exact HB.out))) | (with_reducible refine Kd.C_alloc ?_ _) | (with_reducible refine Kd.C_drewN ?_ _) | (with_reducible refine Kd.C_drew ?_))); (case side2 => exact HC0.out); (case side3 => repeat (first | exact (Kd.C_below HR1.out (by repeat (first | (with_reducible first | exact HB.out | apply below_alloc | apply pw_below_drewN | apply below_drew1) | exact HB.out))) | (with_reducible refine Kd.C_alloc ?_ _) | (with_reducible refine Kd.C_drewN ?_ _) | (with_reducible refine Kd.C_drew ?_))); (case side4 => exact HC1.out); rintro e w' ⟨rfl, ⟨nd, rfl⟩⟩; refine ⟨_, rfl, ?_⟩) | ((with_reducible refine gate_callee (f := 34) rfl ?_); refine goesL_ (some 44) rfl rfl Try.func34 (by kernel_rfl) rfl #[.slice Ao13 t373.length co13, .slice Ao14 t376.length co14, .int .i64 a2] rfl (by (try simp only [List.map_toArray, List.map_cons, List.map_nil]); first | done | rfl | (simp only [List.length_drop, List.length_take]; rfl)) ?_; (with_reducible refine (meter_Runs.calls k _ _ t373 _ _ t376 a2 t385 t386 _ ?side1 ?side2 ?side3 ?side4 A8.out).mono ?_); (case side1 => repeat (first | exact (Kd.U_reads' HO375.out).2.2 | (with_reducible refine Kd.C_alloc ?_ _) | (with_reducible refine Kd.C_drewN ?_ _) | (with_reducible refine Kd.C_drew ?_))); (case side2 => exact (Kd.U_reads' HO375.out).2.1); (case side3 => repeat (first | exact (Kd.U_reads' HO378.out).2.2 | (with_reducible refine Kd.C_alloc ?_ _) | (with_reducible refine Kd.C_drewN ?_ _) | (with_reducible refine Kd.C_drew ?_))); (case side4 => exact (Kd.U_reads' HO378.out).2.1); rintro e w15 ⟨v387, rfl, ho0, hb⟩; refine ⟨_, rfl, ?_⟩; have n0_ := Aside0.mk (Kd.U_below (by (with_reducible repeat (first | apply Kd.U_alloc | apply Kd.U_drewN | apply Kd.U_drew)); exact HO375.out) hb); have n1_ := Aside0.mk (Kd.U_below (by (with_reducible repeat (first | apply Kd.U_alloc | apply Kd.U_drewN | apply Kd.U_drew)); exact HO378.out) hb); have n2_ := Aside0.mk (Kd.R_lower ho0 (below_size (by repeat (first | (with_reducible first | exact HB.out | apply below_alloc | apply pw_below_drewN | apply below_drew1) | exact HB.out)))); have n3_ := Aside0.mk (below_step (by repeat (first | (with_reducible first | exact HB.out | apply below_alloc | apply pw_below_drewN | apply below_drew1) | exact HB.out)) hb); clear HO375; clear HO378; clear HB; have HO375 := n0_; have HO378 := n1_; have HO388 := n2_; have HB := n3_; clear n0_ n1_ n2_ n3_; (try clear hb); (try clear hb2); (try clear hk); (try clear hi); (try clear ho0)) | ((with_reducible refine gate_callee (f := 35) rfl ?_); refine goesL_ (some 51) rfl rfl Try.func35 (by kernel_rfl) rfl #[.slice A0 l0.length c0, .slice A1 l1.length c1, .int .i64 a2] rfl (by (try simp only [List.map_toArray, List.map_cons, List.map_nil]); first | done | rfl | (simp only [List.length_drop, List.length_take]; rfl)) ?_; (with_reducible refine (foghornref30_Runs.calls k _ _ l0 _ _ l1 a2 t389 t390 _ ?side1 ?side2 ?side3 ?side4 A9.out).mono ?_); (case side1 => repeat (first | exact (Kd.C_below HR0.out HB.out) | (with_reducible refine Kd.C_alloc ?_ _) | (with_reducible refine Kd.C_drewN ?_ _) | (with_reducible refine Kd.C_drew ?_))); (case side2 => exact HC0.out); (case side3 => repeat (first | exact (Kd.C_below HR1.out HB.out) | (with_reducible refine Kd.C_alloc ?_ _) | (with_reducible refine Kd.C_drewN ?_ _) | (with_reducible refine Kd.C_drew ?_))); (case side4 => exact HC1.out); rintro e w16 ⟨v391, rfl, ho0, hb⟩; refine ⟨_, rfl, ?_⟩; have n0_ := Aside0.mk (Kd.U_below (by (with_reducible repeat (first | apply Kd.U_alloc | apply Kd.U_drewN | apply Kd.U_drew)); exact HO375.out) hb); have n1_ := Aside0.mk (Kd.U_below (by (with_reducible repeat (first | apply Kd.U_alloc | apply Kd.U_drewN | apply Kd.U_drew)); exact HO378.out) hb); have n2_ := Aside0.mk (Kd.R_below (by (with_reducible repeat (first | apply Kd.R_alloc | apply Kd.R_drewN | apply Kd.R_drew)); exact HO388.out) hb); have n3_ := Aside0.mk (Kd.R_lower ho0 (below_size (by repeat (first | (with_reducible first | exact HB.out | apply below_alloc | apply pw_below_drewN | apply below_drew1) | exact HB.out)))); have n4_ := Aside0.mk (below_step (by repeat (first | (with_reducible first | exact HB.out | apply below_alloc | apply pw_below_drewN | apply below_drew1) | exact HB.out)) hb); clear HO375; clear HO378; clear HO388; clear HB; have HO375 := n0_; have HO378 := n1_; have HO388 := n2_; have HO392 := n3_; have HB := n4_; clear n0_ n1_ n2_ n3_ n4_; (try clear hb); (try clear hb2); (try clear hk); (try clear hi); (try clear ho0)))
 (try simp only [Act.put, List.setIfInBounds_toArray, List.set_cons_zero, List.set_cons_succ])
 go_cut [89] (fun v89 wc => ∃ (kq : Nat) (x89_9 : Bool), v89 = .bool x89_9 ∧ Aside0 (foghornlaw30_MeterBits.j0 kq a2 t373 t376 t385 t389 x89_9 = some r) ∧ Aside0 (kq ≤ k) ∧ Aside0 (Kd.U (Kd.bool, true) 4 wc w.heap.size (fun k_ => some k_ ≠ ((.slice Ao14 t376.length co14) : Value).ownBlock) (.slice Ao13 t373.length co13) t373) ∧ Aside0 (Kd.U (Kd.bool, true) 4 wc w.heap.size (fun k_ => some k_ ≠ ((.slice Ao13 t373.length co13) : Value).ownBlock) (.slice Ao14 t376.length co14) t376) ∧ Aside0 (Kd.R k49 49 wc w.heap.size (fun _ => True) v387 t385) ∧ Aside0 (Kd.R k183 183 wc w.heap.size (fun _ => True) v391 t389) ∧ Aside0 (Below w.heap.size w wc))
 case first =>
  have H := HC10.out
  clear HC10
  by_cases c17 : t379 = t382
  ·rw [if_pos c17] at H
   have c17b0 : (t379 == t382) = true := beq_iff_eq.mpr c17
   have c17b1 : (t379 != t382) = false := bne_eq_false_iff_eq.mpr c17
   clear c17
   (first | rw [c17b0] | (simp only [i64_w, i32_w]; rw [c17b0]) | skip)
   by_cases c18 : t380 = t383
   ·rw [if_pos c18] at H
    have c18b0 : (t380 == t383) = true := beq_iff_eq.mpr c18
    have c18b1 : (t380 != t383) = false := bne_eq_false_iff_eq.mpr c18
    clear c18
    by_cases c19 : t381 = t384
    ·rw [if_pos c19] at H
     have c19b0 : (t381 == t384) = true := beq_iff_eq.mpr c19
     have c19b1 : (t381 != t384) = false := bne_eq_false_iff_eq.mpr c19
     clear c19
     by_cases c20 : t386 = t390
     ·rw [if_pos c20] at H
      have c20b0 : (t386 == t390) = true := beq_iff_eq.mpr c20
      have c20b1 : (t386 != t390) = false := bne_eq_false_iff_eq.mpr c20
      clear c20
      replace H := Option.bind_eq_some_iff.mp H
      obtain ⟨t393, A210, H⟩ := H
      replace H : (if t393 = true then ((foghornlaw30_kept.f k t373 l0).bind fun t394 => (if t394 = true then ((foghornlaw30_kept.f k t376 l1).bind fun t395 => (foghornlaw30_MeterBits.j0 k a2 t373 t376 t385 t389 (!t395))) else (foghornlaw30_MeterBits.j0 k a2 t373 t376 t385 t389 true))) else (foghornlaw30_MeterBits.j0 k a2 t373 t376 t385 t389 true)) = some r := H
      have A21 := Aside0.mk A210
      clear A210
      by_cases c22 : t393 = true
      ·subst c22
       have H1 : ((foghornlaw30_kept.f k t373 l0).bind fun t394 => (if t394 = true then ((foghornlaw30_kept.f k t376 l1).bind fun t395 => (foghornlaw30_MeterBits.j0 k a2 t373 t376 t385 t389 (!t395))) else (foghornlaw30_MeterBits.j0 k a2 t373 t376 t385 t389 true))) = some r := by rw [if_pos rfl] at H; exact H
       clear H
       have H := H1
       clear H1
       replace H := Option.bind_eq_some_iff.mp H
       obtain ⟨t394, A230, H⟩ := H
       replace H : (if t394 = true then ((foghornlaw30_kept.f k t376 l1).bind fun t395 => (foghornlaw30_MeterBits.j0 k a2 t373 t376 t385 t389 (!t395))) else (foghornlaw30_MeterBits.j0 k a2 t373 t376 t385 t389 true)) = some r := H
       have A23 := Aside0.mk A230
       clear A230
       by_cases c24 : t394 = true
       ·subst c24
        have H1 : ((foghornlaw30_kept.f k t376 l1).bind fun t395 => (foghornlaw30_MeterBits.j0 k a2 t373 t376 t385 t389 (!t395))) = some r := by rw [if_pos rfl] at H; exact H
        clear H
        have H := H1
        clear H1
        replace H := Option.bind_eq_some_iff.mp H
        obtain ⟨t395, A250, H⟩ := H
        replace H : (foghornlaw30_MeterBits.j0 k a2 t373 t376 t385 t389 (!t395)) = some r := H
        have A25 := Aside0.mk A250
        clear A250
        as_aux_lemma =>
         have H' := Aside0.mk H
         clear H
         obtain ⟨Ao26, co26, eo26⟩ := Kd.R_slice HO388.out
         subst eo26
         obtain ⟨Ao27, co27, eo27⟩ := Kd.R_slice HO392.out
         subst eo27
         go_wp2_with (first | (go_at_call 36; (with_reducible refine (foghornlaw30_runs.calls k _ _ t385 _ _ t389 true _ ?side1 ?side2 ?side3 ?side4 A21.out).mono ?_); (case side1 => repeat (first | exact (Kd.R_reads' HO388.out).2.2 | (with_reducible refine Kd.C_alloc ?_ _) | (with_reducible refine Kd.C_drewN ?_ _) | (with_reducible refine Kd.C_drew ?_))); (case side2 => exact (Kd.R_reads' HO388.out).2.1); (case side3 => repeat (first | exact (Kd.R_reads' HO392.out).2.2 | (with_reducible refine Kd.C_alloc ?_ _) | (with_reducible refine Kd.C_drewN ?_ _) | (with_reducible refine Kd.C_drew ?_))); (case side4 => exact (Kd.R_reads' HO392.out).2.1); rintro e w' ⟨rfl, ⟨nd, rfl⟩⟩) | (go_at_call 37; (with_reducible refine (foghornlaw30_kept.calls k _ _ t373 _ _ l0 true _ ?side1 ?side2 ?side3 ?side4 A23.out ?sideM).mono ?_); (case sideM => first | exact Kd.U_mark_bool HO375.out | exact Kd.U_mark_bool (Kd.U_drewN HO375.out _) | (apply Kd.U_mark_bool (z := true); (with_reducible repeat (first | apply Kd.U_alloc | apply Kd.U_drewN | apply Kd.U_drew)); exact HO375.out)); (case side1 => repeat (first | exact (Kd.U_reads' HO375.out).2.2 | (with_reducible refine Kd.C_alloc ?_ _) | (with_reducible refine Kd.C_drewN ?_ _) | (with_reducible refine Kd.C_drew ?_))); (case side2 => exact (Kd.U_reads' HO375.out).2.1); (case side3 => repeat (first | exact (Kd.C_below HR0.out (by repeat (first | (with_reducible first | exact HB.out | apply below_alloc | apply pw_below_drewN | apply below_drew1) | exact HB.out))) | (with_reducible refine Kd.C_alloc ?_ _) | (with_reducible refine Kd.C_drewN ?_ _) | (with_reducible refine Kd.C_drew ?_))); (case side4 => exact HC0.out); rintro e w' ⟨rfl, ⟨nd, rfl⟩⟩) | (go_at_call 37; (with_reducible refine (foghornlaw30_kept.calls k _ _ t376 _ _ l1 t395 _ ?side1 ?side2 ?side3 ?side4 A25.out ?sideM).mono ?_); (case sideM => first | exact Kd.U_mark_bool HO378.out | exact Kd.U_mark_bool (Kd.U_drewN HO378.out _) | (apply Kd.U_mark_bool (z := true); (with_reducible repeat (first | apply Kd.U_alloc | apply Kd.U_drewN | apply Kd.U_drew)); exact HO378.out)); (case side1 => repeat (first | exact (Kd.U_reads' HO378.out).2.2 | (with_reducible refine Kd.C_alloc ?_ _) | (with_reducible refine Kd.C_drewN ?_ _) | (with_reducible refine Kd.C_drew ?_))); (case side2 => exact (Kd.U_reads' HO378.out).2.1); (case side3 => repeat (first | exact (Kd.C_below HR1.out (by repeat (first | (with_reducible first | exact HB.out | apply below_alloc | apply pw_below_drewN | apply below_drew1) | exact HB.out))) | (with_reducible refine Kd.C_alloc ?_ _) | (with_reducible refine Kd.C_drewN ?_ _) | (with_reducible refine Kd.C_drew ?_))); (case side4 => exact HC1.out); rintro e w' ⟨rfl, ⟨nd, rfl⟩⟩))
         go_meet
         case rel => exact ⟨_, (!t395), (by first | rfl | (simp; done) | (simp [*]; done)), H', ⟨by first | omega | exact Nat.le_refl _⟩, ⟨by (with_reducible repeat (first | apply Kd.U_alloc | apply Kd.U_drewN | apply Kd.U_drew)); exact Kd.U_mono HO375.out (fun _ hk => hk.2)⟩, ⟨by (with_reducible repeat (first | apply Kd.U_alloc | apply Kd.U_drewN | apply Kd.U_drew)); exact Kd.U_mono HO378.out (fun _ hk => hk.2)⟩, ⟨by (with_reducible repeat (first | apply Kd.R_alloc | apply Kd.R_drewN | apply Kd.R_drew)); exact HO388.out⟩, ⟨by (with_reducible repeat (first | apply Kd.R_alloc | apply Kd.R_drewN | apply Kd.R_drew)); exact HO392.out⟩, ⟨by repeat (first | (with_reducible first | exact HB.out | apply below_alloc | apply pw_below_drewN | apply below_drew1) | exact HB.out)⟩⟩
       ·replace c24 := Bool.eq_false_iff.mpr c24
        subst c24
        have H1 : (foghornlaw30_MeterBits.j0 k a2 t373 t376 t385 t389 true) = some r := by rw [if_neg (show ¬ (false = true) by decide)] at H; exact H
        clear H
        have H := H1
        clear H1
        as_aux_lemma =>
         have H' := Aside0.mk H
         clear H
         obtain ⟨Ao28, co28, eo28⟩ := Kd.R_slice HO388.out
         subst eo28
         obtain ⟨Ao29, co29, eo29⟩ := Kd.R_slice HO392.out
         subst eo29
         go_wp2_with (first | (go_at_call 36; (with_reducible refine (foghornlaw30_runs.calls k _ _ t385 _ _ t389 true _ ?side1 ?side2 ?side3 ?side4 A21.out).mono ?_); (case side1 => repeat (first | exact (Kd.R_reads' HO388.out).2.2 | (with_reducible refine Kd.C_alloc ?_ _) | (with_reducible refine Kd.C_drewN ?_ _) | (with_reducible refine Kd.C_drew ?_))); (case side2 => exact (Kd.R_reads' HO388.out).2.1); (case side3 => repeat (first | exact (Kd.R_reads' HO392.out).2.2 | (with_reducible refine Kd.C_alloc ?_ _) | (with_reducible refine Kd.C_drewN ?_ _) | (with_reducible refine Kd.C_drew ?_))); (case side4 => exact (Kd.R_reads' HO392.out).2.1); rintro e w' ⟨rfl, ⟨nd, rfl⟩⟩) | (go_at_call 37; (with_reducible refine (foghornlaw30_kept.calls k _ _ t373 _ _ l0 false _ ?side1 ?side2 ?side3 ?side4 A23.out ?sideM).mono ?_); (case sideM => first | exact Kd.U_mark_bool HO375.out | exact Kd.U_mark_bool (Kd.U_drewN HO375.out _) | (apply Kd.U_mark_bool (z := true); (with_reducible repeat (first | apply Kd.U_alloc | apply Kd.U_drewN | apply Kd.U_drew)); exact HO375.out)); (case side1 => repeat (first | exact (Kd.U_reads' HO375.out).2.2 | (with_reducible refine Kd.C_alloc ?_ _) | (with_reducible refine Kd.C_drewN ?_ _) | (with_reducible refine Kd.C_drew ?_))); (case side2 => exact (Kd.U_reads' HO375.out).2.1); (case side3 => repeat (first | exact (Kd.C_below HR0.out (by repeat (first | (with_reducible first | exact HB.out | apply below_alloc | apply pw_below_drewN | apply below_drew1) | exact HB.out))) | (with_reducible refine Kd.C_alloc ?_ _) | (with_reducible refine Kd.C_drewN ?_ _) | (with_reducible refine Kd.C_drew ?_))); (case side4 => exact HC0.out); rintro e w' ⟨rfl, ⟨nd, rfl⟩⟩))
         go_meet
         case rel => exact ⟨_, (true), (by first | rfl | (simp; done) | (simp [*]; done)), H', ⟨by first | omega | exact Nat.le_refl _⟩, ⟨by (with_reducible repeat (first | apply Kd.U_alloc | apply Kd.U_drewN | apply Kd.U_drew)); exact Kd.U_mono HO375.out (fun _ hk => hk.2)⟩, ⟨by (with_reducible repeat (first | apply Kd.U_alloc | apply Kd.U_drewN | apply Kd.U_drew)); exact Kd.U_mono HO378.out (fun _ hk => hk.2)⟩, ⟨by (with_reducible repeat (first | apply Kd.R_alloc | apply Kd.R_drewN | apply Kd.R_drew)); exact HO388.out⟩, ⟨by (with_reducible repeat (first | apply Kd.R_alloc | apply Kd.R_drewN | apply Kd.R_drew)); exact HO392.out⟩, ⟨by repeat (first | (with_reducible first | exact HB.out | apply below_alloc | apply pw_below_drewN | apply below_drew1) | exact HB.out)⟩⟩
      ·replace c22 := Bool.eq_false_iff.mpr c22
       subst c22
       have H1 : (foghornlaw30_MeterBits.j0 k a2 t373 t376 t385 t389 true) = some r := by rw [if_neg (show ¬ (false = true) by decide)] at H; exact H
       clear H
       have H := H1
       clear H1
       as_aux_lemma =>
        have H' := Aside0.mk H
        clear H
        obtain ⟨Ao30, co30, eo30⟩ := Kd.R_slice HO388.out
        subst eo30
        obtain ⟨Ao31, co31, eo31⟩ := Kd.R_slice HO392.out
        subst eo31
        go_wp2_with (first | (go_at_call 36; (with_reducible refine (foghornlaw30_runs.calls k _ _ t385 _ _ t389 false _ ?side1 ?side2 ?side3 ?side4 A21.out).mono ?_); (case side1 => repeat (first | exact (Kd.R_reads' HO388.out).2.2 | (with_reducible refine Kd.C_alloc ?_ _) | (with_reducible refine Kd.C_drewN ?_ _) | (with_reducible refine Kd.C_drew ?_))); (case side2 => exact (Kd.R_reads' HO388.out).2.1); (case side3 => repeat (first | exact (Kd.R_reads' HO392.out).2.2 | (with_reducible refine Kd.C_alloc ?_ _) | (with_reducible refine Kd.C_drewN ?_ _) | (with_reducible refine Kd.C_drew ?_))); (case side4 => exact (Kd.R_reads' HO392.out).2.1); rintro e w' ⟨rfl, ⟨nd, rfl⟩⟩))
        go_meet
        case rel => exact ⟨_, (true), (by first | rfl | (simp; done) | (simp [*]; done)), H', ⟨by first | omega | exact Nat.le_refl _⟩, ⟨by (with_reducible repeat (first | apply Kd.U_alloc | apply Kd.U_drewN | apply Kd.U_drew)); exact Kd.U_mono HO375.out (fun _ hk => hk.2)⟩, ⟨by (with_reducible repeat (first | apply Kd.U_alloc | apply Kd.U_drewN | apply Kd.U_drew)); exact Kd.U_mono HO378.out (fun _ hk => hk.2)⟩, ⟨by (with_reducible repeat (first | apply Kd.R_alloc | apply Kd.R_drewN | apply Kd.R_drew)); exact HO388.out⟩, ⟨by (with_reducible repeat (first | apply Kd.R_alloc | apply Kd.R_drewN | apply Kd.R_drew)); exact HO392.out⟩, ⟨by repeat (first | (with_reducible first | exact HB.out | apply below_alloc | apply pw_below_drewN | apply below_drew1) | exact HB.out)⟩⟩
     ·rw [if_neg c20] at H
      have c20b0 : (t386 == t390) = false := beq_eq_false_iff_ne.mpr c20
      have c20b1 : (t386 != t390) = true := bne_iff_ne.mpr c20
      as_aux_lemma =>
       have H' := Aside0.mk H
       clear H
       go_wp2
       go_meet
       case rel => exact ⟨_, (true), (by first | rfl | (simp; done) | (simp [*]; done)), H', ⟨by first | omega | exact Nat.le_refl _⟩, ⟨by (with_reducible repeat (first | apply Kd.U_alloc | apply Kd.U_drewN | apply Kd.U_drew)); exact Kd.U_mono HO375.out (fun _ hk => hk.2)⟩, ⟨by (with_reducible repeat (first | apply Kd.U_alloc | apply Kd.U_drewN | apply Kd.U_drew)); exact Kd.U_mono HO378.out (fun _ hk => hk.2)⟩, ⟨by (with_reducible repeat (first | apply Kd.R_alloc | apply Kd.R_drewN | apply Kd.R_drew)); exact HO388.out⟩, ⟨by (with_reducible repeat (first | apply Kd.R_alloc | apply Kd.R_drewN | apply Kd.R_drew)); exact HO392.out⟩, ⟨by repeat (first | (with_reducible first | exact HB.out | apply below_alloc | apply pw_below_drewN | apply below_drew1) | exact HB.out)⟩⟩
    ·rw [if_neg c19] at H
     have c19b0 : (t381 == t384) = false := beq_eq_false_iff_ne.mpr c19
     have c19b1 : (t381 != t384) = true := bne_iff_ne.mpr c19
     as_aux_lemma =>
      have H' := Aside0.mk H
      clear H
      go_wp2
      go_meet
      case rel => exact ⟨_, (true), (by first | rfl | (simp; done) | (simp [*]; done)), H', ⟨by first | omega | exact Nat.le_refl _⟩, ⟨by (with_reducible repeat (first | apply Kd.U_alloc | apply Kd.U_drewN | apply Kd.U_drew)); exact Kd.U_mono HO375.out (fun _ hk => hk.2)⟩, ⟨by (with_reducible repeat (first | apply Kd.U_alloc | apply Kd.U_drewN | apply Kd.U_drew)); exact Kd.U_mono HO378.out (fun _ hk => hk.2)⟩, ⟨by (with_reducible repeat (first | apply Kd.R_alloc | apply Kd.R_drewN | apply Kd.R_drew)); exact HO388.out⟩, ⟨by (with_reducible repeat (first | apply Kd.R_alloc | apply Kd.R_drewN | apply Kd.R_drew)); exact HO392.out⟩, ⟨by repeat (first | (with_reducible first | exact HB.out | apply below_alloc | apply pw_below_drewN | apply below_drew1) | exact HB.out)⟩⟩
   ·rw [if_neg c18] at H
    have c18b0 : (t380 == t383) = false := beq_eq_false_iff_ne.mpr c18
    have c18b1 : (t380 != t383) = true := bne_iff_ne.mpr c18
    as_aux_lemma =>
     have H' := Aside0.mk H
     clear H
     go_wp2
     go_meet
     case rel => exact ⟨_, (true), (by first | rfl | (simp; done) | (simp [*]; done)), H', ⟨by first | omega | exact Nat.le_refl _⟩, ⟨by (with_reducible repeat (first | apply Kd.U_alloc | apply Kd.U_drewN | apply Kd.U_drew)); exact Kd.U_mono HO375.out (fun _ hk => hk.2)⟩, ⟨by (with_reducible repeat (first | apply Kd.U_alloc | apply Kd.U_drewN | apply Kd.U_drew)); exact Kd.U_mono HO378.out (fun _ hk => hk.2)⟩, ⟨by (with_reducible repeat (first | apply Kd.R_alloc | apply Kd.R_drewN | apply Kd.R_drew)); exact HO388.out⟩, ⟨by (with_reducible repeat (first | apply Kd.R_alloc | apply Kd.R_drewN | apply Kd.R_drew)); exact HO392.out⟩, ⟨by repeat (first | (with_reducible first | exact HB.out | apply below_alloc | apply pw_below_drewN | apply below_drew1) | exact HB.out)⟩⟩
  ·rw [if_neg c17] at H
   have c17b0 : (t379 == t382) = false := beq_eq_false_iff_ne.mpr c17
   have c17b1 : (t379 != t382) = true := bne_iff_ne.mpr c17
   (first | rw [c17b0] | (simp only [i64_w, i32_w]; rw [c17b0]) | skip)
   as_aux_lemma =>
    have H' := Aside0.mk H
    clear H
    go_wp2
    go_meet
    case rel => exact ⟨_, (true), (by first | rfl | (simp; done) | (simp [*]; done)), H', ⟨by first | omega | exact Nat.le_refl _⟩, ⟨by (with_reducible repeat (first | apply Kd.U_alloc | apply Kd.U_drewN | apply Kd.U_drew)); exact Kd.U_mono HO375.out (fun _ hk => hk.2)⟩, ⟨by (with_reducible repeat (first | apply Kd.U_alloc | apply Kd.U_drewN | apply Kd.U_drew)); exact Kd.U_mono HO378.out (fun _ hk => hk.2)⟩, ⟨by (with_reducible repeat (first | apply Kd.R_alloc | apply Kd.R_drewN | apply Kd.R_drew)); exact HO388.out⟩, ⟨by (with_reducible repeat (first | apply Kd.R_alloc | apply Kd.R_drewN | apply Kd.R_drew)); exact HO392.out⟩, ⟨by repeat (first | (with_reducible first | exact HB.out | apply below_alloc | apply pw_below_drewN | apply below_drew1) | exact HB.out)⟩⟩
 case rest =>
  clear HC10
  try clear c1
  try clear c2
  try clear p2
  try clear c3
  try clear c4
  try clear c17
  try clear c17b0
  try clear c17b1
  try clear c18
  try clear c18b0
  try clear c18b1
  try clear c19
  try clear c19b0
  try clear c19b1
  try clear c20
  try clear c20b0
  try clear c20b1
  try clear c22
  try clear c24
  try clear c31
  obtain ⟨kq, x89_9, rfl, HA, HJ9, HO_7, HO_8, HO_15, HO_17, HB⟩ := hcut
  cases kq with
  | zero => exact absurd HA.out (by simp [foghornlaw30_MeterBits.j0])
  | succ kj9 =>
   have H := HA.out
   clear HA
   simp only [foghornlaw30_MeterBits.j0] at H
   by_cases c32 : x89_9 = true
   ·subst c32
    have H1 : (some false) = some r := by rw [if_pos rfl] at H; exact H
    clear H
    have H := H1
    clear H1
    as_aux_lemma =>
     exact absurd ((Option.some.inj H).trans HQ_.out) (by decide)
   ·replace c32 := Bool.eq_false_iff.mpr c32
    subst c32
    have H1 : (foghornlaw30_MeterBits.l0 kj9 a2 t373 t376 t385 t389 0) = some r := by rw [if_neg (show ¬ (false = true) by decide)] at H; exact H
    clear H
    have H := H1
    clear H1
    have H' := Aside0.mk H
    clear H
    go_wp2
    go_loopg [19] kj9 (fun kq v19 w' => ∃ (x15_2 : List (S49)) (x19_2 : Int), v19 = .int .i64 x19_2 ∧ Aside0 (foghornlaw30_MeterBits.l0 kq a2 t373 t376 x15_2 t389 x19_2 = some r) ∧ Aside0 (kq ≤ kj9) ∧ Aside0 (Kd.U (Kd.bool, true) 4 w' w.heap.size (fun k_ => some k_ ≠ ((.slice Ao14 t376.length co14) : Value).ownBlock) (.slice Ao13 t373.length co13) t373) ∧ Aside0 (Kd.U (Kd.bool, true) 4 w' w.heap.size (fun k_ => some k_ ≠ ((.slice Ao13 t373.length co13) : Value).ownBlock) (.slice Ao14 t376.length co14) t376) ∧ Aside0 (Kd.R k49 49 w' w.heap.size (fun _ => True) v387 x15_2) ∧ Aside0 (Kd.R k183 183 w' w.heap.size (fun _ => True) v391 t389) ∧ Aside0 (Below w.heap.size w w'))
    case atStart => exact ⟨(t385), (0), (by first | rfl | (simp; done) | (simp [*]; done)), H', ⟨Nat.le_refl _⟩, ⟨by (with_reducible repeat (first | apply Kd.U_alloc | apply Kd.U_drewN | apply Kd.U_drew)); exact HO_7.out⟩, ⟨by (with_reducible repeat (first | apply Kd.U_alloc | apply Kd.U_drewN | apply Kd.U_drew)); exact HO_8.out⟩, ⟨by (with_reducible repeat (first | apply Kd.R_alloc | apply Kd.R_drewN | apply Kd.R_drew)); exact HO_15.out⟩, ⟨by (with_reducible repeat (first | apply Kd.R_alloc | apply Kd.R_drewN | apply Kd.R_drew)); exact HO_17.out⟩, ⟨by repeat (first | (with_reducible first | exact HB.out | apply below_alloc | apply pw_below_drewN | apply below_drew1) | exact HB.out)⟩⟩
    case round =>
     clear H'
     try clear c1
     try clear c2
     try clear p2
     try clear c3
     try clear c4
     try clear c17
     try clear c17b0
     try clear c17b1
     try clear c18
     try clear c18b0
     try clear c18b1
     try clear c19
     try clear c19b0
     try clear c19b1
     try clear c20
     try clear c20b0
     try clear c20b1
     try clear c22
     try clear c24
     try clear c31
     try clear c32
     try clear p2
     obtain ⟨x15_2, x19_2, rfl, HA, HK2, HO_7, HO_8, HO_15, HO_17, HB⟩ := hrel
     cases gk with
     | zero => exact absurd HA.out (by simp [foghornlaw30_MeterBits.l0])
     | succ k2 =>
      have H := HA.out
      clear HA
      simp only [foghornlaw30_MeterBits.l0] at H
      by_cases c33 : x19_2 < (x15_2.length : Int)
      ·rw [if_pos c33] at H
       have c33b0 : decide (x19_2 < (x15_2.length : Int)) = true := decide_eq_true c33
       clear c33
       by_cases c34 : 0 ≤ x19_2
       ·rw [if_pos c34] at H
        have c34b0 : decide (0 ≤ x19_2) = true := decide_eq_true c34
        clear c34
        obtain ⟨y396, hy396⟩ : ∃ y_ : List (S49), y_ = (x15_2.set (x19_2 : Int).toNat (⟨(-1), (rd_T49 x15_2 x19_2).f1, (rd_T49 x15_2 x19_2).f2⟩ : S49)) := ⟨_, rfl⟩
        replace H : (foghornlaw30_MeterBits.l0 k2 a2 t373 t376 y396 t389 (wrap64 (x19_2 + 1))) = some r := by first | (rw [hy396]; with_reducible exact H) | (have H2_ := (Option.bind_some _ _).symm.trans H; rw [hy396]; with_reducible exact H2_) | (have H2_ := (Option.bind_some _ _).symm.trans H; with_reducible exact H2_) | with_reducible exact H | (rw [hy396]; exact H) | exact H
        have Ny396 := Aside0.mk hy396
        clear hy396
        as_aux_lemma =>
         have H' := Aside0.mk H
         clear H
         obtain ⟨Ao36, co36, eo36⟩ := Kd.R_slice HO_15.out
         subst eo36
         have p35 : 0 ≤ (x19_2 : Int) := of_decide_eq_true (by first | (with_reducible assumption) | assumption)
         have q35 : (x19_2 : Int) < ((x15_2.length : Int) : Int) := of_decide_eq_true (by first | (with_reducible assumption) | assumption)
         obtain ⟨go35, co35, eo35, gb35, gl35, cl35, HG35⟩ := Kd.R_form HO_15.out (by omega)
         (first | cases eo35 | (injection eo35 with ea_ en_ ec_; (first | subst ea_ | (injection ea_ with ea_; subst ea_)); subst ec_; clear en_))
         have GB35 := Aside0.mk gb35
         have GG35 := Aside0.mk HG35
         clear gb35 gl35 HG35
         obtain ⟨ce35, hcl35, hM35, hcc35, hfr35⟩ := Kd.R_elem HO_15.out z49 (x19_2 : Int) p35 q35
         obtain rfl := k49_openM hM35
         have hx35_0 : wr.cell? ⟨go35, (x19_2 : Int).toNat * 3, none⟩ = some (.int .i64 ((rd_T49 x15_2 x19_2).f0)) := hcc35 0 _ rfl
         have hx35_1 : wr.cell? ⟨go35, (x19_2 : Int).toNat * 3 + 1, none⟩ = some (.int .i64 ((rd_T49 x15_2 x19_2).f1)) := hcc35 1 _ rfl
         have hx35_2 : wr.cell? ⟨go35, (x19_2 : Int).toNat * 3 + 2, none⟩ = some (.int .i64 ((rd_T49 x15_2 x19_2).f2)) := hcc35 2 _ rfl
         have hf35_0 : wr.frozen? ⟨go35, (x19_2 : Int).toNat * 3, none⟩ = false := hfr35 0
         have hf35_1 : wr.frozen? ⟨go35, (x19_2 : Int).toNat * 3 + 1, none⟩ = false := hfr35 1
         have hf35_2 : wr.frozen? ⟨go35, (x19_2 : Int).toNat * 3 + 2, none⟩ = false := hfr35 2
         clear hcl35 hcc35 hfr35 hM35
         replace p35 := eq_true p35
         replace q35 := eq_true q35
         have HX37 := Aside0.mk (show Kd.R k49 49 wr w.heap.size (fun _ => True) (.slice (some ⟨go35, 0, none⟩) x15_2.length co36) x15_2 from (by (with_reducible repeat (first | apply Kd.R_alloc | apply Kd.R_drewN | apply Kd.R_drew)); exact HO_15.out))
         obtain ⟨ce37, hcl37, hM37, hcc37, hfr37⟩ := Kd.R_elem HX37.out z49 (x19_2 : Int) (of_decide_eq_true (by first | (with_reducible assumption) | assumption)) (by have h_ : (x19_2 : Int) < ((x15_2.length : Int) : Int) := of_decide_eq_true (by first | (with_reducible assumption) | assumption); first | exact h_ | (have e_ := (Kd.R_reads' HO_15.out).1; omega) | simpa using h_)
         obtain rfl := k49_openM hM37
         have HP37 := Kd.R_seg HX37.out (x19_2 : Int) (of_decide_eq_true (by first | (with_reducible assumption) | assumption)) (by have h_ : (x19_2 : Int) < ((x15_2.length : Int) : Int) := of_decide_eq_true (by first | (with_reducible assumption) | assumption); first | exact h_ | (have e_ := (Kd.R_reads' HO_15.out).1; omega) | simpa using h_) (seg := [.int .i64 (-1)]) (j := 0) hcl37 hcc37 (show 1 ≤ 3 from by decide) (x' := (⟨(-1), (rd_T49 x15_2 x19_2).f1, (rd_T49 x15_2 x19_2).f2⟩ : S49)) (k49_mkM _ _ _ (⟨(-1), (rd_T49 x15_2 x19_2).f1, (rd_T49 x15_2 x19_2).f2⟩ : S49) ) (fun _ hk => hk)
         have hx37_0 := hcc37 0 _ rfl
         (try simp only [show (k49).sz = 3 from rfl, Nat.mul_one, Nat.add_zero] at hx37_0)
         have hf37_0 := hfr37 0
         (try simp only [show (k49).sz = 3 from rfl, Nat.mul_one, Nat.add_zero] at hf37_0)
         clear hcl37 hcc37 hfr37 hM37
         go_wp2_with (first | ((with_reducible refine gate_store (t := 3) (p := 99) rfl ?_); refine store_event (t := 3) (p := 99) (v := ?vo_w38) (w1 := (wr.setCell ⟨go35, (x19_2 : Int).toNat * 3, none⟩ (.int .i64 (-1)))) ?hg ?ho ?hn ?hr ?_; (case ho => rfl); (case hg => rfl); (case hn => rfl); (case hr => first | (go_simp; done) | (go_simp; rfl)); intro w38 hw; have hg : wr.grownBy w38 (some go35) := (by rw [hw]; exact HP37.2); have hp_ : Kd.R k49 49 w38 w.heap.size (fun _ => True) (.slice (some ⟨go35, 0, none⟩) x15_2.length co36) y396 := (by rw [hw, Ny396.out]; exact HP37.1); clear HP37; have n0_ := Aside0.mk (Kd.U_over' (v := (.slice (some ⟨go35, 0, none⟩) x15_2.length co36)) (by (with_reducible repeat (first | apply Kd.U_alloc | apply Kd.U_drewN | apply Kd.U_drew)); exact HO_7.out) (Kd.R_typed HO_15.out) (by decide) hg); have n1_ := Aside0.mk (Kd.U_over' (v := (.slice (some ⟨go35, 0, none⟩) x15_2.length co36)) (by (with_reducible repeat (first | apply Kd.U_alloc | apply Kd.U_drewN | apply Kd.U_drew)); exact HO_8.out) (Kd.R_typed HO_15.out) (by decide) hg); have n2_ := Aside0.mk (hp_); have n3_ := Aside0.mk (Kd.R_over' (v := (.slice (some ⟨go35, 0, none⟩) x15_2.length co36)) (by (with_reducible repeat (first | apply Kd.R_alloc | apply Kd.R_drewN | apply Kd.R_drew)); exact HO_17.out) (Kd.R_typed HO_15.out) (by decide) hg); have n4_ := Aside0.mk ((by rw [hw]; exact below_set (HB.out) GB35.out : Below w.heap.size w w38)); clear HO_7; clear HO_8; clear HO_15; clear HO_17; clear HB; have HO_7 := n0_; have HO_8 := n1_; have HO_15 := n2_; have HO_17 := n3_; have HB := n4_; clear n0_ n1_ n2_ n3_ n4_; clear hg hw hp_))
         first | go_roundg k2 | (simp only [add_plain] at *; go_roundg k2)
         case measure => have := HJ9.out; have := HK2.out; omega
         case rel => exact ⟨(y396), (wrap64 (x19_2 + 1)), (by first | rfl | (simp; done) | (simp [*]; done)), H', ⟨by have := HJ9.out; have := HK2.out; omega⟩, ⟨by (with_reducible repeat (first | apply Kd.U_alloc | apply Kd.U_drewN | apply Kd.U_drew)); exact HO_7.out⟩, ⟨by (with_reducible repeat (first | apply Kd.U_alloc | apply Kd.U_drewN | apply Kd.U_drew)); exact HO_8.out⟩, ⟨by (with_reducible repeat (first | apply Kd.R_alloc | apply Kd.R_drewN | apply Kd.R_drew)); exact HO_15.out⟩, ⟨by (with_reducible repeat (first | apply Kd.R_alloc | apply Kd.R_drewN | apply Kd.R_drew)); exact HO_17.out⟩, ⟨by repeat (first | (with_reducible first | exact HB.out | apply below_alloc | apply pw_below_drewN | apply below_drew1) | exact HB.out)⟩⟩
       ·rw [if_neg c34] at H
        exact absurd H (by simp)
      ·rw [if_neg c33] at H
       have c33b0 : decide (x19_2 < (x15_2.length : Int)) = false := decide_eq_false c33
       clear c33
       replace H := Option.bind_eq_some_iff.mp H
       obtain ⟨⟨t397, t398⟩, A390, H⟩ := H
       replace H : ((foghornlaw30_runs.f k2 t397 t389).bind fun t401 => (if t401 = true then ((foghornlaw30_awake.f k2).bind fun t402 => (some t402)) else (some false))) = some r := H
       have A39 := Aside0.mk A390
       clear A390
       replace H := Option.bind_eq_some_iff.mp H
       obtain ⟨t401, A400, H⟩ := H
       replace H : (if t401 = true then ((foghornlaw30_awake.f k2).bind fun t402 => (some t402)) else (some false)) = some r := H
       have A40 := Aside0.mk A400
       clear A400
       by_cases c41 : t401 = true
       ·subst c41
        have H1 : ((foghornlaw30_awake.f k2).bind fun t402 => (some t402)) = some r := by rw [if_pos rfl] at H; exact H
        clear H
        have H := H1
        clear H1
        replace H := Option.bind_eq_some_iff.mp H
        obtain ⟨t402, A420, H⟩ := H
        replace H : (some t402) = some r := H
        have A42 := Aside0.mk A420
        clear A420
        as_aux_lemma =>
         obtain rfl := Option.some.inj H
         obtain ⟨Ao43, co43, eo43⟩ := Kd.R_slice HO_15.out
         subst eo43
         go_wp2_with (first | ((with_reducible refine gate_callee (f := 34) rfl ?_); refine goesL_ (some 104) rfl rfl Try.func34 (by kernel_rfl) rfl #[.slice Ao13 t373.length co13, .slice Ao14 t376.length co14, .int .i64 a2] rfl (by (try simp only [List.map_toArray, List.map_cons, List.map_nil]); first | done | rfl | (simp only [List.length_drop, List.length_take]; rfl)) ?_; (with_reducible refine (meter_Runs.calls k2 _ _ t373 _ _ t376 a2 t397 t398 _ ?side1 ?side2 ?side3 ?side4 A39.out).mono ?_); (case side1 => repeat (first | exact (Kd.U_reads' HO_7.out).2.2 | (with_reducible refine Kd.C_alloc ?_ _) | (with_reducible refine Kd.C_drewN ?_ _) | (with_reducible refine Kd.C_drew ?_))); (case side2 => exact (Kd.U_reads' HO_7.out).2.1); (case side3 => repeat (first | exact (Kd.U_reads' HO_8.out).2.2 | (with_reducible refine Kd.C_alloc ?_ _) | (with_reducible refine Kd.C_drewN ?_ _) | (with_reducible refine Kd.C_drew ?_))); (case side4 => exact (Kd.U_reads' HO_8.out).2.1); rintro e w44 ⟨v399, rfl, ho0, hb⟩; refine ⟨_, rfl, ?_⟩; have n0_ := Aside0.mk (Kd.U_below (by (with_reducible repeat (first | apply Kd.U_alloc | apply Kd.U_drewN | apply Kd.U_drew)); exact HO_7.out) hb); have n1_ := Aside0.mk (Kd.U_below (by (with_reducible repeat (first | apply Kd.U_alloc | apply Kd.U_drewN | apply Kd.U_drew)); exact HO_8.out) hb); have n2_ := Aside0.mk (Kd.R_elder' (by (with_reducible repeat (first | apply Kd.R_alloc | apply Kd.R_drewN | apply Kd.R_drew)); exact HO_15.out) (Kd.R_base ho0) hb); have n3_ := Aside0.mk (Kd.R_below (by (with_reducible repeat (first | apply Kd.R_alloc | apply Kd.R_drewN | apply Kd.R_drew)); exact HO_17.out) hb); have n4_ := Aside0.mk (Kd.R_lower (Kd.R_new' ho0 (Kd.R_lt (by (with_reducible repeat (first | apply Kd.R_alloc | apply Kd.R_drewN | apply Kd.R_drew)); exact HO_15.out))) (below_size (by repeat (first | (with_reducible first | exact HB.out | apply below_alloc | apply pw_below_drewN | apply below_drew1) | exact HB.out)))); have n5_ := Aside0.mk (below_step (by repeat (first | (with_reducible first | exact HB.out | apply below_alloc | apply pw_below_drewN | apply below_drew1) | exact HB.out)) hb); clear HO_7; clear HO_8; clear HO_15; clear HO_17; clear HB; have HO_7 := n0_; have HO_8 := n1_; have HO_15 := n2_; have HO_17 := n3_; have HO400 := n4_; have HB := n5_; clear n0_ n1_ n2_ n3_ n4_ n5_; (try clear hb); (try clear hb2); (try clear hk); (try clear hi); (try clear ho0); obtain ⟨Ao45, co45, eo45⟩ := Kd.R_slice HO400.out; subst eo45; obtain ⟨Ao46, co46, eo46⟩ := Kd.R_slice HO_17.out; subst eo46) | ((with_reducible refine gate_callee (f := 36) rfl ?_); refine goesL_ (some 109) rfl rfl Try.func36 (by kernel_rfl) rfl #[.slice Ao45 t397.length co45, .slice Ao46 t389.length co46] rfl (by (try simp only [List.map_toArray, List.map_cons, List.map_nil]); first | done | rfl | (simp only [List.length_drop, List.length_take]; rfl)) ?_; (with_reducible refine (foghornlaw30_runs.calls k2 _ _ t397 _ _ t389 true _ ?side1 ?side2 ?side3 ?side4 A40.out).mono ?_); (case side1 => repeat (first | exact (Kd.R_reads' HO400.out).2.2 | (with_reducible refine Kd.C_alloc ?_ _) | (with_reducible refine Kd.C_drewN ?_ _) | (with_reducible refine Kd.C_drew ?_))); (case side2 => exact (Kd.R_reads' HO400.out).2.1); (case side3 => repeat (first | exact (Kd.R_reads' HO_17.out).2.2 | (with_reducible refine Kd.C_alloc ?_ _) | (with_reducible refine Kd.C_drewN ?_ _) | (with_reducible refine Kd.C_drew ?_))); (case side4 => exact (Kd.R_reads' HO_17.out).2.1); rintro e w' ⟨rfl, ⟨nd, rfl⟩⟩; refine ⟨_, rfl, ?_⟩) | (go_at_call 38; (with_reducible refine (foghornlaw30_awake.calls k2  t402 _ A42.out).mono ?_); rintro e w47 ⟨rfl, hb⟩; have n0_ := Aside0.mk (Kd.U_below (by (with_reducible repeat (first | apply Kd.U_alloc | apply Kd.U_drewN | apply Kd.U_drew)); exact HO_7.out) hb); have n1_ := Aside0.mk (Kd.U_below (by (with_reducible repeat (first | apply Kd.U_alloc | apply Kd.U_drewN | apply Kd.U_drew)); exact HO_8.out) hb); have n2_ := Aside0.mk (Kd.R_below (by (with_reducible repeat (first | apply Kd.R_alloc | apply Kd.R_drewN | apply Kd.R_drew)); exact HO_15.out) hb); have n3_ := Aside0.mk (Kd.R_below (by (with_reducible repeat (first | apply Kd.R_alloc | apply Kd.R_drewN | apply Kd.R_drew)); exact HO_17.out) hb); have n4_ := Aside0.mk (Kd.R_below (by (with_reducible repeat (first | apply Kd.R_alloc | apply Kd.R_drewN | apply Kd.R_drew)); exact HO400.out) hb); have n5_ := Aside0.mk (below_step (by repeat (first | (with_reducible first | exact HB.out | apply below_alloc | apply pw_below_drewN | apply below_drew1) | exact HB.out)) hb); clear HO_7; clear HO_8; clear HO_15; clear HO_17; clear HO400; clear HB; have HO_7 := n0_; have HO_8 := n1_; have HO_15 := n2_; have HO_17 := n3_; have HO400 := n4_; have HB := n5_; clear n0_ n1_ n2_ n3_ n4_ n5_; (try clear hb); (try clear hb2); (try clear hk); (try clear hi)))
         go_ret
         exact ⟨by first | rfl | (simp [errW_none, errW_some] <;> rfl) | (simp [*, errW_none, errW_some] <;> rfl), by repeat (first | (with_reducible first | exact HB.out | apply below_alloc | apply pw_below_drewN | apply below_drew1) | exact HB.out)⟩
       ·replace c41 := Bool.eq_false_iff.mpr c41
        subst c41
        have H1 : (some false) = some r := by rw [if_neg (show ¬ (false = true) by decide)] at H; exact H
        clear H
        have H := H1
        clear H1
        as_aux_lemma =>
         exact absurd ((Option.some.inj H).trans HQ_.out) (by decide)

theorem foghornlaw30_MeterBits.walk (P : foghornlaw30_MeterBits.Pure) (A0 : Option Addr) (c0 : Nat) (l0 : List Bool) (A1 : Option Addr) (c1 : Nat) (l1 : List Bool) (a2 : Int) (w : World) (hr0 : Kd.C Kd.bool w A0 l0.length l0) (hc0 : l0.length ≤ c0) (hr1 : Kd.C Kd.bool w A1 l1.length l1) (hc1 : l1.length ≤ c1) (hw0 : l0.length * 1 ≤ 140737488351232 ∧ ∀ x ∈ l0, (fun y_ : Bool => True) x) (hw1 : l1.length * 1 ≤ 140737488351232 ∧ ∀ x ∈ l1, (fun y_ : Bool => True) x) (hw2 : (Lit.int .i64 a2).wf = true) :
  Calls Try.prog 4 #[.slice A0 l0.length c0, .slice A1 l1.length c1, .int .i64 a2] w fun e w' => e = .returned (.bool true) ∧ Below w.heap.size w w' := by
 obtain ⟨k, h⟩ := P l0 l1 a2 hw0 hw1 hw2
 refine (foghornlaw30_MeterBits.calls k _ _ l0 _ _ l1 a2 true w hr0 hc0 hr1 hc1 h rfl).mono ?_
 rintro e w' ⟨rfl, hd⟩
 exact ⟨rfl, hd⟩

end Go.Proofs.Ythfcafllcgjepaa.Q
