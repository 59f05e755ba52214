-- Printed by myprint.py (ours) over the kit's printer, out of the translation.
import Derived.Test.YthfcafllcgjepaaQ0
import Derived.Test.YthfcafllcgjepaaQ1
import Derived.Test.YthfcafllcgjepaaQ2
import Derived.Test.YthfcafllcgjepaaQ3
import Derived.Test.YthfcafllcgjepaaQ5
import Derived.Test.YthfcafllcgjepaaQ6
import Derived.Test.YthfcafllcgjepaaQF0
namespace Go.Proofs.Ythfcafllcgjepaa.Q
open Go.RowKit Go.Proofs.YthfcafllcgjepaaW.PrintWords Go.Proofs.YthfcafllcgjepaaW.PrintLast Go.Proofs.YthfcafllcgjepaaW.PrintMore
attribute [local go_sem] ArrW.ptrOf_slice unary_neg_float unary_neg_complex run_store_float run_store_complex max2_int min2_int max_two min_two max_three min_three max_four min_four   -- for this text's walks alone
set_option linter.unusedVariables false
set_option linter.unusedSimpArgs false

/-! ### foghornlaw11_FeedbackEchoes: function 3 -/
set_option maxHeartbeats 8000000 in
set_option maxRecDepth 100000 in
theorem foghornlaw11_FeedbackEchoes.calls (k : Nat) (A0 : Option Addr) (c0 : Nat) (l0 : List (S174)) (A1 : Option Addr) (c1 : Nat) (l1 : List (S146)) (r : Bool) (w : World) (hr0 : Kd.C k174 w A0 l0.length l0) (hc0 : l0.length ≤ c0) (hr1 : Kd.C k146 w A1 l1.length l1) (hc1 : l1.length ≤ c1) (h : foghornlaw11_FeedbackEchoes.f k l0 l1 = some r) (hq_ : r = true) :
    Calls Try.prog 3 #[.slice A0 l0.length c0, .slice A1 l1.length c1] w fun e w' => e = .returned (.bool r) ∧ Below w.heap.size w w' := by
  have HQ_ := Aside0.mk hq_
  clear hq_
  have HR0 := Aside0.mk hr0
  have HC0 := Aside0.mk hc0
  clear hr0 hc0
  have HR1 := Aside0.mk hr1
  have HC1 := Aside0.mk hc1
  clear hr1 hc1
  have HB := Aside0.mk (Below.refl w.heap.size w)
  have H : ((foghornlaw11_taps.f k l0).bind fun t244 => ((foghornlaw11_numbers.f k l1).bind fun t247 => ((foghornref11_Echo.f k t244 t247).bind fun bt250 => ((feedback_Echo.f k t244 t247).bind fun bt254 => ((feedback_Echo.f k t244 t247).bind fun bt258 => ((feedback_Check.f k t244).bind fun t262 => ((foghornref11_Check.f k t244).bind fun t263 => (if t262 = t263 then (if bt254.2 = bt250.2 then (if bt258.2 = bt250.2 then ((foghornlaw11_fresh.f k bt254.1 bt258.1 bt250.1).bind fun t264 => (if t264 = true then (if (wrap64 ((l0.length : Int) + 1)) = (t244.length : Int) + 1 then ((some (t244 ++ [(4651892959631900672, 0)] : List (Nat × Nat))).bind fun y265 => (if 0 ≤ (l0.length : Int) then (if (l0.length : Int) < (y265.length : Int) then (if (!((FloatKind.f64.format.order ((rdOf (0, 0) y265 (l0.length : Int)).1) 4651892959631900672 == some .eq) && (FloatKind.f64.format.order ((rdOf (0, 0) y265 (l0.length : Int)).2) 0 == some .eq))) = true then (foghornlaw11_FeedbackEchoes.j0 k t244 t247 true) else (if (wrap64 ((l1.length : Int) + 1)) = (t247.length : Int) + 1 then ((some (t247 ++ [(4651892959631900672, 0)] : List (Nat × Nat))).bind fun y270 => (if 0 ≤ (l1.length : Int) then (if (l1.length : Int) < (y270.length : Int) then (if (!((FloatKind.f64.format.order ((rdOf (0, 0) y270 (l1.length : Int)).1) 4651892959631900672 == some .eq) && (FloatKind.f64.format.order ((rdOf (0, 0) y270 (l1.length : Int)).2) 0 == some .eq))) = true then (foghornlaw11_FeedbackEchoes.j0 k t244 t247 true) else ((foghornlaw11_numbers.f k l1).bind fun t275 => ((foghornref11_Same.f k t247 t275).bind fun t278 => (foghornlaw11_FeedbackEchoes.j0 k t244 t247 (!t278))))) else (none)) else (none))) else (none))) else (none)) else (none))) else (none)) else (foghornlaw11_FeedbackEchoes.j0 k t244 t247 true))) else (foghornlaw11_FeedbackEchoes.j0 k t244 t247 true)) else (foghornlaw11_FeedbackEchoes.j0 k t244 t247 true)) else (foghornlaw11_FeedbackEchoes.j0 k t244 t247 true))))))))) = some r := h
  clear h
  replace H := Option.bind_eq_some_iff.mp H
  obtain ⟨t244, A30, H⟩ := H
  replace H : ((foghornlaw11_numbers.f k l1).bind fun t247 => ((foghornref11_Echo.f k t244 t247).bind fun bt250 => ((feedback_Echo.f k t244 t247).bind fun bt254 => ((feedback_Echo.f k t244 t247).bind fun bt258 => ((feedback_Check.f k t244).bind fun t262 => ((foghornref11_Check.f k t244).bind fun t263 => (if t262 = t263 then (if bt254.2 = bt250.2 then (if bt258.2 = bt250.2 then ((foghornlaw11_fresh.f k bt254.1 bt258.1 bt250.1).bind fun t264 => (if t264 = true then (if (wrap64 ((l0.length : Int) + 1)) = (t244.length : Int) + 1 then ((some (t244 ++ [(4651892959631900672, 0)] : List (Nat × Nat))).bind fun y265 => (if 0 ≤ (l0.length : Int) then (if (l0.length : Int) < (y265.length : Int) then (if (!((FloatKind.f64.format.order ((rdOf (0, 0) y265 (l0.length : Int)).1) 4651892959631900672 == some .eq) && (FloatKind.f64.format.order ((rdOf (0, 0) y265 (l0.length : Int)).2) 0 == some .eq))) = true then (foghornlaw11_FeedbackEchoes.j0 k t244 t247 true) else (if (wrap64 ((l1.length : Int) + 1)) = (t247.length : Int) + 1 then ((some (t247 ++ [(4651892959631900672, 0)] : List (Nat × Nat))).bind fun y270 => (if 0 ≤ (l1.length : Int) then (if (l1.length : Int) < (y270.length : Int) then (if (!((FloatKind.f64.format.order ((rdOf (0, 0) y270 (l1.length : Int)).1) 4651892959631900672 == some .eq) && (FloatKind.f64.format.order ((rdOf (0, 0) y270 (l1.length : Int)).2) 0 == some .eq))) = true then (foghornlaw11_FeedbackEchoes.j0 k t244 t247 true) else ((foghornlaw11_numbers.f k l1).bind fun t275 => ((foghornref11_Same.f k t247 t275).bind fun t278 => (foghornlaw11_FeedbackEchoes.j0 k t244 t247 (!t278))))) else (none)) else (none))) else (none))) else (none)) else (none))) else (none)) else (foghornlaw11_FeedbackEchoes.j0 k t244 t247 true))) else (foghornlaw11_FeedbackEchoes.j0 k t244 t247 true)) else (foghornlaw11_FeedbackEchoes.j0 k t244 t247 true)) else (foghornlaw11_FeedbackEchoes.j0 k t244 t247 true)))))))) = some r := H
  have A3 := Aside0.mk A30
  clear A30
  replace H := Option.bind_eq_some_iff.mp H
  obtain ⟨t247, A40, H⟩ := H
  replace H : ((foghornref11_Echo.f k t244 t247).bind fun bt250 => ((feedback_Echo.f k t244 t247).bind fun bt254 => ((feedback_Echo.f k t244 t247).bind fun bt258 => ((feedback_Check.f k t244).bind fun t262 => ((foghornref11_Check.f k t244).bind fun t263 => (if t262 = t263 then (if bt254.2 = bt250.2 then (if bt258.2 = bt250.2 then ((foghornlaw11_fresh.f k bt254.1 bt258.1 bt250.1).bind fun t264 => (if t264 = true then (if (wrap64 ((l0.length : Int) + 1)) = (t244.length : Int) + 1 then ((some (t244 ++ [(4651892959631900672, 0)] : List (Nat × Nat))).bind fun y265 => (if 0 ≤ (l0.length : Int) then (if (l0.length : Int) < (y265.length : Int) then (if (!((FloatKind.f64.format.order ((rdOf (0, 0) y265 (l0.length : Int)).1) 4651892959631900672 == some .eq) && (FloatKind.f64.format.order ((rdOf (0, 0) y265 (l0.length : Int)).2) 0 == some .eq))) = true then (foghornlaw11_FeedbackEchoes.j0 k t244 t247 true) else (if (wrap64 ((l1.length : Int) + 1)) = (t247.length : Int) + 1 then ((some (t247 ++ [(4651892959631900672, 0)] : List (Nat × Nat))).bind fun y270 => (if 0 ≤ (l1.length : Int) then (if (l1.length : Int) < (y270.length : Int) then (if (!((FloatKind.f64.format.order ((rdOf (0, 0) y270 (l1.length : Int)).1) 4651892959631900672 == some .eq) && (FloatKind.f64.format.order ((rdOf (0, 0) y270 (l1.length : Int)).2) 0 == some .eq))) = true then (foghornlaw11_FeedbackEchoes.j0 k t244 t247 true) else ((foghornlaw11_numbers.f k l1).bind fun t275 => ((foghornref11_Same.f k t247 t275).bind fun t278 => (foghornlaw11_FeedbackEchoes.j0 k t244 t247 (!t278))))) else (none)) else (none))) else (none))) else (none)) else (none))) else (none)) else (foghornlaw11_FeedbackEchoes.j0 k t244 t247 true))) else (foghornlaw11_FeedbackEchoes.j0 k t244 t247 true)) else (foghornlaw11_FeedbackEchoes.j0 k t244 t247 true)) else (foghornlaw11_FeedbackEchoes.j0 k t244 t247 true))))))) = some r := H
  have A4 := Aside0.mk A40
  clear A40
  replace H := Option.bind_eq_some_iff.mp H
  obtain ⟨⟨t250, t251⟩, A50, H⟩ := H
  replace H : ((feedback_Echo.f k t244 t247).bind fun bt254 => ((feedback_Echo.f k t244 t247).bind fun bt258 => ((feedback_Check.f k t244).bind fun t262 => ((foghornref11_Check.f k t244).bind fun t263 => (if t262 = t263 then (if bt254.2 = t251 then (if bt258.2 = t251 then ((foghornlaw11_fresh.f k bt254.1 bt258.1 t250).bind fun t264 => (if t264 = true then (if (wrap64 ((l0.length : Int) + 1)) = (t244.length : Int) + 1 then ((some (t244 ++ [(4651892959631900672, 0)] : List (Nat × Nat))).bind fun y265 => (if 0 ≤ (l0.length : Int) then (if (l0.length : Int) < (y265.length : Int) then (if (!((FloatKind.f64.format.order ((rdOf (0, 0) y265 (l0.length : Int)).1) 4651892959631900672 == some .eq) && (FloatKind.f64.format.order ((rdOf (0, 0) y265 (l0.length : Int)).2) 0 == some .eq))) = true then (foghornlaw11_FeedbackEchoes.j0 k t244 t247 true) else (if (wrap64 ((l1.length : Int) + 1)) = (t247.length : Int) + 1 then ((some (t247 ++ [(4651892959631900672, 0)] : List (Nat × Nat))).bind fun y270 => (if 0 ≤ (l1.length : Int) then (if (l1.length : Int) < (y270.length : Int) then (if (!((FloatKind.f64.format.order ((rdOf (0, 0) y270 (l1.length : Int)).1) 4651892959631900672 == some .eq) && (FloatKind.f64.format.order ((rdOf (0, 0) y270 (l1.length : Int)).2) 0 == some .eq))) = true then (foghornlaw11_FeedbackEchoes.j0 k t244 t247 true) else ((foghornlaw11_numbers.f k l1).bind fun t275 => ((foghornref11_Same.f k t247 t275).bind fun t278 => (foghornlaw11_FeedbackEchoes.j0 k t244 t247 (!t278))))) else (none)) else (none))) else (none))) else (none)) else (none))) else (none)) else (foghornlaw11_FeedbackEchoes.j0 k t244 t247 true))) else (foghornlaw11_FeedbackEchoes.j0 k t244 t247 true)) else (foghornlaw11_FeedbackEchoes.j0 k t244 t247 true)) else (foghornlaw11_FeedbackEchoes.j0 k t244 t247 true)))))) = some r := H
  have A5 := Aside0.mk A50
  clear A50
  replace H := Option.bind_eq_some_iff.mp H
  obtain ⟨⟨t254, t255⟩, A60, H⟩ := H
  replace H : ((feedback_Echo.f k t244 t247).bind fun bt258 => ((feedback_Check.f k t244).bind fun t262 => ((foghornref11_Check.f k t244).bind fun t263 => (if t262 = t263 then (if t255 = t251 then (if bt258.2 = t251 then ((foghornlaw11_fresh.f k t254 bt258.1 t250).bind fun t264 => (if t264 = true then (if (wrap64 ((l0.length : Int) + 1)) = (t244.length : Int) + 1 then ((some (t244 ++ [(4651892959631900672, 0)] : List (Nat × Nat))).bind fun y265 => (if 0 ≤ (l0.length : Int) then (if (l0.length : Int) < (y265.length : Int) then (if (!((FloatKind.f64.format.order ((rdOf (0, 0) y265 (l0.length : Int)).1) 4651892959631900672 == some .eq) && (FloatKind.f64.format.order ((rdOf (0, 0) y265 (l0.length : Int)).2) 0 == some .eq))) = true then (foghornlaw11_FeedbackEchoes.j0 k t244 t247 true) else (if (wrap64 ((l1.length : Int) + 1)) = (t247.length : Int) + 1 then ((some (t247 ++ [(4651892959631900672, 0)] : List (Nat × Nat))).bind fun y270 => (if 0 ≤ (l1.length : Int) then (if (l1.length : Int) < (y270.length : Int) then (if (!((FloatKind.f64.format.order ((rdOf (0, 0) y270 (l1.length : Int)).1) 4651892959631900672 == some .eq) && (FloatKind.f64.format.order ((rdOf (0, 0) y270 (l1.length : Int)).2) 0 == some .eq))) = true then (foghornlaw11_FeedbackEchoes.j0 k t244 t247 true) else ((foghornlaw11_numbers.f k l1).bind fun t275 => ((foghornref11_Same.f k t247 t275).bind fun t278 => (foghornlaw11_FeedbackEchoes.j0 k t244 t247 (!t278))))) else (none)) else (none))) else (none))) else (none)) else (none))) else (none)) else (foghornlaw11_FeedbackEchoes.j0 k t244 t247 true))) else (foghornlaw11_FeedbackEchoes.j0 k t244 t247 true)) else (foghornlaw11_FeedbackEchoes.j0 k t244 t247 true)) else (foghornlaw11_FeedbackEchoes.j0 k t244 t247 true))))) = some r := H
  have A6 := Aside0.mk A60
  clear A60
  replace H := Option.bind_eq_some_iff.mp H
  obtain ⟨⟨t258, t259⟩, A70, H⟩ := H
  replace H : ((feedback_Check.f k t244).bind fun t262 => ((foghornref11_Check.f k t244).bind fun t263 => (if t262 = t263 then (if t255 = t251 then (if t259 = t251 then ((foghornlaw11_fresh.f k t254 t258 t250).bind fun t264 => (if t264 = true then (if (wrap64 ((l0.length : Int) + 1)) = (t244.length : Int) + 1 then ((some (t244 ++ [(4651892959631900672, 0)] : List (Nat × Nat))).bind fun y265 => (if 0 ≤ (l0.length : Int) then (if (l0.length : Int) < (y265.length : Int) then (if (!((FloatKind.f64.format.order ((rdOf (0, 0) y265 (l0.length : Int)).1) 4651892959631900672 == some .eq) && (FloatKind.f64.format.order ((rdOf (0, 0) y265 (l0.length : Int)).2) 0 == some .eq))) = true then (foghornlaw11_FeedbackEchoes.j0 k t244 t247 true) else (if (wrap64 ((l1.length : Int) + 1)) = (t247.length : Int) + 1 then ((some (t247 ++ [(4651892959631900672, 0)] : List (Nat × Nat))).bind fun y270 => (if 0 ≤ (l1.length : Int) then (if (l1.length : Int) < (y270.length : Int) then (if (!((FloatKind.f64.format.order ((rdOf (0, 0) y270 (l1.length : Int)).1) 4651892959631900672 == some .eq) && (FloatKind.f64.format.order ((rdOf (0, 0) y270 (l1.length : Int)).2) 0 == some .eq))) = true then (foghornlaw11_FeedbackEchoes.j0 k t244 t247 true) else ((foghornlaw11_numbers.f k l1).bind fun t275 => ((foghornref11_Same.f k t247 t275).bind fun t278 => (foghornlaw11_FeedbackEchoes.j0 k t244 t247 (!t278))))) else (none)) else (none))) else (none))) else (none)) else (none))) else (none)) else (foghornlaw11_FeedbackEchoes.j0 k t244 t247 true))) else (foghornlaw11_FeedbackEchoes.j0 k t244 t247 true)) else (foghornlaw11_FeedbackEchoes.j0 k t244 t247 true)) else (foghornlaw11_FeedbackEchoes.j0 k t244 t247 true)))) = some r := H
  have A7 := Aside0.mk A70
  clear A70
  have HC8 := Aside0.mk H
  clear H
  go_enter Try.func3, Try.ntmps3
  go_upto_region 6 with (first | ((with_reducible refine gate_callee (f := 23) rfl ?_); refine goesL_ (some 15) rfl rfl Try.func23 (by kernel_rfl) rfl #[.slice A0 l0.length c0] rfl (by (try simp only [List.map_toArray, List.map_cons, List.map_nil]); first | done | rfl | (simp only [List.length_drop, List.length_take]; rfl)) ?_; (with_reducible refine (foghornlaw11_taps.calls k _ _ l0 t244 _ ?side1 ?side2 A3.out).mono ?_); (case side1 => repeat (first | exact HR0.out | (with_reducible refine Kd.C_alloc ?_ _) | (with_reducible refine Kd.C_drewN ?_ _) | (with_reducible refine Kd.C_drew ?_))); (case side2 => exact HC0.out); rintro e w9 ⟨v245, rfl, ho0, hb⟩; refine ⟨_, rfl, ?_⟩; have n0_ := Aside0.mk (Kd.U_lower ho0 (below_size (by repeat (first | (with_reducible first | exact HB.out | apply below_alloc | apply pw_below_drewN | apply below_drew1) | exact HB.out)))); have n1_ := Aside0.mk (below_step (by repeat (first | (with_reducible first | exact HB.out | apply below_alloc | apply pw_below_drewN | apply below_drew1) | exact HB.out)) hb); clear HB; have HO246 := n0_; have HB := n1_; clear n0_ n1_; (try clear hb); (try clear hb2); (try clear hk); (try clear hi); (try clear ho0)) | ((with_reducible refine gate_callee (f := 24) rfl ?_); refine goesL_ (some 17) rfl rfl Try.func24 (by kernel_rfl) rfl #[.slice A1 l1.length c1] rfl (by (try simp only [List.map_toArray, List.map_cons, List.map_nil]); first | done | rfl | (simp only [List.length_drop, List.length_take]; rfl)) ?_; (with_reducible refine (foghornlaw11_numbers.calls k _ _ l1 t247 _ ?side1 ?side2 A4.out).mono ?_); (case side1 => repeat (first | exact (Kd.C_below HR1.out HB.out) | (with_reducible refine Kd.C_alloc ?_ _) | (with_reducible refine Kd.C_drewN ?_ _) | (with_reducible refine Kd.C_drew ?_))); (case side2 => exact HC1.out); rintro e w10 ⟨v248, rfl, ho0, hb⟩; refine ⟨_, rfl, ?_⟩; have n0_ := Aside0.mk (Kd.U_elder' (by (with_reducible repeat (first | apply Kd.U_alloc | apply Kd.U_drewN | apply Kd.U_drew)); exact HO246.out) (Kd.U_base ho0) hb); have n1_ := Aside0.mk (Kd.U_lower (Kd.U_new' ho0 (Kd.U_lt (by (with_reducible repeat (first | apply Kd.U_alloc | apply Kd.U_drewN | apply Kd.U_drew)); exact HO246.out))) (below_size (by repeat (first | (with_reducible first | exact HB.out | apply below_alloc | apply pw_below_drewN | apply below_drew1) | exact HB.out)))); have n2_ := Aside0.mk (below_step (by repeat (first | (with_reducible first | exact HB.out | apply below_alloc | apply pw_below_drewN | apply below_drew1) | exact HB.out)) hb); clear HO246; clear HB; have HO246 := n0_; have HO249 := n1_; have HB := n2_; clear n0_ n1_ n2_; (try clear hb); (try clear hb2); (try clear hk); (try clear hi); (try clear ho0); obtain ⟨Ao11, co11, eo11⟩ := Kd.U_slice HO246.out; subst eo11; obtain ⟨Ao12, co12, eo12⟩ := Kd.U_slice HO249.out; subst eo12) | ((with_reducible refine gate_callee (f := 25) rfl ?_); refine goesL_ (some 21) rfl rfl Try.func25 (by kernel_rfl) rfl #[.slice Ao11 t244.length co11, .slice Ao12 t247.length co12] rfl (by (try simp only [List.map_toArray, List.map_cons, List.map_nil]); first | done | rfl | (simp only [List.length_drop, List.length_take]; rfl)) ?_; (with_reducible refine (foghornref11_Echo.calls k _ _ t244 _ _ t247 t250 t251 _ ?side1 ?side2 ?side3 ?side4 A5.out).mono ?_); (case side1 => repeat (first | exact (Kd.U_reads' HO246.out).2.2 | (with_reducible refine Kd.C_alloc ?_ _) | (with_reducible refine Kd.C_drewN ?_ _) | (with_reducible refine Kd.C_drew ?_))); (case side2 => exact (Kd.U_reads' HO246.out).2.1); (case side3 => repeat (first | exact (Kd.U_reads' HO249.out).2.2 | (with_reducible refine Kd.C_alloc ?_ _) | (with_reducible refine Kd.C_drewN ?_ _) | (with_reducible refine Kd.C_drew ?_))); (case side4 => exact (Kd.U_reads' HO249.out).2.1); rintro e w13 ⟨v252, rfl, ho0, hb⟩; refine ⟨_, rfl, ?_⟩; have n0_ := Aside0.mk (Kd.U_elder' (by (with_reducible repeat (first | apply Kd.U_alloc | apply Kd.U_drewN | apply Kd.U_drew)); exact HO246.out) (Kd.R_base ho0) hb); have n1_ := Aside0.mk (Kd.U_elder' (by (with_reducible repeat (first | apply Kd.U_alloc | apply Kd.U_drewN | apply Kd.U_drew)); exact HO249.out) (Kd.R_base ho0) hb); have n2_ := Aside0.mk (Kd.R_lower (Kd.R_new' (Kd.R_new' ho0 (Kd.U_lt (by (with_reducible repeat (first | apply Kd.U_alloc | apply Kd.U_drewN | apply Kd.U_drew)); exact HO246.out))) (Kd.U_lt (by (with_reducible repeat (first | apply Kd.U_alloc | apply Kd.U_drewN | apply Kd.U_drew)); exact HO249.out))) (below_size (by repeat (first | (with_reducible first | exact HB.out | apply below_alloc | apply pw_below_drewN | apply below_drew1) | exact HB.out)))); have n3_ := Aside0.mk (below_step (by repeat (first | (with_reducible first | exact HB.out | apply below_alloc | apply pw_below_drewN | apply below_drew1) | exact HB.out)) hb); clear HO246; clear HO249; clear HB; have HO246 := n0_; have HO249 := n1_; have HO253 := n2_; have HB := n3_; clear n0_ n1_ n2_ n3_; (try clear hb); (try clear hb2); (try clear hk); (try clear hi); (try clear ho0)) | ((with_reducible refine gate_callee (f := 26) rfl ?_); refine goesL_ (some 27) rfl rfl Try.func26 (by kernel_rfl) rfl #[.slice Ao11 t244.length co11, .slice Ao12 t247.length co12] rfl (by (try simp only [List.map_toArray, List.map_cons, List.map_nil]); first | done | rfl | (simp only [List.length_drop, List.length_take]; rfl)) ?_; (with_reducible refine (feedback_Echo.calls k _ _ t244 _ _ t247 t254 t255 _ ?side1 ?side2 ?side3 ?side4 A6.out).mono ?_); (case side1 => repeat (first | exact (Kd.U_reads' HO246.out).2.2 | (with_reducible refine Kd.C_alloc ?_ _) | (with_reducible refine Kd.C_drewN ?_ _) | (with_reducible refine Kd.C_drew ?_))); (case side2 => exact (Kd.U_reads' HO246.out).2.1); (case side3 => repeat (first | exact (Kd.U_reads' HO249.out).2.2 | (with_reducible refine Kd.C_alloc ?_ _) | (with_reducible refine Kd.C_drewN ?_ _) | (with_reducible refine Kd.C_drew ?_))); (case side4 => exact (Kd.U_reads' HO249.out).2.1); rintro e w14 ⟨v256, rfl, ho0, hb⟩; refine ⟨_, rfl, ?_⟩; have n0_ := Aside0.mk (Kd.U_elder' (by (with_reducible repeat (first | apply Kd.U_alloc | apply Kd.U_drewN | apply Kd.U_drew)); exact HO246.out) (Kd.R_base ho0) hb); have n1_ := Aside0.mk (Kd.U_elder' (by (with_reducible repeat (first | apply Kd.U_alloc | apply Kd.U_drewN | apply Kd.U_drew)); exact HO249.out) (Kd.R_base ho0) hb); have n2_ := Aside0.mk (Kd.R_elder' (by (with_reducible repeat (first | apply Kd.R_alloc | apply Kd.R_drewN | apply Kd.R_drew)); exact HO253.out) (Kd.R_base ho0) hb); have n3_ := Aside0.mk (Kd.R_lower (Kd.R_new' (Kd.R_new' (Kd.R_new' ho0 (Kd.U_lt (by (with_reducible repeat (first | apply Kd.U_alloc | apply Kd.U_drewN | apply Kd.U_drew)); exact HO246.out))) (Kd.U_lt (by (with_reducible repeat (first | apply Kd.U_alloc | apply Kd.U_drewN | apply Kd.U_drew)); exact HO249.out))) (Kd.R_lt (by (with_reducible repeat (first | apply Kd.R_alloc | apply Kd.R_drewN | apply Kd.R_drew)); exact HO253.out))) (below_size (by repeat (first | (with_reducible first | exact HB.out | apply below_alloc | apply pw_below_drewN | apply below_drew1) | exact HB.out)))); have n4_ := Aside0.mk (below_step (by repeat (first | (with_reducible first | exact HB.out | apply below_alloc | apply pw_below_drewN | apply below_drew1) | exact HB.out)) hb); clear HO246; clear HO249; clear HO253; clear HB; have HO246 := n0_; have HO249 := n1_; have HO253 := n2_; have HO257 := n3_; have HB := n4_; clear n0_ n1_ n2_ n3_ n4_; (try clear hb); (try clear hb2); (try clear hk); (try clear hi); (try clear ho0)) | ((with_reducible refine gate_callee (f := 26) rfl ?_); refine goesL_ (some 33) rfl rfl Try.func26 (by kernel_rfl) rfl #[.slice Ao11 t244.length co11, .slice Ao12 t247.length co12] rfl (by (try simp only [List.map_toArray, List.map_cons, List.map_nil]); first | done | rfl | (simp only [List.length_drop, List.length_take]; rfl)) ?_; (with_reducible refine (feedback_Echo.calls k _ _ t244 _ _ t247 t258 t259 _ ?side1 ?side2 ?side3 ?side4 A7.out).mono ?_); (case side1 => repeat (first | exact (Kd.U_reads' HO246.out).2.2 | (with_reducible refine Kd.C_alloc ?_ _) | (with_reducible refine Kd.C_drewN ?_ _) | (with_reducible refine Kd.C_drew ?_))); (case side2 => exact (Kd.U_reads' HO246.out).2.1); (case side3 => repeat (first | exact (Kd.U_reads' HO249.out).2.2 | (with_reducible refine Kd.C_alloc ?_ _) | (with_reducible refine Kd.C_drewN ?_ _) | (with_reducible refine Kd.C_drew ?_))); (case side4 => exact (Kd.U_reads' HO249.out).2.1); rintro e w15 ⟨v260, rfl, ho0, hb⟩; refine ⟨_, rfl, ?_⟩; have n0_ := Aside0.mk (Kd.U_elder' (by (with_reducible repeat (first | apply Kd.U_alloc | apply Kd.U_drewN | apply Kd.U_drew)); exact HO246.out) (Kd.R_base ho0) hb); have n1_ := Aside0.mk (Kd.U_elder' (by (with_reducible repeat (first | apply Kd.U_alloc | apply Kd.U_drewN | apply Kd.U_drew)); exact HO249.out) (Kd.R_base ho0) hb); have n2_ := Aside0.mk (Kd.R_elder' (by (with_reducible repeat (first | apply Kd.R_alloc | apply Kd.R_drewN | apply Kd.R_drew)); exact HO253.out) (Kd.R_base ho0) hb); have n3_ := Aside0.mk (Kd.R_elder' (by (with_reducible repeat (first | apply Kd.R_alloc | apply Kd.R_drewN | apply Kd.R_drew)); exact HO257.out) (Kd.R_base ho0) hb); have n4_ := Aside0.mk (Kd.R_lower (Kd.R_new' (Kd.R_new' (Kd.R_new' (Kd.R_new' ho0 (Kd.U_lt (by (with_reducible repeat (first | apply Kd.U_alloc | apply Kd.U_drewN | apply Kd.U_drew)); exact HO246.out))) (Kd.U_lt (by (with_reducible repeat (first | apply Kd.U_alloc | apply Kd.U_drewN | apply Kd.U_drew)); exact HO249.out))) (Kd.R_lt (by (with_reducible repeat (first | apply Kd.R_alloc | apply Kd.R_drewN | apply Kd.R_drew)); exact HO253.out))) (Kd.R_lt (by (with_reducible repeat (first | apply Kd.R_alloc | apply Kd.R_drewN | apply Kd.R_drew)); exact HO257.out))) (below_size (by repeat (first | (with_reducible first | exact HB.out | apply below_alloc | apply pw_below_drewN | apply below_drew1) | exact HB.out)))); have n5_ := Aside0.mk (below_step (by repeat (first | (with_reducible first | exact HB.out | apply below_alloc | apply pw_below_drewN | apply below_drew1) | exact HB.out)) hb); clear HO246; clear HO249; clear HO253; clear HO257; clear HB; have HO246 := n0_; have HO249 := n1_; have HO253 := n2_; have HO257 := n3_; have HO261 := n4_; have HB := n5_; clear n0_ n1_ n2_ n3_ n4_ n5_; (try clear hb); (try clear hb2); (try clear hk); (try clear hi); (try clear ho0)))
  (try simp only [Act.put, List.setIfInBounds_toArray, List.set_cons_zero, List.set_cons_succ])
  go_cut [88] (fun v88 wc => ∃ (kq : Nat) (x88_7 : Bool), v88 = .bool x88_7 ∧ Aside0 (foghornlaw11_FeedbackEchoes.j0 kq t244 t247 x88_7 = some r) ∧ Aside0 (kq ≤ k) ∧ Aside0 (Kd.U (Kd.cplx, (4651892959631900672, 0)) 32 wc w.heap.size (fun k_ => some k_ ≠ ((.slice Ao12 t247.length co12) : Value).ownBlock) (.slice Ao11 t244.length co11) t244) ∧ Aside0 (Kd.U (Kd.cplx, (4651892959631900672, 0)) 32 wc w.heap.size (fun k_ => some k_ ≠ ((.slice Ao11 t244.length co11) : Value).ownBlock) (.slice Ao12 t247.length co12) t247) ∧ Aside0 (Below w.heap.size w wc))
  case first =>
    have H := HC8.out
    clear HC8
    replace H := Option.bind_eq_some_iff.mp H
    obtain ⟨t262, A160, H⟩ := H
    replace H : ((foghornref11_Check.f k t244).bind fun t263 => (if t262 = t263 then (if t255 = t251 then (if t259 = t251 then ((foghornlaw11_fresh.f k t254 t258 t250).bind fun t264 => (if t264 = true then (if (wrap64 ((l0.length : Int) + 1)) = (t244.length : Int) + 1 then ((some (t244 ++ [(4651892959631900672, 0)] : List (Nat × Nat))).bind fun y265 => (if 0 ≤ (l0.length : Int) then (if (l0.length : Int) < (y265.length : Int) then (if (!((FloatKind.f64.format.order ((rdOf (0, 0) y265 (l0.length : Int)).1) 4651892959631900672 == some .eq) && (FloatKind.f64.format.order ((rdOf (0, 0) y265 (l0.length : Int)).2) 0 == some .eq))) = true then (foghornlaw11_FeedbackEchoes.j0 k t244 t247 true) else (if (wrap64 ((l1.length : Int) + 1)) = (t247.length : Int) + 1 then ((some (t247 ++ [(4651892959631900672, 0)] : List (Nat × Nat))).bind fun y270 => (if 0 ≤ (l1.length : Int) then (if (l1.length : Int) < (y270.length : Int) then (if (!((FloatKind.f64.format.order ((rdOf (0, 0) y270 (l1.length : Int)).1) 4651892959631900672 == some .eq) && (FloatKind.f64.format.order ((rdOf (0, 0) y270 (l1.length : Int)).2) 0 == some .eq))) = true then (foghornlaw11_FeedbackEchoes.j0 k t244 t247 true) else ((foghornlaw11_numbers.f k l1).bind fun t275 => ((foghornref11_Same.f k t247 t275).bind fun t278 => (foghornlaw11_FeedbackEchoes.j0 k t244 t247 (!t278))))) else (none)) else (none))) else (none))) else (none)) else (none))) else (none)) else (foghornlaw11_FeedbackEchoes.j0 k t244 t247 true))) else (foghornlaw11_FeedbackEchoes.j0 k t244 t247 true)) else (foghornlaw11_FeedbackEchoes.j0 k t244 t247 true)) else (foghornlaw11_FeedbackEchoes.j0 k t244 t247 true))) = some r := H
    have A16 := Aside0.mk A160
    clear A160
    replace H := Option.bind_eq_some_iff.mp H
    obtain ⟨t263, A170, H⟩ := H
    replace H : (if t262 = t263 then (if t255 = t251 then (if t259 = t251 then ((foghornlaw11_fresh.f k t254 t258 t250).bind fun t264 => (if t264 = true then (if (wrap64 ((l0.length : Int) + 1)) = (t244.length : Int) + 1 then ((some (t244 ++ [(4651892959631900672, 0)] : List (Nat × Nat))).bind fun y265 => (if 0 ≤ (l0.length : Int) then (if (l0.length : Int) < (y265.length : Int) then (if (!((FloatKind.f64.format.order ((rdOf (0, 0) y265 (l0.length : Int)).1) 4651892959631900672 == some .eq) && (FloatKind.f64.format.order ((rdOf (0, 0) y265 (l0.length : Int)).2) 0 == some .eq))) = true then (foghornlaw11_FeedbackEchoes.j0 k t244 t247 true) else (if (wrap64 ((l1.length : Int) + 1)) = (t247.length : Int) + 1 then ((some (t247 ++ [(4651892959631900672, 0)] : List (Nat × Nat))).bind fun y270 => (if 0 ≤ (l1.length : Int) then (if (l1.length : Int) < (y270.length : Int) then (if (!((FloatKind.f64.format.order ((rdOf (0, 0) y270 (l1.length : Int)).1) 4651892959631900672 == some .eq) && (FloatKind.f64.format.order ((rdOf (0, 0) y270 (l1.length : Int)).2) 0 == some .eq))) = true then (foghornlaw11_FeedbackEchoes.j0 k t244 t247 true) else ((foghornlaw11_numbers.f k l1).bind fun t275 => ((foghornref11_Same.f k t247 t275).bind fun t278 => (foghornlaw11_FeedbackEchoes.j0 k t244 t247 (!t278))))) else (none)) else (none))) else (none))) else (none)) else (none))) else (none)) else (foghornlaw11_FeedbackEchoes.j0 k t244 t247 true))) else (foghornlaw11_FeedbackEchoes.j0 k t244 t247 true)) else (foghornlaw11_FeedbackEchoes.j0 k t244 t247 true)) else (foghornlaw11_FeedbackEchoes.j0 k t244 t247 true)) = some r := H
    have A17 := Aside0.mk A170
    clear A170
    by_cases c18 : t262 = t263
    · rw [if_pos c18] at H
      have c18b0 : (t262 == t263) = true := beq_iff_eq.mpr c18
      have c18b1 : (t262 != t263) = false := bne_eq_false_iff_eq.mpr c18
      clear c18
      (first | rw [c18b0] | (simp only [i64_w, i32_w]; rw [c18b0]) | skip)
      by_cases c19 : t255 = t251
      · rw [if_pos c19] at H
        have c19b0 : (t255 == t251) = true := beq_iff_eq.mpr c19
        have c19b1 : (t255 != t251) = false := bne_eq_false_iff_eq.mpr c19
        clear c19
        by_cases c20 : t259 = t251
        · rw [if_pos c20] at H
          have c20b0 : (t259 == t251) = true := beq_iff_eq.mpr c20
          have c20b1 : (t259 != t251) = false := bne_eq_false_iff_eq.mpr c20
          clear c20
          replace H := Option.bind_eq_some_iff.mp H
          obtain ⟨t264, A210, H⟩ := H
          replace H : (if t264 = true then (if (wrap64 ((l0.length : Int) + 1)) = (t244.length : Int) + 1 then ((some (t244 ++ [(4651892959631900672, 0)] : List (Nat × Nat))).bind fun y265 => (if 0 ≤ (l0.length : Int) then (if (l0.length : Int) < (y265.length : Int) then (if (!((FloatKind.f64.format.order ((rdOf (0, 0) y265 (l0.length : Int)).1) 4651892959631900672 == some .eq) && (FloatKind.f64.format.order ((rdOf (0, 0) y265 (l0.length : Int)).2) 0 == some .eq))) = true then (foghornlaw11_FeedbackEchoes.j0 k t244 t247 true) else (if (wrap64 ((l1.length : Int) + 1)) = (t247.length : Int) + 1 then ((some (t247 ++ [(4651892959631900672, 0)] : List (Nat × Nat))).bind fun y270 => (if 0 ≤ (l1.length : Int) then (if (l1.length : Int) < (y270.length : Int) then (if (!((FloatKind.f64.format.order ((rdOf (0, 0) y270 (l1.length : Int)).1) 4651892959631900672 == some .eq) && (FloatKind.f64.format.order ((rdOf (0, 0) y270 (l1.length : Int)).2) 0 == some .eq))) = true then (foghornlaw11_FeedbackEchoes.j0 k t244 t247 true) else ((foghornlaw11_numbers.f k l1).bind fun t275 => ((foghornref11_Same.f k t247 t275).bind fun t278 => (foghornlaw11_FeedbackEchoes.j0 k t244 t247 (!t278))))) else (none)) else (none))) else (none))) else (none)) else (none))) else (none)) else (foghornlaw11_FeedbackEchoes.j0 k t244 t247 true)) = some r := H
          have A21 := Aside0.mk A210
          clear A210
          by_cases c22 : t264 = true
          · subst c22
            have H1 : (if (wrap64 ((l0.length : Int) + 1)) = (t244.length : Int) + 1 then ((some (t244 ++ [(4651892959631900672, 0)] : List (Nat × Nat))).bind fun y265 => (if 0 ≤ (l0.length : Int) then (if (l0.length : Int) < (y265.length : Int) then (if (!((FloatKind.f64.format.order ((rdOf (0, 0) y265 (l0.length : Int)).1) 4651892959631900672 == some .eq) && (FloatKind.f64.format.order ((rdOf (0, 0) y265 (l0.length : Int)).2) 0 == some .eq))) = true then (foghornlaw11_FeedbackEchoes.j0 k t244 t247 true) else (if (wrap64 ((l1.length : Int) + 1)) = (t247.length : Int) + 1 then ((some (t247 ++ [(4651892959631900672, 0)] : List (Nat × Nat))).bind fun y270 => (if 0 ≤ (l1.length : Int) then (if (l1.length : Int) < (y270.length : Int) then (if (!((FloatKind.f64.format.order ((rdOf (0, 0) y270 (l1.length : Int)).1) 4651892959631900672 == some .eq) && (FloatKind.f64.format.order ((rdOf (0, 0) y270 (l1.length : Int)).2) 0 == some .eq))) = true then (foghornlaw11_FeedbackEchoes.j0 k t244 t247 true) else ((foghornlaw11_numbers.f k l1).bind fun t275 => ((foghornref11_Same.f k t247 t275).bind fun t278 => (foghornlaw11_FeedbackEchoes.j0 k t244 t247 (!t278))))) else (none)) else (none))) else (none))) else (none)) else (none))) else (none)) = some r := by rw [if_pos rfl] at H; exact H
            clear H
            have H := H1
            clear H1
            by_cases c23 : (wrap64 ((l0.length : Int) + 1)) = (t244.length : Int) + 1
            · rw [if_pos c23] at H
              have c23b0 := eq_true c23
              have c23b1 : decide ((wrap64 ((l0.length : Int) + 1)) = (t244.length : Int) + 1) = true := decide_eq_true c23
              clear c23
              obtain ⟨y265, hy265⟩ : ∃ y_ : List (Nat × Nat), y_ = (t244 ++ [(4651892959631900672, 0)]) := ⟨_, rfl⟩
              replace H : (if 0 ≤ (l0.length : Int) then (if (l0.length : Int) < (y265.length : Int) then (if (!((FloatKind.f64.format.order ((rdOf (0, 0) y265 (l0.length : Int)).1) 4651892959631900672 == some .eq) && (FloatKind.f64.format.order ((rdOf (0, 0) y265 (l0.length : Int)).2) 0 == some .eq))) = true then (foghornlaw11_FeedbackEchoes.j0 k t244 t247 true) else (if (wrap64 ((l1.length : Int) + 1)) = (t247.length : Int) + 1 then ((some (t247 ++ [(4651892959631900672, 0)] : List (Nat × Nat))).bind fun y270 => (if 0 ≤ (l1.length : Int) then (if (l1.length : Int) < (y270.length : Int) then (if (!((FloatKind.f64.format.order ((rdOf (0, 0) y270 (l1.length : Int)).1) 4651892959631900672 == some .eq) && (FloatKind.f64.format.order ((rdOf (0, 0) y270 (l1.length : Int)).2) 0 == some .eq))) = true then (foghornlaw11_FeedbackEchoes.j0 k t244 t247 true) else ((foghornlaw11_numbers.f k l1).bind fun t275 => ((foghornref11_Same.f k t247 t275).bind fun t278 => (foghornlaw11_FeedbackEchoes.j0 k t244 t247 (!t278))))) else (none)) else (none))) else (none))) else (none)) else (none)) = some r := by first | (rw [hy265]; with_reducible exact H) | (have H2_ := (Option.bind_some _ _).symm.trans H; rw [hy265]; with_reducible exact H2_) | (have H2_ := (Option.bind_some _ _).symm.trans H; with_reducible exact H2_) | with_reducible exact H | (rw [hy265]; exact H) | exact H
              have Ny265 := Aside0.mk hy265
              clear hy265
              by_cases c24 : 0 ≤ (l0.length : Int)
              · rw [if_pos c24] at H
                have c24b0 : decide (0 ≤ (l0.length : Int)) = true := decide_eq_true c24
                have c24b1 : decide (0 ≤ l0.length) = true := decide_eq_true (by omega)
                clear c24
                by_cases c25 : (l0.length : Int) < (y265.length : Int)
                · rw [if_pos c25] at H
                  have c25b0 : decide ((l0.length : Int) < (y265.length : Int)) = true := decide_eq_true c25
                  have c25b1 : decide (l0.length < y265.length) = true := decide_eq_true (Int.ofNat_lt.mp c25)
                  clear c25
                  by_cases c26 : (!((FloatKind.f64.format.order ((rdOf (0, 0) y265 (l0.length : Int)).1) 4651892959631900672 == some .eq) && (FloatKind.f64.format.order ((rdOf (0, 0) y265 (l0.length : Int)).2) 0 == some .eq))) = true
                  · rw [if_pos c26] at H
                    have c26b0 : (!((FloatKind.f64.format.order ((rdOf (0, 0) y265 (l0.length : Int)).1) 4651892959631900672 == some .eq) && (FloatKind.f64.format.order ((rdOf (0, 0) y265 (l0.length : Int)).2) 0 == some .eq))) = true := c26
                    clear c26
                    as_aux_lemma =>
                      have H' := Aside0.mk H
                      clear H
                      go_wp2_with (first | ((with_reducible refine gate_callee (f := 27) rfl ?_); refine goesL_ (some 37) rfl rfl Try.func27 (by kernel_rfl) rfl #[.slice Ao11 t244.length co11] rfl (by (try simp only [List.map_toArray, List.map_cons, List.map_nil]); first | done | rfl | (simp only [List.length_drop, List.length_take]; rfl)) ?_; (with_reducible refine (feedback_Check.calls k _ _ t244 t262 _ ?side1 ?side2 A16.out).mono ?_); (case side1 => repeat (first | exact (Kd.U_reads' HO246.out).2.2 | (with_reducible refine Kd.C_alloc ?_ _) | (with_reducible refine Kd.C_drewN ?_ _) | (with_reducible refine Kd.C_drew ?_))); (case side2 => exact (Kd.U_reads' HO246.out).2.1); rintro e w27 ⟨rfl, hb⟩; refine ⟨_, rfl, ?_⟩; have n0_ := Aside0.mk (Kd.U_below (by (with_reducible repeat (first | apply Kd.U_alloc | apply Kd.U_drewN | apply Kd.U_drew)); exact HO246.out) hb); have n1_ := Aside0.mk (Kd.U_below (by (with_reducible repeat (first | apply Kd.U_alloc | apply Kd.U_drewN | apply Kd.U_drew)); exact HO249.out) hb); have n2_ := Aside0.mk (Kd.R_below (by (with_reducible repeat (first | apply Kd.R_alloc | apply Kd.R_drewN | apply Kd.R_drew)); exact HO253.out) hb); have n3_ := Aside0.mk (Kd.R_below (by (with_reducible repeat (first | apply Kd.R_alloc | apply Kd.R_drewN | apply Kd.R_drew)); exact HO257.out) hb); have n4_ := Aside0.mk (Kd.R_below (by (with_reducible repeat (first | apply Kd.R_alloc | apply Kd.R_drewN | apply Kd.R_drew)); exact HO261.out) hb); have n5_ := Aside0.mk (below_step (by repeat (first | (with_reducible first | exact HB.out | apply below_alloc | apply pw_below_drewN | apply below_drew1) | exact HB.out)) hb); clear HO246; clear HO249; clear HO253; clear HO257; clear HO261; clear HB; have HO246 := n0_; have HO249 := n1_; have HO253 := n2_; have HO257 := n3_; have HO261 := n4_; have HB := n5_; clear n0_ n1_ n2_ n3_ n4_ n5_; (try clear hb); (try clear hb2); (try clear hk); (try clear hi)) | ((with_reducible refine gate_callee (f := 28) rfl ?_); refine goesL_ (some 39) rfl rfl Try.func28 (by kernel_rfl) rfl #[.slice Ao11 t244.length co11] rfl (by (try simp only [List.map_toArray, List.map_cons, List.map_nil]); first | done | rfl | (simp only [List.length_drop, List.length_take]; rfl)) ?_; (with_reducible refine (foghornref11_Check.calls k _ _ t244 t263 _ ?side1 ?side2 A17.out).mono ?_); (case side1 => repeat (first | exact (Kd.U_reads' HO246.out).2.2 | (with_reducible refine Kd.C_alloc ?_ _) | (with_reducible refine Kd.C_drewN ?_ _) | (with_reducible refine Kd.C_drew ?_))); (case side2 => exact (Kd.U_reads' HO246.out).2.1); rintro e w28 ⟨rfl, hb⟩; refine ⟨_, rfl, ?_⟩; have n0_ := Aside0.mk (Kd.U_below (by (with_reducible repeat (first | apply Kd.U_alloc | apply Kd.U_drewN | apply Kd.U_drew)); exact HO246.out) hb); have n1_ := Aside0.mk (Kd.U_below (by (with_reducible repeat (first | apply Kd.U_alloc | apply Kd.U_drewN | apply Kd.U_drew)); exact HO249.out) hb); have n2_ := Aside0.mk (Kd.R_below (by (with_reducible repeat (first | apply Kd.R_alloc | apply Kd.R_drewN | apply Kd.R_drew)); exact HO253.out) hb); have n3_ := Aside0.mk (Kd.R_below (by (with_reducible repeat (first | apply Kd.R_alloc | apply Kd.R_drewN | apply Kd.R_drew)); exact HO257.out) hb); have n4_ := Aside0.mk (Kd.R_below (by (with_reducible repeat (first | apply Kd.R_alloc | apply Kd.R_drewN | apply Kd.R_drew)); exact HO261.out) hb); have n5_ := Aside0.mk (below_step (by repeat (first | (with_reducible first | exact HB.out | apply below_alloc | apply pw_below_drewN | apply below_drew1) | exact HB.out)) hb); clear HO246; clear HO249; clear HO253; clear HO257; clear HO261; clear HB; have HO246 := n0_; have HO249 := n1_; have HO253 := n2_; have HO257 := n3_; have HO261 := n4_; have HB := n5_; clear n0_ n1_ n2_ n3_ n4_ n5_; (try clear hb); (try clear hb2); (try clear hk); (try clear hi); obtain ⟨Ao29, co29, eo29⟩ := Kd.R_slice HO257.out; subst eo29; obtain ⟨Ao30, co30, eo30⟩ := Kd.R_slice HO261.out; subst eo30; obtain ⟨Ao31, co31, eo31⟩ := Kd.R_slice HO253.out; subst eo31) | (go_at_call 29; (with_reducible refine (foghornlaw11_fresh.calls k (fun k_ => some k_ = (.slice Ao29 t254.length co29 : Value).ownBlock) (.slice Ao29 t254.length co29) t254 _ _ t258 _ _ t250 true w _ ?side1 ?side2 ?side3 ?side4 ?side5 ?side6 A21.out).mono ?_); (case side1 => repeat (first | (with_reducible first | exact HB.out | apply below_alloc | apply pw_below_drewN | apply below_drew1) | exact HB.out)); (case side2 => exact Kd.R_tight rfl HO257.out); (case side3 => exact Kd.C_kept_own (HO261.out) (fun k_ hk_ hs_ => (hk_.2) hs_)); (case side4 => exact (Kd.R_reads' HO261.out).2.1); (case side5 => exact Kd.C_kept_own (HO253.out) (fun k_ hk_ hs_ => (hk_.1.2) hs_)); (case side6 => exact (Kd.R_reads' HO253.out).2.1); rintro e w32 ⟨rfl, hb, hkp⟩; have n0_ := Aside0.mk (Kd.U_mono (ok' := fun k_ => some k_ ≠ (.slice Ao12 t247.length co12 : Value).ownBlock ∧ some k_ ≠ (.slice Ao31 t250.length co31 : Value).ownBlock ∧ some k_ ≠ (.slice Ao30 t258.length co30 : Value).ownBlock) (Kd.U_keptB (HO246.out) hkp (fun k_ hk_ hs_ => (hk_.1.2) hs_)) (fun k_ hk_ => ⟨hk_.1.1.1.1.2, hk_.1.1.1.2, hk_.1.2⟩)); have n1_ := Aside0.mk (Kd.U_mono (ok' := fun k_ => some k_ ≠ (.slice Ao11 t244.length co11 : Value).ownBlock ∧ some k_ ≠ (.slice Ao31 t250.length co31 : Value).ownBlock ∧ some k_ ≠ (.slice Ao30 t258.length co30 : Value).ownBlock) (Kd.U_keptB (HO249.out) hkp (fun k_ hk_ hs_ => (hk_.1.2) hs_)) (fun k_ hk_ => ⟨hk_.1.1.1.1.2, hk_.1.1.1.2, hk_.1.2⟩)); have n2_ := Aside0.mk (Kd.R_mono (ok' := fun k_ => some k_ ≠ (.slice Ao11 t244.length co11 : Value).ownBlock ∧ some k_ ≠ (.slice Ao12 t247.length co12 : Value).ownBlock ∧ some k_ ≠ (.slice Ao30 t258.length co30 : Value).ownBlock) (Kd.R_keptB (HO253.out) hkp (fun k_ hk_ hs_ => (hk_.1.2) hs_)) (fun k_ hk_ => ⟨hk_.1.1.1.1.2, hk_.1.1.1.2, hk_.1.2⟩)); have n3_ := Aside0.mk (Kd.R_mono (ok' := fun k_ => some k_ ≠ (.slice Ao11 t244.length co11 : Value).ownBlock ∧ some k_ ≠ (.slice Ao12 t247.length co12 : Value).ownBlock ∧ some k_ ≠ (.slice Ao31 t250.length co31 : Value).ownBlock) (Kd.R_keptB (HO261.out) hkp (fun k_ hk_ hs_ => (hk_.2) hs_)) (fun k_ hk_ => ⟨hk_.1.1.1.1.2, hk_.1.1.1.2, hk_.1.1.2⟩)); have n4_ := Aside0.mk (hb); clear HO246; clear HO249; clear HO253; clear HO261; clear HB; clear HO257; have HO246 := n0_; have HO249 := n1_; have HO253 := n2_; have HO261 := n3_; have HB := n4_; clear n0_ n1_ n2_ n3_ n4_; (try clear hb); (try clear hkp); obtain ⟨i033, hi033, _, hsz33, _⟩ := info_parts info32; have hq33 : ((wrap64 ((l0.length : Int) + 1)) : Int) = (t244.length : Int) + 1 := of_decide_eq_true (by first | (with_reducible assumption) | assumption); have hn33 := (Kd.U_full HO246.out).1; have hrd33 := Kd.R_reads' (Kd.U_full HO246.out).2; have hcut33 := cut_more (P := Try.prog) 24 32 .i64 Try.underlying24 hi033 Ao11 t244.length co11 (wrap64 ((l0.length : Int) + 1)) (by omega) (by have := hrd33.2.1; omega); have hy33 : y265.length = ((wrap64 ((l0.length : Int) + 1)) : Int).toNat := (by rw [Ny265.out, List.length_append]; simp only [List.length_cons, List.length_nil]; omega); have hr33 := hrd33.2.2; rw [← Ny265.out] at hr33; rw [← hy33] at hcut33; have HR268 := Aside0.mk hr33; have HC268 := Aside0.mk (show y265.length ≤ co11 from by have := hrd33.2.1; omega); have KY33 := Aside0.mk hy33; clear hr33 hrd33 hy33 hq33 hn33 hi033 hsz33; have p269 : 0 ≤ ((l0.length : Int) : Int) := of_decide_eq_true (by first | (with_reducible assumption) | assumption); have q269 : (l0.length : Int) < (y265.length : Int) := of_decide_eq_true (by first | (with_reducible assumption) | assumption); obtain ⟨ad269, e269, hx269_0⟩ := Kd.at_cplx (by repeat (first | (with_reducible exact HR268.out) | (with_reducible refine Kd.C_alloc ?_ _) | (with_reducible refine Kd.C_drewN ?_ _) | (with_reducible refine Kd.C_drew ?_) | exact HR268.out)) (l0.length : Int) p269 q269; cases e269; (try simp only [Go.IntWalk.toNatUp] at hx269_0); replace p269 := eq_true p269; replace q269 := eq_true q269))
                      go_meet
                      case rel => exact ⟨_, (true), (by first | rfl | (simp; done) | (simp [*]; done)), H', ⟨by first | omega | exact Nat.le_refl _⟩, ⟨by (with_reducible repeat (first | apply Kd.U_alloc | apply Kd.U_drewN | apply Kd.U_drew)); exact Kd.U_mono HO246.out (fun _ hk => hk.1)⟩, ⟨by (with_reducible repeat (first | apply Kd.U_alloc | apply Kd.U_drewN | apply Kd.U_drew)); exact Kd.U_mono HO249.out (fun _ hk => hk.1)⟩, ⟨by repeat (first | (with_reducible first | exact HB.out | apply below_alloc | apply pw_below_drewN | apply below_drew1) | exact HB.out)⟩⟩
                  · rw [if_neg c26] at H
                    have c26b0 : (!((FloatKind.f64.format.order ((rdOf (0, 0) y265 (l0.length : Int)).1) 4651892959631900672 == some .eq) && (FloatKind.f64.format.order ((rdOf (0, 0) y265 (l0.length : Int)).2) 0 == some .eq))) = false := by simpa using c26
                    clear c26
                    by_cases c34 : (wrap64 ((l1.length : Int) + 1)) = (t247.length : Int) + 1
                    · rw [if_pos c34] at H
                      have c34b0 := eq_true c34
                      have c34b1 : decide ((wrap64 ((l1.length : Int) + 1)) = (t247.length : Int) + 1) = true := decide_eq_true c34
                      clear c34
                      obtain ⟨y270, hy270⟩ : ∃ y_ : List (Nat × Nat), y_ = (t247 ++ [(4651892959631900672, 0)]) := ⟨_, rfl⟩
                      replace H : (if 0 ≤ (l1.length : Int) then (if (l1.length : Int) < (y270.length : Int) then (if (!((FloatKind.f64.format.order ((rdOf (0, 0) y270 (l1.length : Int)).1) 4651892959631900672 == some .eq) && (FloatKind.f64.format.order ((rdOf (0, 0) y270 (l1.length : Int)).2) 0 == some .eq))) = true then (foghornlaw11_FeedbackEchoes.j0 k t244 t247 true) else ((foghornlaw11_numbers.f k l1).bind fun t275 => ((foghornref11_Same.f k t247 t275).bind fun t278 => (foghornlaw11_FeedbackEchoes.j0 k t244 t247 (!t278))))) else (none)) else (none)) = some r := by first | (rw [hy270]; with_reducible exact H) | (have H2_ := (Option.bind_some _ _).symm.trans H; rw [hy270]; with_reducible exact H2_) | (have H2_ := (Option.bind_some _ _).symm.trans H; with_reducible exact H2_) | with_reducible exact H | (rw [hy270]; exact H) | exact H
                      have Ny270 := Aside0.mk hy270
                      clear hy270
                      by_cases c35 : 0 ≤ (l1.length : Int)
                      · rw [if_pos c35] at H
                        have c35b0 : decide (0 ≤ (l1.length : Int)) = true := decide_eq_true c35
                        have c35b1 : decide (0 ≤ l1.length) = true := decide_eq_true (by omega)
                        clear c35
                        by_cases c36 : (l1.length : Int) < (y270.length : Int)
                        · rw [if_pos c36] at H
                          have c36b0 : decide ((l1.length : Int) < (y270.length : Int)) = true := decide_eq_true c36
                          have c36b1 : decide (l1.length < y270.length) = true := decide_eq_true (Int.ofNat_lt.mp c36)
                          clear c36
                          by_cases c37 : (!((FloatKind.f64.format.order ((rdOf (0, 0) y270 (l1.length : Int)).1) 4651892959631900672 == some .eq) && (FloatKind.f64.format.order ((rdOf (0, 0) y270 (l1.length : Int)).2) 0 == some .eq))) = true
                          · rw [if_pos c37] at H
                            have c37b0 : (!((FloatKind.f64.format.order ((rdOf (0, 0) y270 (l1.length : Int)).1) 4651892959631900672 == some .eq) && (FloatKind.f64.format.order ((rdOf (0, 0) y270 (l1.length : Int)).2) 0 == some .eq))) = true := c37
                            clear c37
                            as_aux_lemma =>
                              have H' := Aside0.mk H
                              clear H
                              go_wp2_with (first | ((with_reducible refine gate_callee (f := 27) rfl ?_); refine goesL_ (some 37) rfl rfl Try.func27 (by kernel_rfl) rfl #[.slice Ao11 t244.length co11] rfl (by (try simp only [List.map_toArray, List.map_cons, List.map_nil]); first | done | rfl | (simp only [List.length_drop, List.length_take]; rfl)) ?_; (with_reducible refine (feedback_Check.calls k _ _ t244 t262 _ ?side1 ?side2 A16.out).mono ?_); (case side1 => repeat (first | exact (Kd.U_reads' HO246.out).2.2 | (with_reducible refine Kd.C_alloc ?_ _) | (with_reducible refine Kd.C_drewN ?_ _) | (with_reducible refine Kd.C_drew ?_))); (case side2 => exact (Kd.U_reads' HO246.out).2.1); rintro e w38 ⟨rfl, hb⟩; refine ⟨_, rfl, ?_⟩; have n0_ := Aside0.mk (Kd.U_below (by (with_reducible repeat (first | apply Kd.U_alloc | apply Kd.U_drewN | apply Kd.U_drew)); exact HO246.out) hb); have n1_ := Aside0.mk (Kd.U_below (by (with_reducible repeat (first | apply Kd.U_alloc | apply Kd.U_drewN | apply Kd.U_drew)); exact HO249.out) hb); have n2_ := Aside0.mk (Kd.R_below (by (with_reducible repeat (first | apply Kd.R_alloc | apply Kd.R_drewN | apply Kd.R_drew)); exact HO253.out) hb); have n3_ := Aside0.mk (Kd.R_below (by (with_reducible repeat (first | apply Kd.R_alloc | apply Kd.R_drewN | apply Kd.R_drew)); exact HO257.out) hb); have n4_ := Aside0.mk (Kd.R_below (by (with_reducible repeat (first | apply Kd.R_alloc | apply Kd.R_drewN | apply Kd.R_drew)); exact HO261.out) hb); have n5_ := Aside0.mk (below_step (by repeat (first | (with_reducible first | exact HB.out | apply below_alloc | apply pw_below_drewN | apply below_drew1) | exact HB.out)) hb); clear HO246; clear HO249; clear HO253; clear HO257; clear HO261; clear HB; have HO246 := n0_; have HO249 := n1_; have HO253 := n2_; have HO257 := n3_; have HO261 := n4_; have HB := n5_; clear n0_ n1_ n2_ n3_ n4_ n5_; (try clear hb); (try clear hb2); (try clear hk); (try clear hi)) | ((with_reducible refine gate_callee (f := 28) rfl ?_); refine goesL_ (some 39) rfl rfl Try.func28 (by kernel_rfl) rfl #[.slice Ao11 t244.length co11] rfl (by (try simp only [List.map_toArray, List.map_cons, List.map_nil]); first | done | rfl | (simp only [List.length_drop, List.length_take]; rfl)) ?_; (with_reducible refine (foghornref11_Check.calls k _ _ t244 t263 _ ?side1 ?side2 A17.out).mono ?_); (case side1 => repeat (first | exact (Kd.U_reads' HO246.out).2.2 | (with_reducible refine Kd.C_alloc ?_ _) | (with_reducible refine Kd.C_drewN ?_ _) | (with_reducible refine Kd.C_drew ?_))); (case side2 => exact (Kd.U_reads' HO246.out).2.1); rintro e w39 ⟨rfl, hb⟩; refine ⟨_, rfl, ?_⟩; have n0_ := Aside0.mk (Kd.U_below (by (with_reducible repeat (first | apply Kd.U_alloc | apply Kd.U_drewN | apply Kd.U_drew)); exact HO246.out) hb); have n1_ := Aside0.mk (Kd.U_below (by (with_reducible repeat (first | apply Kd.U_alloc | apply Kd.U_drewN | apply Kd.U_drew)); exact HO249.out) hb); have n2_ := Aside0.mk (Kd.R_below (by (with_reducible repeat (first | apply Kd.R_alloc | apply Kd.R_drewN | apply Kd.R_drew)); exact HO253.out) hb); have n3_ := Aside0.mk (Kd.R_below (by (with_reducible repeat (first | apply Kd.R_alloc | apply Kd.R_drewN | apply Kd.R_drew)); exact HO257.out) hb); have n4_ := Aside0.mk (Kd.R_below (by (with_reducible repeat (first | apply Kd.R_alloc | apply Kd.R_drewN | apply Kd.R_drew)); exact HO261.out) hb); have n5_ := Aside0.mk (below_step (by repeat (first | (with_reducible first | exact HB.out | apply below_alloc | apply pw_below_drewN | apply below_drew1) | exact HB.out)) hb); clear HO246; clear HO249; clear HO253; clear HO257; clear HO261; clear HB; have HO246 := n0_; have HO249 := n1_; have HO253 := n2_; have HO257 := n3_; have HO261 := n4_; have HB := n5_; clear n0_ n1_ n2_ n3_ n4_ n5_; (try clear hb); (try clear hb2); (try clear hk); (try clear hi); obtain ⟨Ao40, co40, eo40⟩ := Kd.R_slice HO257.out; subst eo40; obtain ⟨Ao41, co41, eo41⟩ := Kd.R_slice HO261.out; subst eo41; obtain ⟨Ao42, co42, eo42⟩ := Kd.R_slice HO253.out; subst eo42) | (go_at_call 29; (with_reducible refine (foghornlaw11_fresh.calls k (fun k_ => some k_ = (.slice Ao40 t254.length co40 : Value).ownBlock) (.slice Ao40 t254.length co40) t254 _ _ t258 _ _ t250 true w _ ?side1 ?side2 ?side3 ?side4 ?side5 ?side6 A21.out).mono ?_); (case side1 => repeat (first | (with_reducible first | exact HB.out | apply below_alloc | apply pw_below_drewN | apply below_drew1) | exact HB.out)); (case side2 => exact Kd.R_tight rfl HO257.out); (case side3 => exact Kd.C_kept_own (HO261.out) (fun k_ hk_ hs_ => (hk_.2) hs_)); (case side4 => exact (Kd.R_reads' HO261.out).2.1); (case side5 => exact Kd.C_kept_own (HO253.out) (fun k_ hk_ hs_ => (hk_.1.2) hs_)); (case side6 => exact (Kd.R_reads' HO253.out).2.1); rintro e w43 ⟨rfl, hb, hkp⟩; have n0_ := Aside0.mk (Kd.U_mono (ok' := fun k_ => some k_ ≠ (.slice Ao12 t247.length co12 : Value).ownBlock ∧ some k_ ≠ (.slice Ao42 t250.length co42 : Value).ownBlock ∧ some k_ ≠ (.slice Ao41 t258.length co41 : Value).ownBlock) (Kd.U_keptB (HO246.out) hkp (fun k_ hk_ hs_ => (hk_.1.2) hs_)) (fun k_ hk_ => ⟨hk_.1.1.1.1.2, hk_.1.1.1.2, hk_.1.2⟩)); have n1_ := Aside0.mk (Kd.U_mono (ok' := fun k_ => some k_ ≠ (.slice Ao11 t244.length co11 : Value).ownBlock ∧ some k_ ≠ (.slice Ao42 t250.length co42 : Value).ownBlock ∧ some k_ ≠ (.slice Ao41 t258.length co41 : Value).ownBlock) (Kd.U_keptB (HO249.out) hkp (fun k_ hk_ hs_ => (hk_.1.2) hs_)) (fun k_ hk_ => ⟨hk_.1.1.1.1.2, hk_.1.1.1.2, hk_.1.2⟩)); have n2_ := Aside0.mk (Kd.R_mono (ok' := fun k_ => some k_ ≠ (.slice Ao11 t244.length co11 : Value).ownBlock ∧ some k_ ≠ (.slice Ao12 t247.length co12 : Value).ownBlock ∧ some k_ ≠ (.slice Ao41 t258.length co41 : Value).ownBlock) (Kd.R_keptB (HO253.out) hkp (fun k_ hk_ hs_ => (hk_.1.2) hs_)) (fun k_ hk_ => ⟨hk_.1.1.1.1.2, hk_.1.1.1.2, hk_.1.2⟩)); have n3_ := Aside0.mk (Kd.R_mono (ok' := fun k_ => some k_ ≠ (.slice Ao11 t244.length co11 : Value).ownBlock ∧ some k_ ≠ (.slice Ao12 t247.length co12 : Value).ownBlock ∧ some k_ ≠ (.slice Ao42 t250.length co42 : Value).ownBlock) (Kd.R_keptB (HO261.out) hkp (fun k_ hk_ hs_ => (hk_.2) hs_)) (fun k_ hk_ => ⟨hk_.1.1.1.1.2, hk_.1.1.1.2, hk_.1.1.2⟩)); have n4_ := Aside0.mk (hb); clear HO246; clear HO249; clear HO253; clear HO261; clear HB; clear HO257; have HO246 := n0_; have HO249 := n1_; have HO253 := n2_; have HO261 := n3_; have HB := n4_; clear n0_ n1_ n2_ n3_ n4_; (try clear hb); (try clear hkp); obtain ⟨i044, hi044, _, hsz44, _⟩ := info_parts info32; have hq44 : ((wrap64 ((l0.length : Int) + 1)) : Int) = (t244.length : Int) + 1 := of_decide_eq_true (by first | (with_reducible assumption) | assumption); have hn44 := (Kd.U_full HO246.out).1; have hrd44 := Kd.R_reads' (Kd.U_full HO246.out).2; have hcut44 := cut_more (P := Try.prog) 24 32 .i64 Try.underlying24 hi044 Ao11 t244.length co11 (wrap64 ((l0.length : Int) + 1)) (by omega) (by have := hrd44.2.1; omega); have hy44 : y265.length = ((wrap64 ((l0.length : Int) + 1)) : Int).toNat := (by rw [Ny265.out, List.length_append]; simp only [List.length_cons, List.length_nil]; omega); have hr44 := hrd44.2.2; rw [← Ny265.out] at hr44; rw [← hy44] at hcut44; have HR268 := Aside0.mk hr44; have HC268 := Aside0.mk (show y265.length ≤ co11 from by have := hrd44.2.1; omega); have KY44 := Aside0.mk hy44; clear hr44 hrd44 hy44 hq44 hn44 hi044 hsz44; have p269 : 0 ≤ ((l0.length : Int) : Int) := of_decide_eq_true (by first | (with_reducible assumption) | assumption); have q269 : (l0.length : Int) < (y265.length : Int) := of_decide_eq_true (by first | (with_reducible assumption) | assumption); obtain ⟨ad269, e269, hx269_0⟩ := Kd.at_cplx (by repeat (first | (with_reducible exact HR268.out) | (with_reducible refine Kd.C_alloc ?_ _) | (with_reducible refine Kd.C_drewN ?_ _) | (with_reducible refine Kd.C_drew ?_) | exact HR268.out)) (l0.length : Int) p269 q269; cases e269; (try simp only [Go.IntWalk.toNatUp] at hx269_0); replace p269 := eq_true p269; replace q269 := eq_true q269; obtain ⟨i045, hi045, _, hsz45, _⟩ := info_parts info32; have hq45 : ((wrap64 ((l1.length : Int) + 1)) : Int) = (t247.length : Int) + 1 := of_decide_eq_true (by first | (with_reducible assumption) | assumption); have hn45 := (Kd.U_full HO249.out).1; have hrd45 := Kd.R_reads' (Kd.U_full HO249.out).2; have hcut45 := cut_more (P := Try.prog) 24 32 .i64 Try.underlying24 hi045 Ao12 t247.length co12 (wrap64 ((l1.length : Int) + 1)) (by omega) (by have := hrd45.2.1; omega); have hy45 : y270.length = ((wrap64 ((l1.length : Int) + 1)) : Int).toNat := (by rw [Ny270.out, List.length_append]; simp only [List.length_cons, List.length_nil]; omega); have hr45 := hrd45.2.2; rw [← Ny270.out] at hr45; rw [← hy45] at hcut45; have HR273 := Aside0.mk hr45; have HC273 := Aside0.mk (show y270.length ≤ co12 from by have := hrd45.2.1; omega); have KY45 := Aside0.mk hy45; clear hr45 hrd45 hy45 hq45 hn45 hi045 hsz45; have p274 : 0 ≤ ((l1.length : Int) : Int) := of_decide_eq_true (by first | (with_reducible assumption) | assumption); have q274 : (l1.length : Int) < (y270.length : Int) := of_decide_eq_true (by first | (with_reducible assumption) | assumption); obtain ⟨ad274, e274, hx274_0⟩ := Kd.at_cplx (by repeat (first | (with_reducible exact HR273.out) | (with_reducible refine Kd.C_alloc ?_ _) | (with_reducible refine Kd.C_drewN ?_ _) | (with_reducible refine Kd.C_drew ?_) | exact HR273.out)) (l1.length : Int) p274 q274; cases e274; (try simp only [Go.IntWalk.toNatUp] at hx274_0); replace p274 := eq_true p274; replace q274 := eq_true q274))
                              go_meet
                              case rel => exact ⟨_, (true), (by first | rfl | (simp; done) | (simp [*]; done)), H', ⟨by first | omega | exact Nat.le_refl _⟩, ⟨by (with_reducible repeat (first | apply Kd.U_alloc | apply Kd.U_drewN | apply Kd.U_drew)); exact Kd.U_mono HO246.out (fun _ hk => hk.1)⟩, ⟨by (with_reducible repeat (first | apply Kd.U_alloc | apply Kd.U_drewN | apply Kd.U_drew)); exact Kd.U_mono HO249.out (fun _ hk => hk.1)⟩, ⟨by repeat (first | (with_reducible first | exact HB.out | apply below_alloc | apply pw_below_drewN | apply below_drew1) | exact HB.out)⟩⟩
                          · rw [if_neg c37] at H
                            have c37b0 : (!((FloatKind.f64.format.order ((rdOf (0, 0) y270 (l1.length : Int)).1) 4651892959631900672 == some .eq) && (FloatKind.f64.format.order ((rdOf (0, 0) y270 (l1.length : Int)).2) 0 == some .eq))) = false := by simpa using c37
                            clear c37
                            replace H := Option.bind_eq_some_iff.mp H
                            obtain ⟨t275, A460, H⟩ := H
                            replace H : ((foghornref11_Same.f k t247 t275).bind fun t278 => (foghornlaw11_FeedbackEchoes.j0 k t244 t247 (!t278))) = some r := H
                            have A46 := Aside0.mk A460
                            clear A460
                            replace H := Option.bind_eq_some_iff.mp H
                            obtain ⟨t278, A470, H⟩ := H
                            replace H : (foghornlaw11_FeedbackEchoes.j0 k t244 t247 (!t278)) = some r := H
                            have A47 := Aside0.mk A470
                            clear A470
                            as_aux_lemma =>
                              have H' := Aside0.mk H
                              clear H
                              go_wp2_with (first | ((with_reducible refine gate_callee (f := 27) rfl ?_); refine goesL_ (some 37) rfl rfl Try.func27 (by kernel_rfl) rfl #[.slice Ao11 t244.length co11] rfl (by (try simp only [List.map_toArray, List.map_cons, List.map_nil]); first | done | rfl | (simp only [List.length_drop, List.length_take]; rfl)) ?_; (with_reducible refine (feedback_Check.calls k _ _ t244 t262 _ ?side1 ?side2 A16.out).mono ?_); (case side1 => repeat (first | exact (Kd.U_reads' HO246.out).2.2 | (with_reducible refine Kd.C_alloc ?_ _) | (with_reducible refine Kd.C_drewN ?_ _) | (with_reducible refine Kd.C_drew ?_))); (case side2 => exact (Kd.U_reads' HO246.out).2.1); rintro e w48 ⟨rfl, hb⟩; refine ⟨_, rfl, ?_⟩; have n0_ := Aside0.mk (Kd.U_below (by (with_reducible repeat (first | apply Kd.U_alloc | apply Kd.U_drewN | apply Kd.U_drew)); exact HO246.out) hb); have n1_ := Aside0.mk (Kd.U_below (by (with_reducible repeat (first | apply Kd.U_alloc | apply Kd.U_drewN | apply Kd.U_drew)); exact HO249.out) hb); have n2_ := Aside0.mk (Kd.R_below (by (with_reducible repeat (first | apply Kd.R_alloc | apply Kd.R_drewN | apply Kd.R_drew)); exact HO253.out) hb); have n3_ := Aside0.mk (Kd.R_below (by (with_reducible repeat (first | apply Kd.R_alloc | apply Kd.R_drewN | apply Kd.R_drew)); exact HO257.out) hb); have n4_ := Aside0.mk (Kd.R_below (by (with_reducible repeat (first | apply Kd.R_alloc | apply Kd.R_drewN | apply Kd.R_drew)); exact HO261.out) hb); have n5_ := Aside0.mk (below_step (by repeat (first | (with_reducible first | exact HB.out | apply below_alloc | apply pw_below_drewN | apply below_drew1) | exact HB.out)) hb); clear HO246; clear HO249; clear HO253; clear HO257; clear HO261; clear HB; have HO246 := n0_; have HO249 := n1_; have HO253 := n2_; have HO257 := n3_; have HO261 := n4_; have HB := n5_; clear n0_ n1_ n2_ n3_ n4_ n5_; (try clear hb); (try clear hb2); (try clear hk); (try clear hi)) | ((with_reducible refine gate_callee (f := 28) rfl ?_); refine goesL_ (some 39) rfl rfl Try.func28 (by kernel_rfl) rfl #[.slice Ao11 t244.length co11] rfl (by (try simp only [List.map_toArray, List.map_cons, List.map_nil]); first | done | rfl | (simp only [List.length_drop, List.length_take]; rfl)) ?_; (with_reducible refine (foghornref11_Check.calls k _ _ t244 t263 _ ?side1 ?side2 A17.out).mono ?_); (case side1 => repeat (first | exact (Kd.U_reads' HO246.out).2.2 | (with_reducible refine Kd.C_alloc ?_ _) | (with_reducible refine Kd.C_drewN ?_ _) | (with_reducible refine Kd.C_drew ?_))); (case side2 => exact (Kd.U_reads' HO246.out).2.1); rintro e w49 ⟨rfl, hb⟩; refine ⟨_, rfl, ?_⟩; have n0_ := Aside0.mk (Kd.U_below (by (with_reducible repeat (first | apply Kd.U_alloc | apply Kd.U_drewN | apply Kd.U_drew)); exact HO246.out) hb); have n1_ := Aside0.mk (Kd.U_below (by (with_reducible repeat (first | apply Kd.U_alloc | apply Kd.U_drewN | apply Kd.U_drew)); exact HO249.out) hb); have n2_ := Aside0.mk (Kd.R_below (by (with_reducible repeat (first | apply Kd.R_alloc | apply Kd.R_drewN | apply Kd.R_drew)); exact HO253.out) hb); have n3_ := Aside0.mk (Kd.R_below (by (with_reducible repeat (first | apply Kd.R_alloc | apply Kd.R_drewN | apply Kd.R_drew)); exact HO257.out) hb); have n4_ := Aside0.mk (Kd.R_below (by (with_reducible repeat (first | apply Kd.R_alloc | apply Kd.R_drewN | apply Kd.R_drew)); exact HO261.out) hb); have n5_ := Aside0.mk (below_step (by repeat (first | (with_reducible first | exact HB.out | apply below_alloc | apply pw_below_drewN | apply below_drew1) | exact HB.out)) hb); clear HO246; clear HO249; clear HO253; clear HO257; clear HO261; clear HB; have HO246 := n0_; have HO249 := n1_; have HO253 := n2_; have HO257 := n3_; have HO261 := n4_; have HB := n5_; clear n0_ n1_ n2_ n3_ n4_ n5_; (try clear hb); (try clear hb2); (try clear hk); (try clear hi); obtain ⟨Ao50, co50, eo50⟩ := Kd.R_slice HO257.out; subst eo50; obtain ⟨Ao51, co51, eo51⟩ := Kd.R_slice HO261.out; subst eo51; obtain ⟨Ao52, co52, eo52⟩ := Kd.R_slice HO253.out; subst eo52) | (go_at_call 29; (with_reducible refine (foghornlaw11_fresh.calls k (fun k_ => some k_ = (.slice Ao50 t254.length co50 : Value).ownBlock) (.slice Ao50 t254.length co50) t254 _ _ t258 _ _ t250 true w _ ?side1 ?side2 ?side3 ?side4 ?side5 ?side6 A21.out).mono ?_); (case side1 => repeat (first | (with_reducible first | exact HB.out | apply below_alloc | apply pw_below_drewN | apply below_drew1) | exact HB.out)); (case side2 => exact Kd.R_tight rfl HO257.out); (case side3 => exact Kd.C_kept_own (HO261.out) (fun k_ hk_ hs_ => (hk_.2) hs_)); (case side4 => exact (Kd.R_reads' HO261.out).2.1); (case side5 => exact Kd.C_kept_own (HO253.out) (fun k_ hk_ hs_ => (hk_.1.2) hs_)); (case side6 => exact (Kd.R_reads' HO253.out).2.1); rintro e w53 ⟨rfl, hb, hkp⟩; have n0_ := Aside0.mk (Kd.U_mono (ok' := fun k_ => some k_ ≠ (.slice Ao12 t247.length co12 : Value).ownBlock ∧ some k_ ≠ (.slice Ao52 t250.length co52 : Value).ownBlock ∧ some k_ ≠ (.slice Ao51 t258.length co51 : Value).ownBlock) (Kd.U_keptB (HO246.out) hkp (fun k_ hk_ hs_ => (hk_.1.2) hs_)) (fun k_ hk_ => ⟨hk_.1.1.1.1.2, hk_.1.1.1.2, hk_.1.2⟩)); have n1_ := Aside0.mk (Kd.U_mono (ok' := fun k_ => some k_ ≠ (.slice Ao11 t244.length co11 : Value).ownBlock ∧ some k_ ≠ (.slice Ao52 t250.length co52 : Value).ownBlock ∧ some k_ ≠ (.slice Ao51 t258.length co51 : Value).ownBlock) (Kd.U_keptB (HO249.out) hkp (fun k_ hk_ hs_ => (hk_.1.2) hs_)) (fun k_ hk_ => ⟨hk_.1.1.1.1.2, hk_.1.1.1.2, hk_.1.2⟩)); have n2_ := Aside0.mk (Kd.R_mono (ok' := fun k_ => some k_ ≠ (.slice Ao11 t244.length co11 : Value).ownBlock ∧ some k_ ≠ (.slice Ao12 t247.length co12 : Value).ownBlock ∧ some k_ ≠ (.slice Ao51 t258.length co51 : Value).ownBlock) (Kd.R_keptB (HO253.out) hkp (fun k_ hk_ hs_ => (hk_.1.2) hs_)) (fun k_ hk_ => ⟨hk_.1.1.1.1.2, hk_.1.1.1.2, hk_.1.2⟩)); have n3_ := Aside0.mk (Kd.R_mono (ok' := fun k_ => some k_ ≠ (.slice Ao11 t244.length co11 : Value).ownBlock ∧ some k_ ≠ (.slice Ao12 t247.length co12 : Value).ownBlock ∧ some k_ ≠ (.slice Ao52 t250.length co52 : Value).ownBlock) (Kd.R_keptB (HO261.out) hkp (fun k_ hk_ hs_ => (hk_.2) hs_)) (fun k_ hk_ => ⟨hk_.1.1.1.1.2, hk_.1.1.1.2, hk_.1.1.2⟩)); have n4_ := Aside0.mk (hb); clear HO246; clear HO249; clear HO253; clear HO261; clear HB; clear HO257; have HO246 := n0_; have HO249 := n1_; have HO253 := n2_; have HO261 := n3_; have HB := n4_; clear n0_ n1_ n2_ n3_ n4_; (try clear hb); (try clear hkp); obtain ⟨i054, hi054, _, hsz54, _⟩ := info_parts info32; have hq54 : ((wrap64 ((l0.length : Int) + 1)) : Int) = (t244.length : Int) + 1 := of_decide_eq_true (by first | (with_reducible assumption) | assumption); have hn54 := (Kd.U_full HO246.out).1; have hrd54 := Kd.R_reads' (Kd.U_full HO246.out).2; have hcut54 := cut_more (P := Try.prog) 24 32 .i64 Try.underlying24 hi054 Ao11 t244.length co11 (wrap64 ((l0.length : Int) + 1)) (by omega) (by have := hrd54.2.1; omega); have hy54 : y265.length = ((wrap64 ((l0.length : Int) + 1)) : Int).toNat := (by rw [Ny265.out, List.length_append]; simp only [List.length_cons, List.length_nil]; omega); have hr54 := hrd54.2.2; rw [← Ny265.out] at hr54; rw [← hy54] at hcut54; have HR268 := Aside0.mk hr54; have HC268 := Aside0.mk (show y265.length ≤ co11 from by have := hrd54.2.1; omega); have KY54 := Aside0.mk hy54; clear hr54 hrd54 hy54 hq54 hn54 hi054 hsz54; have p269 : 0 ≤ ((l0.length : Int) : Int) := of_decide_eq_true (by first | (with_reducible assumption) | assumption); have q269 : (l0.length : Int) < (y265.length : Int) := of_decide_eq_true (by first | (with_reducible assumption) | assumption); obtain ⟨ad269, e269, hx269_0⟩ := Kd.at_cplx (by repeat (first | (with_reducible exact HR268.out) | (with_reducible refine Kd.C_alloc ?_ _) | (with_reducible refine Kd.C_drewN ?_ _) | (with_reducible refine Kd.C_drew ?_) | exact HR268.out)) (l0.length : Int) p269 q269; cases e269; (try simp only [Go.IntWalk.toNatUp] at hx269_0); replace p269 := eq_true p269; replace q269 := eq_true q269; obtain ⟨i055, hi055, _, hsz55, _⟩ := info_parts info32; have hq55 : ((wrap64 ((l1.length : Int) + 1)) : Int) = (t247.length : Int) + 1 := of_decide_eq_true (by first | (with_reducible assumption) | assumption); have hn55 := (Kd.U_full HO249.out).1; have hrd55 := Kd.R_reads' (Kd.U_full HO249.out).2; have hcut55 := cut_more (P := Try.prog) 24 32 .i64 Try.underlying24 hi055 Ao12 t247.length co12 (wrap64 ((l1.length : Int) + 1)) (by omega) (by have := hrd55.2.1; omega); have hy55 : y270.length = ((wrap64 ((l1.length : Int) + 1)) : Int).toNat := (by rw [Ny270.out, List.length_append]; simp only [List.length_cons, List.length_nil]; omega); have hr55 := hrd55.2.2; rw [← Ny270.out] at hr55; rw [← hy55] at hcut55; have HR273 := Aside0.mk hr55; have HC273 := Aside0.mk (show y270.length ≤ co12 from by have := hrd55.2.1; omega); have KY55 := Aside0.mk hy55; clear hr55 hrd55 hy55 hq55 hn55 hi055 hsz55; have p274 : 0 ≤ ((l1.length : Int) : Int) := of_decide_eq_true (by first | (with_reducible assumption) | assumption); have q274 : (l1.length : Int) < (y270.length : Int) := of_decide_eq_true (by first | (with_reducible assumption) | assumption); obtain ⟨ad274, e274, hx274_0⟩ := Kd.at_cplx (by repeat (first | (with_reducible exact HR273.out) | (with_reducible refine Kd.C_alloc ?_ _) | (with_reducible refine Kd.C_drewN ?_ _) | (with_reducible refine Kd.C_drew ?_) | exact HR273.out)) (l1.length : Int) p274 q274; cases e274; (try simp only [Go.IntWalk.toNatUp] at hx274_0); replace p274 := eq_true p274; replace q274 := eq_true q274) | (go_at_call 24; (with_reducible refine (foghornlaw11_numbers.calls k _ _ l1 t275 _ ?side1 ?side2 A46.out).mono ?_); (case side1 => repeat (first | exact (Kd.C_below HR1.out HB.out) | (with_reducible refine Kd.C_alloc ?_ _) | (with_reducible refine Kd.C_drewN ?_ _) | (with_reducible refine Kd.C_drew ?_))); (case side2 => exact HC1.out); rintro e w56 ⟨v276, rfl, ho0, hb⟩; have n0_ := Aside0.mk (Kd.U_elder' (by (with_reducible repeat (first | apply Kd.U_alloc | apply Kd.U_drewN | apply Kd.U_drew)); exact HO246.out) (Kd.U_base ho0) hb); have n1_ := Aside0.mk (Kd.U_elder' (by (with_reducible repeat (first | apply Kd.U_alloc | apply Kd.U_drewN | apply Kd.U_drew)); exact HO249.out) (Kd.U_base ho0) hb); have n2_ := Aside0.mk (Kd.R_elder' (by (with_reducible repeat (first | apply Kd.R_alloc | apply Kd.R_drewN | apply Kd.R_drew)); exact HO253.out) (Kd.U_base ho0) hb); have n3_ := Aside0.mk (Kd.R_elder' (by (with_reducible repeat (first | apply Kd.R_alloc | apply Kd.R_drewN | apply Kd.R_drew)); exact HO261.out) (Kd.U_base ho0) hb); have n4_ := Aside0.mk (Kd.U_lower (Kd.U_new' (Kd.U_new' (Kd.U_new' (Kd.U_new' ho0 (Kd.U_lt (by (with_reducible repeat (first | apply Kd.U_alloc | apply Kd.U_drewN | apply Kd.U_drew)); exact HO246.out))) (Kd.U_lt (by (with_reducible repeat (first | apply Kd.U_alloc | apply Kd.U_drewN | apply Kd.U_drew)); exact HO249.out))) (Kd.R_lt (by (with_reducible repeat (first | apply Kd.R_alloc | apply Kd.R_drewN | apply Kd.R_drew)); exact HO253.out))) (Kd.R_lt (by (with_reducible repeat (first | apply Kd.R_alloc | apply Kd.R_drewN | apply Kd.R_drew)); exact HO261.out))) (below_size (by repeat (first | (with_reducible first | exact HB.out | apply below_alloc | apply pw_below_drewN | apply below_drew1) | exact HB.out)))); have n5_ := Aside0.mk (Kd.C_below (by repeat (first | (with_reducible exact HR268.out) | (with_reducible refine Kd.C_alloc ?_ _) | (with_reducible refine Kd.C_drewN ?_ _) | (with_reducible refine Kd.C_drew ?_) | exact HR268.out)) hb); have n6_ := Aside0.mk (Kd.C_below (by repeat (first | (with_reducible exact HR273.out) | (with_reducible refine Kd.C_alloc ?_ _) | (with_reducible refine Kd.C_drewN ?_ _) | (with_reducible refine Kd.C_drew ?_) | exact HR273.out)) hb); have n7_ := Aside0.mk (below_step (by repeat (first | (with_reducible first | exact HB.out | apply below_alloc | apply pw_below_drewN | apply below_drew1) | exact HB.out)) hb); clear HO246; clear HO249; clear HO253; clear HO261; clear HR268; clear HR273; clear HB; have HO246 := n0_; have HO249 := n1_; have HO253 := n2_; have HO261 := n3_; have HO277 := n4_; have HR268 := n5_; have HR273 := n6_; have HB := n7_; clear n0_ n1_ n2_ n3_ n4_ n5_ n6_ n7_; (try clear hb); (try clear hb2); (try clear hk); (try clear hi); (try clear ho0); obtain ⟨Ao57, co57, eo57⟩ := Kd.U_slice HO277.out; subst eo57) | (go_at_call 30; (with_reducible refine (foghornref11_Same.calls k _ _ t247 _ _ t275 t278 _ ?side1 ?side2 ?side3 ?side4 A47.out).mono ?_); (case side1 => repeat (first | exact (Kd.U_reads' HO249.out).2.2 | (with_reducible refine Kd.C_alloc ?_ _) | (with_reducible refine Kd.C_drewN ?_ _) | (with_reducible refine Kd.C_drew ?_))); (case side2 => exact (Kd.U_reads' HO249.out).2.1); (case side3 => repeat (first | exact (Kd.U_reads' HO277.out).2.2 | (with_reducible refine Kd.C_alloc ?_ _) | (with_reducible refine Kd.C_drewN ?_ _) | (with_reducible refine Kd.C_drew ?_))); (case side4 => exact (Kd.U_reads' HO277.out).2.1); rintro e w' ⟨rfl, ⟨nd, rfl⟩⟩))
                              go_meet
                              case rel => exact ⟨_, (!t278), (by first | rfl | (simp; done) | (simp [*]; done)), H', ⟨by first | omega | exact Nat.le_refl _⟩, ⟨by (with_reducible repeat (first | apply Kd.U_alloc | apply Kd.U_drewN | apply Kd.U_drew)); exact Kd.U_mono HO246.out (fun _ hk => hk.1.1)⟩, ⟨by (with_reducible repeat (first | apply Kd.U_alloc | apply Kd.U_drewN | apply Kd.U_drew)); exact Kd.U_mono HO249.out (fun _ hk => hk.1.1)⟩, ⟨by repeat (first | (with_reducible first | exact HB.out | apply below_alloc | apply pw_below_drewN | apply below_drew1) | exact HB.out)⟩⟩
                        · rw [if_neg c36] at H
                          exact absurd H (by simp)
                      · rw [if_neg c35] at H
                        exact absurd H (by simp)
                    · rw [if_neg c34] at H
                      exact absurd H (by simp)
                · rw [if_neg c25] at H
                  exact absurd H (by simp)
              · rw [if_neg c24] at H
                exact absurd H (by simp)
            · rw [if_neg c23] at H
              exact absurd H (by simp)
          · replace c22 := Bool.eq_false_iff.mpr c22
            subst c22
            have H1 : (foghornlaw11_FeedbackEchoes.j0 k t244 t247 true) = some r := by rw [if_neg (show ¬ (false = true) by decide)] at H; exact H
            clear H
            have H := H1
            clear H1
            as_aux_lemma =>
              have H' := Aside0.mk H
              clear H
              go_wp2_with (first | ((with_reducible refine gate_callee (f := 27) rfl ?_); refine goesL_ (some 37) rfl rfl Try.func27 (by kernel_rfl) rfl #[.slice Ao11 t244.length co11] rfl (by (try simp only [List.map_toArray, List.map_cons, List.map_nil]); first | done | rfl | (simp only [List.length_drop, List.length_take]; rfl)) ?_; (with_reducible refine (feedback_Check.calls k _ _ t244 t262 _ ?side1 ?side2 A16.out).mono ?_); (case side1 => repeat (first | exact (Kd.U_reads' HO246.out).2.2 | (with_reducible refine Kd.C_alloc ?_ _) | (with_reducible refine Kd.C_drewN ?_ _) | (with_reducible refine Kd.C_drew ?_))); (case side2 => exact (Kd.U_reads' HO246.out).2.1); rintro e w58 ⟨rfl, hb⟩; refine ⟨_, rfl, ?_⟩; have n0_ := Aside0.mk (Kd.U_below (by (with_reducible repeat (first | apply Kd.U_alloc | apply Kd.U_drewN | apply Kd.U_drew)); exact HO246.out) hb); have n1_ := Aside0.mk (Kd.U_below (by (with_reducible repeat (first | apply Kd.U_alloc | apply Kd.U_drewN | apply Kd.U_drew)); exact HO249.out) hb); have n2_ := Aside0.mk (Kd.R_below (by (with_reducible repeat (first | apply Kd.R_alloc | apply Kd.R_drewN | apply Kd.R_drew)); exact HO253.out) hb); have n3_ := Aside0.mk (Kd.R_below (by (with_reducible repeat (first | apply Kd.R_alloc | apply Kd.R_drewN | apply Kd.R_drew)); exact HO257.out) hb); have n4_ := Aside0.mk (Kd.R_below (by (with_reducible repeat (first | apply Kd.R_alloc | apply Kd.R_drewN | apply Kd.R_drew)); exact HO261.out) hb); have n5_ := Aside0.mk (below_step (by repeat (first | (with_reducible first | exact HB.out | apply below_alloc | apply pw_below_drewN | apply below_drew1) | exact HB.out)) hb); clear HO246; clear HO249; clear HO253; clear HO257; clear HO261; clear HB; have HO246 := n0_; have HO249 := n1_; have HO253 := n2_; have HO257 := n3_; have HO261 := n4_; have HB := n5_; clear n0_ n1_ n2_ n3_ n4_ n5_; (try clear hb); (try clear hb2); (try clear hk); (try clear hi)) | ((with_reducible refine gate_callee (f := 28) rfl ?_); refine goesL_ (some 39) rfl rfl Try.func28 (by kernel_rfl) rfl #[.slice Ao11 t244.length co11] rfl (by (try simp only [List.map_toArray, List.map_cons, List.map_nil]); first | done | rfl | (simp only [List.length_drop, List.length_take]; rfl)) ?_; (with_reducible refine (foghornref11_Check.calls k _ _ t244 t263 _ ?side1 ?side2 A17.out).mono ?_); (case side1 => repeat (first | exact (Kd.U_reads' HO246.out).2.2 | (with_reducible refine Kd.C_alloc ?_ _) | (with_reducible refine Kd.C_drewN ?_ _) | (with_reducible refine Kd.C_drew ?_))); (case side2 => exact (Kd.U_reads' HO246.out).2.1); rintro e w59 ⟨rfl, hb⟩; refine ⟨_, rfl, ?_⟩; have n0_ := Aside0.mk (Kd.U_below (by (with_reducible repeat (first | apply Kd.U_alloc | apply Kd.U_drewN | apply Kd.U_drew)); exact HO246.out) hb); have n1_ := Aside0.mk (Kd.U_below (by (with_reducible repeat (first | apply Kd.U_alloc | apply Kd.U_drewN | apply Kd.U_drew)); exact HO249.out) hb); have n2_ := Aside0.mk (Kd.R_below (by (with_reducible repeat (first | apply Kd.R_alloc | apply Kd.R_drewN | apply Kd.R_drew)); exact HO253.out) hb); have n3_ := Aside0.mk (Kd.R_below (by (with_reducible repeat (first | apply Kd.R_alloc | apply Kd.R_drewN | apply Kd.R_drew)); exact HO257.out) hb); have n4_ := Aside0.mk (Kd.R_below (by (with_reducible repeat (first | apply Kd.R_alloc | apply Kd.R_drewN | apply Kd.R_drew)); exact HO261.out) hb); have n5_ := Aside0.mk (below_step (by repeat (first | (with_reducible first | exact HB.out | apply below_alloc | apply pw_below_drewN | apply below_drew1) | exact HB.out)) hb); clear HO246; clear HO249; clear HO253; clear HO257; clear HO261; clear HB; have HO246 := n0_; have HO249 := n1_; have HO253 := n2_; have HO257 := n3_; have HO261 := n4_; have HB := n5_; clear n0_ n1_ n2_ n3_ n4_ n5_; (try clear hb); (try clear hb2); (try clear hk); (try clear hi); obtain ⟨Ao60, co60, eo60⟩ := Kd.R_slice HO257.out; subst eo60; obtain ⟨Ao61, co61, eo61⟩ := Kd.R_slice HO261.out; subst eo61; obtain ⟨Ao62, co62, eo62⟩ := Kd.R_slice HO253.out; subst eo62) | (go_at_call 29; (with_reducible refine (foghornlaw11_fresh.calls k (fun k_ => some k_ = (.slice Ao60 t254.length co60 : Value).ownBlock) (.slice Ao60 t254.length co60) t254 _ _ t258 _ _ t250 false w _ ?side1 ?side2 ?side3 ?side4 ?side5 ?side6 A21.out).mono ?_); (case side1 => repeat (first | (with_reducible first | exact HB.out | apply below_alloc | apply pw_below_drewN | apply below_drew1) | exact HB.out)); (case side2 => exact Kd.R_tight rfl HO257.out); (case side3 => exact Kd.C_kept_own (HO261.out) (fun k_ hk_ hs_ => (hk_.2) hs_)); (case side4 => exact (Kd.R_reads' HO261.out).2.1); (case side5 => exact Kd.C_kept_own (HO253.out) (fun k_ hk_ hs_ => (hk_.1.2) hs_)); (case side6 => exact (Kd.R_reads' HO253.out).2.1); rintro e w63 ⟨rfl, hb, hkp⟩; have n0_ := Aside0.mk (Kd.U_mono (ok' := fun k_ => some k_ ≠ (.slice Ao12 t247.length co12 : Value).ownBlock ∧ some k_ ≠ (.slice Ao62 t250.length co62 : Value).ownBlock ∧ some k_ ≠ (.slice Ao61 t258.length co61 : Value).ownBlock) (Kd.U_keptB (HO246.out) hkp (fun k_ hk_ hs_ => (hk_.1.2) hs_)) (fun k_ hk_ => ⟨hk_.1.1.1.1.2, hk_.1.1.1.2, hk_.1.2⟩)); have n1_ := Aside0.mk (Kd.U_mono (ok' := fun k_ => some k_ ≠ (.slice Ao11 t244.length co11 : Value).ownBlock ∧ some k_ ≠ (.slice Ao62 t250.length co62 : Value).ownBlock ∧ some k_ ≠ (.slice Ao61 t258.length co61 : Value).ownBlock) (Kd.U_keptB (HO249.out) hkp (fun k_ hk_ hs_ => (hk_.1.2) hs_)) (fun k_ hk_ => ⟨hk_.1.1.1.1.2, hk_.1.1.1.2, hk_.1.2⟩)); have n2_ := Aside0.mk (Kd.R_mono (ok' := fun k_ => some k_ ≠ (.slice Ao11 t244.length co11 : Value).ownBlock ∧ some k_ ≠ (.slice Ao12 t247.length co12 : Value).ownBlock ∧ some k_ ≠ (.slice Ao61 t258.length co61 : Value).ownBlock) (Kd.R_keptB (HO253.out) hkp (fun k_ hk_ hs_ => (hk_.1.2) hs_)) (fun k_ hk_ => ⟨hk_.1.1.1.1.2, hk_.1.1.1.2, hk_.1.2⟩)); have n3_ := Aside0.mk (Kd.R_mono (ok' := fun k_ => some k_ ≠ (.slice Ao11 t244.length co11 : Value).ownBlock ∧ some k_ ≠ (.slice Ao12 t247.length co12 : Value).ownBlock ∧ some k_ ≠ (.slice Ao62 t250.length co62 : Value).ownBlock) (Kd.R_keptB (HO261.out) hkp (fun k_ hk_ hs_ => (hk_.2) hs_)) (fun k_ hk_ => ⟨hk_.1.1.1.1.2, hk_.1.1.1.2, hk_.1.1.2⟩)); have n4_ := Aside0.mk (hb); clear HO246; clear HO249; clear HO253; clear HO261; clear HB; clear HO257; have HO246 := n0_; have HO249 := n1_; have HO253 := n2_; have HO261 := n3_; have HB := n4_; clear n0_ n1_ n2_ n3_ n4_; (try clear hb); (try clear hkp)))
              go_meet
              case rel => exact ⟨_, (true), (by first | rfl | (simp; done) | (simp [*]; done)), H', ⟨by first | omega | exact Nat.le_refl _⟩, ⟨by (with_reducible repeat (first | apply Kd.U_alloc | apply Kd.U_drewN | apply Kd.U_drew)); exact Kd.U_mono HO246.out (fun _ hk => hk.1)⟩, ⟨by (with_reducible repeat (first | apply Kd.U_alloc | apply Kd.U_drewN | apply Kd.U_drew)); exact Kd.U_mono HO249.out (fun _ hk => hk.1)⟩, ⟨by repeat (first | (with_reducible first | exact HB.out | apply below_alloc | apply pw_below_drewN | apply below_drew1) | exact HB.out)⟩⟩
        · rw [if_neg c20] at H
          have c20b0 : (t259 == t251) = false := beq_eq_false_iff_ne.mpr c20
          have c20b1 : (t259 != t251) = true := bne_iff_ne.mpr c20
          as_aux_lemma =>
            have H' := Aside0.mk H
            clear H
            go_wp2_with (first | ((with_reducible refine gate_callee (f := 27) rfl ?_); refine goesL_ (some 37) rfl rfl Try.func27 (by kernel_rfl) rfl #[.slice Ao11 t244.length co11] rfl (by (try simp only [List.map_toArray, List.map_cons, List.map_nil]); first | done | rfl | (simp only [List.length_drop, List.length_take]; rfl)) ?_; (with_reducible refine (feedback_Check.calls k _ _ t244 t262 _ ?side1 ?side2 A16.out).mono ?_); (case side1 => repeat (first | exact (Kd.U_reads' HO246.out).2.2 | (with_reducible refine Kd.C_alloc ?_ _) | (with_reducible refine Kd.C_drewN ?_ _) | (with_reducible refine Kd.C_drew ?_))); (case side2 => exact (Kd.U_reads' HO246.out).2.1); rintro e w64 ⟨rfl, hb⟩; refine ⟨_, rfl, ?_⟩; have n0_ := Aside0.mk (Kd.U_below (by (with_reducible repeat (first | apply Kd.U_alloc | apply Kd.U_drewN | apply Kd.U_drew)); exact HO246.out) hb); have n1_ := Aside0.mk (Kd.U_below (by (with_reducible repeat (first | apply Kd.U_alloc | apply Kd.U_drewN | apply Kd.U_drew)); exact HO249.out) hb); have n2_ := Aside0.mk (Kd.R_below (by (with_reducible repeat (first | apply Kd.R_alloc | apply Kd.R_drewN | apply Kd.R_drew)); exact HO253.out) hb); have n3_ := Aside0.mk (Kd.R_below (by (with_reducible repeat (first | apply Kd.R_alloc | apply Kd.R_drewN | apply Kd.R_drew)); exact HO257.out) hb); have n4_ := Aside0.mk (Kd.R_below (by (with_reducible repeat (first | apply Kd.R_alloc | apply Kd.R_drewN | apply Kd.R_drew)); exact HO261.out) hb); have n5_ := Aside0.mk (below_step (by repeat (first | (with_reducible first | exact HB.out | apply below_alloc | apply pw_below_drewN | apply below_drew1) | exact HB.out)) hb); clear HO246; clear HO249; clear HO253; clear HO257; clear HO261; clear HB; have HO246 := n0_; have HO249 := n1_; have HO253 := n2_; have HO257 := n3_; have HO261 := n4_; have HB := n5_; clear n0_ n1_ n2_ n3_ n4_ n5_; (try clear hb); (try clear hb2); (try clear hk); (try clear hi)) | ((with_reducible refine gate_callee (f := 28) rfl ?_); refine goesL_ (some 39) rfl rfl Try.func28 (by kernel_rfl) rfl #[.slice Ao11 t244.length co11] rfl (by (try simp only [List.map_toArray, List.map_cons, List.map_nil]); first | done | rfl | (simp only [List.length_drop, List.length_take]; rfl)) ?_; (with_reducible refine (foghornref11_Check.calls k _ _ t244 t263 _ ?side1 ?side2 A17.out).mono ?_); (case side1 => repeat (first | exact (Kd.U_reads' HO246.out).2.2 | (with_reducible refine Kd.C_alloc ?_ _) | (with_reducible refine Kd.C_drewN ?_ _) | (with_reducible refine Kd.C_drew ?_))); (case side2 => exact (Kd.U_reads' HO246.out).2.1); rintro e w65 ⟨rfl, hb⟩; refine ⟨_, rfl, ?_⟩; have n0_ := Aside0.mk (Kd.U_below (by (with_reducible repeat (first | apply Kd.U_alloc | apply Kd.U_drewN | apply Kd.U_drew)); exact HO246.out) hb); have n1_ := Aside0.mk (Kd.U_below (by (with_reducible repeat (first | apply Kd.U_alloc | apply Kd.U_drewN | apply Kd.U_drew)); exact HO249.out) hb); have n2_ := Aside0.mk (Kd.R_below (by (with_reducible repeat (first | apply Kd.R_alloc | apply Kd.R_drewN | apply Kd.R_drew)); exact HO253.out) hb); have n3_ := Aside0.mk (Kd.R_below (by (with_reducible repeat (first | apply Kd.R_alloc | apply Kd.R_drewN | apply Kd.R_drew)); exact HO257.out) hb); have n4_ := Aside0.mk (Kd.R_below (by (with_reducible repeat (first | apply Kd.R_alloc | apply Kd.R_drewN | apply Kd.R_drew)); exact HO261.out) hb); have n5_ := Aside0.mk (below_step (by repeat (first | (with_reducible first | exact HB.out | apply below_alloc | apply pw_below_drewN | apply below_drew1) | exact HB.out)) hb); clear HO246; clear HO249; clear HO253; clear HO257; clear HO261; clear HB; have HO246 := n0_; have HO249 := n1_; have HO253 := n2_; have HO257 := n3_; have HO261 := n4_; have HB := n5_; clear n0_ n1_ n2_ n3_ n4_ n5_; (try clear hb); (try clear hb2); (try clear hk); (try clear hi)))
            go_meet
            case rel => exact ⟨_, (true), (by first | rfl | (simp; done) | (simp [*]; done)), H', ⟨by first | omega | exact Nat.le_refl _⟩, ⟨by (with_reducible repeat (first | apply Kd.U_alloc | apply Kd.U_drewN | apply Kd.U_drew)); exact Kd.U_mono HO246.out (fun _ hk => hk.1.1.1.2)⟩, ⟨by (with_reducible repeat (first | apply Kd.U_alloc | apply Kd.U_drewN | apply Kd.U_drew)); exact Kd.U_mono HO249.out (fun _ hk => hk.1.1.1.2)⟩, ⟨by repeat (first | (with_reducible first | exact HB.out | apply below_alloc | apply pw_below_drewN | apply below_drew1) | exact HB.out)⟩⟩
      · rw [if_neg c19] at H
        have c19b0 : (t255 == t251) = false := beq_eq_false_iff_ne.mpr c19
        have c19b1 : (t255 != t251) = true := bne_iff_ne.mpr c19
        as_aux_lemma =>
          have H' := Aside0.mk H
          clear H
          go_wp2_with (first | ((with_reducible refine gate_callee (f := 27) rfl ?_); refine goesL_ (some 37) rfl rfl Try.func27 (by kernel_rfl) rfl #[.slice Ao11 t244.length co11] rfl (by (try simp only [List.map_toArray, List.map_cons, List.map_nil]); first | done | rfl | (simp only [List.length_drop, List.length_take]; rfl)) ?_; (with_reducible refine (feedback_Check.calls k _ _ t244 t262 _ ?side1 ?side2 A16.out).mono ?_); (case side1 => repeat (first | exact (Kd.U_reads' HO246.out).2.2 | (with_reducible refine Kd.C_alloc ?_ _) | (with_reducible refine Kd.C_drewN ?_ _) | (with_reducible refine Kd.C_drew ?_))); (case side2 => exact (Kd.U_reads' HO246.out).2.1); rintro e w66 ⟨rfl, hb⟩; refine ⟨_, rfl, ?_⟩; have n0_ := Aside0.mk (Kd.U_below (by (with_reducible repeat (first | apply Kd.U_alloc | apply Kd.U_drewN | apply Kd.U_drew)); exact HO246.out) hb); have n1_ := Aside0.mk (Kd.U_below (by (with_reducible repeat (first | apply Kd.U_alloc | apply Kd.U_drewN | apply Kd.U_drew)); exact HO249.out) hb); have n2_ := Aside0.mk (Kd.R_below (by (with_reducible repeat (first | apply Kd.R_alloc | apply Kd.R_drewN | apply Kd.R_drew)); exact HO253.out) hb); have n3_ := Aside0.mk (Kd.R_below (by (with_reducible repeat (first | apply Kd.R_alloc | apply Kd.R_drewN | apply Kd.R_drew)); exact HO257.out) hb); have n4_ := Aside0.mk (Kd.R_below (by (with_reducible repeat (first | apply Kd.R_alloc | apply Kd.R_drewN | apply Kd.R_drew)); exact HO261.out) hb); have n5_ := Aside0.mk (below_step (by repeat (first | (with_reducible first | exact HB.out | apply below_alloc | apply pw_below_drewN | apply below_drew1) | exact HB.out)) hb); clear HO246; clear HO249; clear HO253; clear HO257; clear HO261; clear HB; have HO246 := n0_; have HO249 := n1_; have HO253 := n2_; have HO257 := n3_; have HO261 := n4_; have HB := n5_; clear n0_ n1_ n2_ n3_ n4_ n5_; (try clear hb); (try clear hb2); (try clear hk); (try clear hi)) | ((with_reducible refine gate_callee (f := 28) rfl ?_); refine goesL_ (some 39) rfl rfl Try.func28 (by kernel_rfl) rfl #[.slice Ao11 t244.length co11] rfl (by (try simp only [List.map_toArray, List.map_cons, List.map_nil]); first | done | rfl | (simp only [List.length_drop, List.length_take]; rfl)) ?_; (with_reducible refine (foghornref11_Check.calls k _ _ t244 t263 _ ?side1 ?side2 A17.out).mono ?_); (case side1 => repeat (first | exact (Kd.U_reads' HO246.out).2.2 | (with_reducible refine Kd.C_alloc ?_ _) | (with_reducible refine Kd.C_drewN ?_ _) | (with_reducible refine Kd.C_drew ?_))); (case side2 => exact (Kd.U_reads' HO246.out).2.1); rintro e w67 ⟨rfl, hb⟩; refine ⟨_, rfl, ?_⟩; have n0_ := Aside0.mk (Kd.U_below (by (with_reducible repeat (first | apply Kd.U_alloc | apply Kd.U_drewN | apply Kd.U_drew)); exact HO246.out) hb); have n1_ := Aside0.mk (Kd.U_below (by (with_reducible repeat (first | apply Kd.U_alloc | apply Kd.U_drewN | apply Kd.U_drew)); exact HO249.out) hb); have n2_ := Aside0.mk (Kd.R_below (by (with_reducible repeat (first | apply Kd.R_alloc | apply Kd.R_drewN | apply Kd.R_drew)); exact HO253.out) hb); have n3_ := Aside0.mk (Kd.R_below (by (with_reducible repeat (first | apply Kd.R_alloc | apply Kd.R_drewN | apply Kd.R_drew)); exact HO257.out) hb); have n4_ := Aside0.mk (Kd.R_below (by (with_reducible repeat (first | apply Kd.R_alloc | apply Kd.R_drewN | apply Kd.R_drew)); exact HO261.out) hb); have n5_ := Aside0.mk (below_step (by repeat (first | (with_reducible first | exact HB.out | apply below_alloc | apply pw_below_drewN | apply below_drew1) | exact HB.out)) hb); clear HO246; clear HO249; clear HO253; clear HO257; clear HO261; clear HB; have HO246 := n0_; have HO249 := n1_; have HO253 := n2_; have HO257 := n3_; have HO261 := n4_; have HB := n5_; clear n0_ n1_ n2_ n3_ n4_ n5_; (try clear hb); (try clear hb2); (try clear hk); (try clear hi)))
          go_meet
          case rel => exact ⟨_, (true), (by first | rfl | (simp; done) | (simp [*]; done)), H', ⟨by first | omega | exact Nat.le_refl _⟩, ⟨by (with_reducible repeat (first | apply Kd.U_alloc | apply Kd.U_drewN | apply Kd.U_drew)); exact Kd.U_mono HO246.out (fun _ hk => hk.1.1.1.2)⟩, ⟨by (with_reducible repeat (first | apply Kd.U_alloc | apply Kd.U_drewN | apply Kd.U_drew)); exact Kd.U_mono HO249.out (fun _ hk => hk.1.1.1.2)⟩, ⟨by repeat (first | (with_reducible first | exact HB.out | apply below_alloc | apply pw_below_drewN | apply below_drew1) | exact HB.out)⟩⟩
    · rw [if_neg c18] at H
      have c18b0 : (t262 == t263) = false := beq_eq_false_iff_ne.mpr c18
      have c18b1 : (t262 != t263) = true := bne_iff_ne.mpr c18
      (first | rw [c18b0] | (simp only [i64_w, i32_w]; rw [c18b0]) | skip)
      as_aux_lemma =>
        have H' := Aside0.mk H
        clear H
        go_wp2_with (first | ((with_reducible refine gate_callee (f := 27) rfl ?_); refine goesL_ (some 37) rfl rfl Try.func27 (by kernel_rfl) rfl #[.slice Ao11 t244.length co11] rfl (by (try simp only [List.map_toArray, List.map_cons, List.map_nil]); first | done | rfl | (simp only [List.length_drop, List.length_take]; rfl)) ?_; (with_reducible refine (feedback_Check.calls k _ _ t244 t262 _ ?side1 ?side2 A16.out).mono ?_); (case side1 => repeat (first | exact (Kd.U_reads' HO246.out).2.2 | (with_reducible refine Kd.C_alloc ?_ _) | (with_reducible refine Kd.C_drewN ?_ _) | (with_reducible refine Kd.C_drew ?_))); (case side2 => exact (Kd.U_reads' HO246.out).2.1); rintro e w68 ⟨rfl, hb⟩; refine ⟨_, rfl, ?_⟩; have n0_ := Aside0.mk (Kd.U_below (by (with_reducible repeat (first | apply Kd.U_alloc | apply Kd.U_drewN | apply Kd.U_drew)); exact HO246.out) hb); have n1_ := Aside0.mk (Kd.U_below (by (with_reducible repeat (first | apply Kd.U_alloc | apply Kd.U_drewN | apply Kd.U_drew)); exact HO249.out) hb); have n2_ := Aside0.mk (Kd.R_below (by (with_reducible repeat (first | apply Kd.R_alloc | apply Kd.R_drewN | apply Kd.R_drew)); exact HO253.out) hb); have n3_ := Aside0.mk (Kd.R_below (by (with_reducible repeat (first | apply Kd.R_alloc | apply Kd.R_drewN | apply Kd.R_drew)); exact HO257.out) hb); have n4_ := Aside0.mk (Kd.R_below (by (with_reducible repeat (first | apply Kd.R_alloc | apply Kd.R_drewN | apply Kd.R_drew)); exact HO261.out) hb); have n5_ := Aside0.mk (below_step (by repeat (first | (with_reducible first | exact HB.out | apply below_alloc | apply pw_below_drewN | apply below_drew1) | exact HB.out)) hb); clear HO246; clear HO249; clear HO253; clear HO257; clear HO261; clear HB; have HO246 := n0_; have HO249 := n1_; have HO253 := n2_; have HO257 := n3_; have HO261 := n4_; have HB := n5_; clear n0_ n1_ n2_ n3_ n4_ n5_; (try clear hb); (try clear hb2); (try clear hk); (try clear hi)) | ((with_reducible refine gate_callee (f := 28) rfl ?_); refine goesL_ (some 39) rfl rfl Try.func28 (by kernel_rfl) rfl #[.slice Ao11 t244.length co11] rfl (by (try simp only [List.map_toArray, List.map_cons, List.map_nil]); first | done | rfl | (simp only [List.length_drop, List.length_take]; rfl)) ?_; (with_reducible refine (foghornref11_Check.calls k _ _ t244 t263 _ ?side1 ?side2 A17.out).mono ?_); (case side1 => repeat (first | exact (Kd.U_reads' HO246.out).2.2 | (with_reducible refine Kd.C_alloc ?_ _) | (with_reducible refine Kd.C_drewN ?_ _) | (with_reducible refine Kd.C_drew ?_))); (case side2 => exact (Kd.U_reads' HO246.out).2.1); rintro e w69 ⟨rfl, hb⟩; refine ⟨_, rfl, ?_⟩; have n0_ := Aside0.mk (Kd.U_below (by (with_reducible repeat (first | apply Kd.U_alloc | apply Kd.U_drewN | apply Kd.U_drew)); exact HO246.out) hb); have n1_ := Aside0.mk (Kd.U_below (by (with_reducible repeat (first | apply Kd.U_alloc | apply Kd.U_drewN | apply Kd.U_drew)); exact HO249.out) hb); have n2_ := Aside0.mk (Kd.R_below (by (with_reducible repeat (first | apply Kd.R_alloc | apply Kd.R_drewN | apply Kd.R_drew)); exact HO253.out) hb); have n3_ := Aside0.mk (Kd.R_below (by (with_reducible repeat (first | apply Kd.R_alloc | apply Kd.R_drewN | apply Kd.R_drew)); exact HO257.out) hb); have n4_ := Aside0.mk (Kd.R_below (by (with_reducible repeat (first | apply Kd.R_alloc | apply Kd.R_drewN | apply Kd.R_drew)); exact HO261.out) hb); have n5_ := Aside0.mk (below_step (by repeat (first | (with_reducible first | exact HB.out | apply below_alloc | apply pw_below_drewN | apply below_drew1) | exact HB.out)) hb); clear HO246; clear HO249; clear HO253; clear HO257; clear HO261; clear HB; have HO246 := n0_; have HO249 := n1_; have HO253 := n2_; have HO257 := n3_; have HO261 := n4_; have HB := n5_; clear n0_ n1_ n2_ n3_ n4_ n5_; (try clear hb); (try clear hb2); (try clear hk); (try clear hi)))
        go_meet
        case rel => exact ⟨_, (true), (by first | rfl | (simp; done) | (simp [*]; done)), H', ⟨by first | omega | exact Nat.le_refl _⟩, ⟨by (with_reducible repeat (first | apply Kd.U_alloc | apply Kd.U_drewN | apply Kd.U_drew)); exact Kd.U_mono HO246.out (fun _ hk => hk.1.1.1.2)⟩, ⟨by (with_reducible repeat (first | apply Kd.U_alloc | apply Kd.U_drewN | apply Kd.U_drew)); exact Kd.U_mono HO249.out (fun _ hk => hk.1.1.1.2)⟩, ⟨by repeat (first | (with_reducible first | exact HB.out | apply below_alloc | apply pw_below_drewN | apply below_drew1) | exact HB.out)⟩⟩
  case rest =>
    clear HC8
    try clear c1
    try clear c2
    try clear p2
    try clear q2
    try clear hx2
    try clear c3
    try clear q3
    try clear q4
    try clear q5
    try clear p6
    try clear c18
    try clear c18b0
    try clear c18b1
    try clear c19
    try clear c19b0
    try clear c19b1
    try clear c20
    try clear c20b0
    try clear c20b1
    try clear c22
    try clear c23
    try clear c23b0
    try clear c23b1
    try clear c24
    try clear c24b0
    try clear c24b1
    try clear c25
    try clear c25b0
    try clear c25b1
    try clear c26
    try clear c26b0
    try clear p26
    try clear q26
    try clear hx26
    try clear c27
    try clear p27
    try clear q27
    try clear hx27
    try clear c28
    try clear q33
    try clear c34
    try clear c34b0
    try clear c34b1
    try clear c35
    try clear c35b0
    try clear c35b1
    try clear c36
    try clear c36b0
    try clear c36b1
    try clear c37
    try clear c37b0
    try clear q44
    try clear q45
    try clear q54
    try clear q55
    try clear p64
    try clear hx269_0
    try clear hx274_0
    try clear p269
    try clear p274
    try clear q269
    try clear q274
    obtain ⟨kq, x88_7, rfl, HA, HJ7, HO_5, HO_6, HB⟩ := hcut
    cases kq with
    | zero => exact absurd HA.out (by simp [foghornlaw11_FeedbackEchoes.j0])
    | succ kj7 =>
      have H := HA.out
      clear HA
      simp only [foghornlaw11_FeedbackEchoes.j0] at H
      by_cases c70 : x88_7 = true
      · subst c70
        have H1 : (some false) = some r := by rw [if_pos rfl] at H; exact H
        clear H
        have H := H1
        clear H1
        as_aux_lemma =>
          exact absurd ((Option.some.inj H).trans HQ_.out) (by decide)
      · replace c70 := Bool.eq_false_iff.mpr c70
        subst c70
        have H1 : (foghornlaw11_FeedbackEchoes.l0 kj7 t244 t247 0) = some r := by rw [if_neg (show ¬ (false = true) by decide)] at H; exact H
        clear H
        have H := H1
        clear H1
        have H' := Aside0.mk H
        clear H
        go_wp2
        go_loopg [13] kj7 (fun kq v13 w' => ∃ (x6_2 : List (Nat × Nat)) (x13_2 : Int), v13 = .int .i64 x13_2 ∧ Aside0 (foghornlaw11_FeedbackEchoes.l0 kq t244 x6_2 x13_2 = some r) ∧ Aside0 (kq ≤ kj7) ∧ Aside0 (Kd.U (Kd.cplx, (4651892959631900672, 0)) 32 w' w.heap.size (fun k_ => some k_ ≠ ((.slice Ao12 t247.length co12) : Value).ownBlock) (.slice Ao11 t244.length co11) t244) ∧ Aside0 (Kd.U (Kd.cplx, (4651892959631900672, 0)) 32 w' w.heap.size (fun k_ => some k_ ≠ ((.slice Ao11 t244.length co11) : Value).ownBlock) (.slice Ao12 t247.length co12) x6_2) ∧ Aside0 (Below w.heap.size w w'))
        case atStart => exact ⟨(t247), (0), (by first | rfl | (simp; done) | (simp [*]; done)), H', ⟨Nat.le_refl _⟩, ⟨by (with_reducible repeat (first | apply Kd.U_alloc | apply Kd.U_drewN | apply Kd.U_drew)); exact HO_5.out⟩, ⟨by (with_reducible repeat (first | apply Kd.U_alloc | apply Kd.U_drewN | apply Kd.U_drew)); exact HO_6.out⟩, ⟨by repeat (first | (with_reducible first | exact HB.out | apply below_alloc | apply pw_below_drewN | apply below_drew1) | exact HB.out)⟩⟩
        case round =>
          clear H'
          try clear c1
          try clear c2
          try clear p2
          try clear q2
          try clear hx2
          try clear c3
          try clear q3
          try clear q4
          try clear q5
          try clear p6
          try clear c7
          try clear c18
          try clear c18b0
          try clear c18b1
          try clear c19
          try clear c19b0
          try clear c19b1
          try clear c20
          try clear c20b0
          try clear c20b1
          try clear c22
          try clear c23
          try clear c23b0
          try clear c23b1
          try clear c24
          try clear c24b0
          try clear c24b1
          try clear c25
          try clear c25b0
          try clear c25b1
          try clear c26
          try clear c26b0
          try clear p26
          try clear q26
          try clear hx26
          try clear c27
          try clear p27
          try clear q27
          try clear hx27
          try clear c28
          try clear q33
          try clear c34
          try clear c34b0
          try clear c34b1
          try clear c35
          try clear c35b0
          try clear c35b1
          try clear c36
          try clear c36b0
          try clear c36b1
          try clear c37
          try clear c37b0
          try clear q44
          try clear q45
          try clear q54
          try clear q55
          try clear p64
          try clear c70
          try clear hx269_0
          try clear hx274_0
          try clear p2
          try clear p26
          try clear p269
          try clear p27
          try clear p274
          try clear p6
          try clear p64
          try clear q2
          try clear q26
          try clear q269
          try clear q27
          try clear q274
          try clear q3
          try clear q33
          try clear q4
          try clear q44
          try clear q45
          try clear q5
          try clear q54
          try clear q55
          obtain ⟨x6_2, x13_2, rfl, HA, HK2, HO_5, HO_6, HB⟩ := hrel
          have hl6_2 := (Kd.U_reads' HO_6.out).1
          rw [hl6_2] at HO_6
          (try simp only [hl6_2])
          (try simp only [hl6_2] at HO_5)
          cases gk with
          | zero => exact absurd HA.out (by simp [foghornlaw11_FeedbackEchoes.l0])
          | succ k2 =>
            have H := HA.out
            clear HA
            simp only [foghornlaw11_FeedbackEchoes.l0] at H
            by_cases c71 : x13_2 < (x6_2.length : Int)
            · rw [if_pos c71] at H
              have c71b0 : decide (x13_2 < (x6_2.length : Int)) = true := decide_eq_true c71
              (try (have c71b0x := c71b0; simp only [hl6_2] at c71b0x))
              clear c71
              by_cases c72 : 0 ≤ x13_2
              · rw [if_pos c72] at H
                have c72b0 : decide (0 ≤ x13_2) = true := decide_eq_true c72
                clear c72
                obtain ⟨y281, hy281⟩ : ∃ y_ : List (Nat × Nat), y_ = (x6_2.set (x13_2 : Int).toNat ((rdOf (0, 0) x6_2 x13_2).2, (rdOf (0, 0) x6_2 x13_2).1)) := ⟨_, rfl⟩
                replace H : (foghornlaw11_FeedbackEchoes.l0 k2 t244 y281 (wrap64 (x13_2 + 1))) = some r := by first | (rw [hy281]; with_reducible exact H) | (have H2_ := (Option.bind_some _ _).symm.trans H; rw [hy281]; with_reducible exact H2_) | (have H2_ := (Option.bind_some _ _).symm.trans H; with_reducible exact H2_) | with_reducible exact H | (rw [hy281]; exact H) | exact H
                have Ny281 := Aside0.mk hy281
                clear hy281
                as_aux_lemma =>
                  have H' := Aside0.mk H
                  clear H
                  try go_wp2
                  have n0_ := Aside0.mk (Kd.U_drew HO_5.out)
                  have n1_ := Aside0.mk (Kd.U_drew HO_6.out)
                  have n2_ := Aside0.mk (below_drew1 HB.out)
                  clear HO_5
                  clear HO_6
                  clear HB
                  have HO_5 := n0_
                  have HO_6 := n1_
                  have HB := n2_
                  clear n0_ n1_ n2_
                  have p279 : 0 ≤ (x13_2 : Int) := of_decide_eq_true (by first | (with_reducible assumption) | assumption)
                  have q279 : x13_2 < (x6_2.length : Int) := of_decide_eq_true (by first | (with_reducible assumption) | assumption)
                  obtain ⟨ad279, e279, hx279_0⟩ := Kd.at_cplx (Kd.U_reads' HO_6.out).2.2 x13_2 p279 q279
                  cases e279
                  replace p279 := eq_true p279
                  replace q279 := eq_true q279
                  have p280 : 0 ≤ (x13_2 : Int) := of_decide_eq_true (by first | (with_reducible assumption) | assumption)
                  have q280 : x13_2 < (x6_2.length : Int) := of_decide_eq_true (by first | (with_reducible assumption) | assumption)
                  obtain ⟨ad280, e280, hx280_0⟩ := Kd.at_cplx (Kd.U_reads' HO_6.out).2.2 x13_2 p280 q280
                  obtain rfl : ad279 = ad280 := (by injection e280)
                  replace p280 := eq_true p280
                  replace q280 := eq_true q280
                  have p73 : 0 ≤ (x13_2 : Int) := of_decide_eq_true (by first | (with_reducible assumption) | assumption)
                  have q73 : (x13_2 : Int) < ((x6_2.length : Int) : Int) := of_decide_eq_true (by first | (with_reducible assumption) | assumption)
                  obtain ⟨go73, co73, eo73, gb73, gl73, cl73, HG73⟩ := Kd.U_form HO_6.out (by omega)
                  (first | cases eo73 | (injection eo73 with ea_ en_ ec_; (first | subst ea_ | (injection ea_ with ea_; subst ea_)); subst ec_; clear en_))
                  have GB73 := Aside0.mk gb73
                  have GG73 := Aside0.mk HG73
                  clear gb73 gl73 HG73
                  (first | simp only [add_plain] at hx279_0 | skip)
                  (first | simp only [add_plain] at hx280_0 | skip)
                  obtain ⟨hx73_0, hf73_0⟩ := Kd.U_celln ((0, 0) : Nat × Nat) HO_6.out (x13_2 : Int) p73 q73
                  replace p73 := eq_true p73
                  replace q73 := eq_true q73
                  have HP75 := (Kd.U_putg HO_6.out (x13_2 : Int) (of_decide_eq_true (by first | (with_reducible assumption) | assumption)) (by have h_ : (x13_2 : Int) < ((x6_2.length : Int) : Int) := of_decide_eq_true (by first | (with_reducible assumption) | assumption); first | exact h_ | (have e_ := (Kd.U_reads' HO_6.out).1; omega) | simpa using h_) ((rdOf (0, 0) x6_2 x13_2).2, (rdOf (0, 0) x6_2 x13_2).1)).1
                  rw [← Ny281.out] at HP75
                  have HQ75 := Aside0.mk HP75
                  clear HP75
                  refine start_ (n := 15) (S := fun w' => w'.cell? ⟨go73, (x13_2).toNat, none⟩ = some (.complex .f64 ((rdOf (0, 0) x6_2 x13_2).1) ((rdOf (0, 0) x6_2 x13_2).2)) ∧ w'.cell? ⟨go73, (x13_2).toNat, none⟩ = some (.complex .f64 ((rdOf (0, 0) x6_2 x13_2).1) ((rdOf (0, 0) x6_2 x13_2).2))) (ds := [14]) #[false, false, false, false, false, false, false, false, false, false, false, false, false, false, false] (by kernel_rfl) rfl rfl ⟨hx279_0, hx280_0⟩ (fun hHeld => ?_); refine with_tabW foghornlaw11_FeedbackEchoes.tab11 foghornlaw11_FeedbackEchoes.bits11 (fun HT_ HW_ => ?_)
                  generalize wr.drew = w74 at HO_5 HO_6 HB GG73 HQ75 hf73_0 hx279_0 hx280_0 hx73_0 hHeld ⊢
                  refine pure_ (i := 0) (N := some 95) (v := ?_) (a' := ?_) #[true, false, false, false, false, false, false, false, false, false, false, false, false, false, false] rfl rfl (any_of HT_.out (by kernel_rfl)) (fun _ _ _ h => h) (Or.inl ⟨by rfl, ?_⟩) ?_ ?_
                  rotate_left
                  · intro w'
                    go_simp
                    with_reducible rfl
                  rotate_left
                  · simp only [Act.put, List.setIfInBounds_toArray, List.set_cons_zero, List.set_cons_succ, i64_w, i32_w]
                    rfl
                  refine pure_ (i := 1) (N := some 96) (v := ?_) (a' := ?_) #[true, true, false, false, false, false, false, false, false, false, false, false, false, false, false] rfl rfl (any_of HT_.out (by kernel_rfl)) (fun _ _ _ h => h) (Or.inl ⟨by rfl, ?_⟩) ?_ ?_
                  rotate_left
                  · intro w'
                    go_simp
                    with_reducible rfl
                  rotate_left
                  · simp only [Act.put, List.setIfInBounds_toArray, List.set_cons_zero, List.set_cons_succ, i64_w, i32_w]
                    rfl
                  refine pure_ (i := 2) (N := some 97) (v := ?_) (a' := ?_) #[true, true, true, false, false, false, false, false, false, false, false, false, false, false, false] rfl rfl (any_of HT_.out (by kernel_rfl)) (fun _ _ _ h => h) (Or.inl ⟨by rfl, ?_⟩) ?_ ?_
                  rotate_left
                  · intro w'
                    go_simp
                    with_reducible rfl
                  rotate_left
                  · simp only [Act.put, List.setIfInBounds_toArray, List.set_cons_zero, List.set_cons_succ, i64_w, i32_w]
                    rfl
                  refine pure_ (i := 3) (N := some 98) (v := ?_) (a' := ?_) #[true, true, true, true, false, false, false, false, false, false, false, false, false, false, false] rfl rfl (any_of HT_.out (by kernel_rfl)) (fun _ _ _ h => h) (Or.inl ⟨by rfl, ?_⟩) ?_ ?_
                  rotate_left
                  · intro w'
                    go_simp
                    with_reducible rfl
                  rotate_left
                  · simp only [Act.put, List.setIfInBounds_toArray, List.set_cons_zero, List.set_cons_succ, i64_w, i32_w]
                    rfl
                  refine pure_ (i := 4) (N := some 99) (v := ?_) (a' := ?_) #[true, true, true, true, true, false, false, false, false, false, false, false, false, false, false] rfl rfl (any_of HT_.out (by kernel_rfl)) (fun _ _ _ h => h) (Or.inl ⟨by rfl, ?_⟩) ?_ ?_
                  rotate_left
                  · intro w'
                    go_simp
                    with_reducible rfl
                  rotate_left
                  · simp only [Act.put, List.setIfInBounds_toArray, List.set_cons_zero, List.set_cons_succ, i64_w, i32_w]
                    rfl
                  refine pure_ (i := 7) (N := some 102) (v := ?_) (a' := ?_) #[true, true, true, true, true, false, false, true, false, false, false, false, false, false, false] rfl rfl (any_of HT_.out (by kernel_rfl)) (fun _ _ _ h => h) (Or.inl ⟨by rfl, ?_⟩) ?_ ?_
                  rotate_left
                  · intro w'
                    go_simp
                    with_reducible rfl
                  rotate_left
                  · simp only [Act.put, List.setIfInBounds_toArray, List.set_cons_zero, List.set_cons_succ, i64_w, i32_w]
                    rfl
                  refine pure_ (i := 8) (N := some 103) (v := ?_) (a' := ?_) #[true, true, true, true, true, false, false, true, true, false, false, false, false, false, false] rfl rfl (any_of HT_.out (by kernel_rfl)) (fun _ _ _ h => h) (Or.inl ⟨by rfl, ?_⟩) ?_ ?_
                  rotate_left
                  · intro w'
                    go_simp
                    with_reducible rfl
                  rotate_left
                  · simp only [Act.put, List.setIfInBounds_toArray, List.set_cons_zero, List.set_cons_succ, i64_w, i32_w]
                    rfl
                  refine pure_ (i := 9) (N := some 104) (v := ?_) (a' := ?_) #[true, true, true, true, true, false, false, true, true, true, false, false, false, false, false] rfl rfl (any_of HT_.out (by kernel_rfl)) (fun _ _ _ h => h) (Or.inl ⟨by rfl, ?_⟩) ?_ ?_
                  rotate_left
                  · intro w'
                    go_simp
                    with_reducible rfl
                  rotate_left
                  · simp only [Act.put, List.setIfInBounds_toArray, List.set_cons_zero, List.set_cons_succ, i64_w, i32_w]
                    rfl
                  refine take_ (i := 5) (N := some 100) (v := ?_) (a' := ?_) #[true, true, true, true, true, true, false, true, true, true, false, false, false, false, false] rfl rfl (take_ofW HT_.out HW_.out (by kernel_rfl)) (fun _ _ _ h => h) (Or.inl ⟨by rfl, ?_⟩) hHeld ?_ ?_
                  rotate_left
                  · rintro w' ⟨s0, s1⟩
                    go_simp
                    with_reducible rfl
                  rotate_left
                  · simp only [Act.put, List.setIfInBounds_toArray, List.set_cons_zero, List.set_cons_succ, i64_w, i32_w]
                    rfl
                  refine pure_ (i := 6) (N := some 101) (v := ?_) (a' := ?_) #[true, true, true, true, true, true, true, true, true, true, false, false, false, false, false] rfl rfl (any_of HT_.out (by kernel_rfl)) (fun _ _ _ h => h) (Or.inl ⟨by rfl, ?_⟩) ?_ ?_
                  rotate_left
                  · intro w'
                    go_simp
                    with_reducible rfl
                  rotate_left
                  · simp only [Act.put, List.setIfInBounds_toArray, List.set_cons_zero, List.set_cons_succ, i64_w, i32_w]
                    rfl
                  refine take_ (i := 10) (N := some 105) (v := ?_) (a' := ?_) #[true, true, true, true, true, true, true, true, true, true, true, false, false, false, false] rfl rfl (take_ofW HT_.out HW_.out (by kernel_rfl)) (fun _ _ _ h => h) (Or.inl ⟨by rfl, ?_⟩) hHeld ?_ ?_
                  rotate_left
                  · rintro w' ⟨s0, s1⟩
                    go_simp
                    with_reducible rfl
                  rotate_left
                  · simp only [Act.put, List.setIfInBounds_toArray, List.set_cons_zero, List.set_cons_succ, i64_w, i32_w]
                    rfl
                  refine pure_ (i := 11) (N := some 106) (v := ?_) (a' := ?_) #[true, true, true, true, true, true, true, true, true, true, true, true, false, false, false] rfl rfl (any_of HT_.out (by kernel_rfl)) (fun _ _ _ h => h) (Or.inl ⟨by rfl, ?_⟩) ?_ ?_
                  rotate_left
                  · intro w'
                    go_simp
                    with_reducible rfl
                  rotate_left
                  · simp only [Act.put, List.setIfInBounds_toArray, List.set_cons_zero, List.set_cons_succ, i64_w, i32_w]
                    rfl
                  refine pure_ (i := 12) (N := some 107) (v := ?_) (a' := ?_) #[true, true, true, true, true, true, true, true, true, true, true, true, true, false, false] rfl rfl (any_of HT_.out (by kernel_rfl)) (fun _ _ _ h => h) (Or.inl ⟨by rfl, ?_⟩) ?_ ?_
                  rotate_left
                  · intro w'
                    go_simp
                    with_reducible rfl
                  rotate_left
                  · simp only [Act.put, List.setIfInBounds_toArray, List.set_cons_zero, List.set_cons_succ, i64_w, i32_w]
                    rfl
                  refine pure_ (i := 13) (N := some 108) (v := ?_) (a' := ?_) #[true, true, true, true, true, true, true, true, true, true, true, true, true, true, false] rfl rfl (any_of HT_.out (by kernel_rfl)) (fun _ _ _ h => h) (Or.inl ⟨by rfl, ?_⟩) ?_ ?_
                  rotate_left
                  · intro w'
                    go_simp
                    with_reducible rfl
                  rotate_left
                  · simp only [Act.put, List.setIfInBounds_toArray, List.set_cons_zero, List.set_cons_succ, i64_w, i32_w]
                    rfl
                  refine last_ (i := 14) (N := none) #[true, true, true, true, true, true, true, true, true, true, true, true, true, true, true] rfl rfl (one_of HT_.out (by kernel_rfl)) (by decide) (fun K hK => ?_)
                  refine skip_ (w1 := ?_) (by rfl) rfl ?_ ?_
                  rotate_left
                  · go_simp
                    rfl
                  refine hK.out _ _ ?_
                  clear hK K
                  refine done_ (done_of HT_.out (by kernel_rfl)) ?_
                  try go_wp2
                  (try simp only [← hl6_2])
                  first | go_roundg k2 | (simp only [add_plain] at *; go_roundg k2)
                  case measure => have := HJ7.out; have := HK2.out; omega
                  case rel => exact ⟨(y281), (wrap64 (x13_2 + 1)), (by first | rfl | (simp; done) | (simp [*]; done)), H', ⟨by have := HJ7.out; have := HK2.out; omega⟩, ⟨by (try simp only [hl6_2]); (with_reducible repeat (first | apply Kd.U_alloc | apply Kd.U_drewN | apply Kd.U_drew)); exact Kd.U_mono (Kd.U_far (p := ⟨go73, (x13_2 : Int).toNat, none⟩) (Kd.U_mono HO_5.out (fun k_ hk => (⟨hk, fun e_ => hk (by rw [e_]; rfl)⟩ : _ ∧ k_ ≠ go73))) (fun _ hk => hk.2) (.complex .f64 ((rdOf (0, 0) x6_2 x13_2).2) ((rdOf (0, 0) x6_2 x13_2).1))) (fun _ hk => hk.1)⟩, ⟨by (try simp only [hl6_2]); (with_reducible repeat (first | apply Kd.U_alloc | apply Kd.U_drewN | apply Kd.U_drew)); exact HQ75.out⟩, ⟨by repeat (first | (with_reducible first | exact HB.out | apply below_alloc | apply pw_below_drewN | apply below_drew1 | refine below_set ?_ GB73.out) | exact HB.out)⟩⟩
              · rw [if_neg c72] at H
                exact absurd H (by simp)
            · rw [if_neg c71] at H
              have c71b0 : decide (x13_2 < (x6_2.length : Int)) = false := decide_eq_false c71
              (try (have c71b0x := c71b0; simp only [hl6_2] at c71b0x))
              clear c71
              replace H := Option.bind_eq_some_iff.mp H
              obtain ⟨⟨t282, t283⟩, A760, H⟩ := H
              replace H : ((feedback_Echo.f k2 t244 x6_2).bind fun bt286 => (if bt286.2 = t283 then ((foghornref11_Same.f k2 bt286.1 t282).bind fun t290 => (some t290)) else (some false))) = some r := H
              have A76 := Aside0.mk A760
              clear A760
              replace H := Option.bind_eq_some_iff.mp H
              obtain ⟨⟨t286, t287⟩, A770, H⟩ := H
              replace H : (if t287 = t283 then ((foghornref11_Same.f k2 t286 t282).bind fun t290 => (some t290)) else (some false)) = some r := H
              have A77 := Aside0.mk A770
              clear A770
              by_cases c78 : t287 = t283
              · rw [if_pos c78] at H
                have c78b0 : (t287 == t283) = true := beq_iff_eq.mpr c78
                have c78b1 : (t287 != t283) = false := bne_eq_false_iff_eq.mpr c78
                clear c78
                replace H := Option.bind_eq_some_iff.mp H
                obtain ⟨t290, A790, H⟩ := H
                replace H : (some t290) = some r := H
                have A79 := Aside0.mk A790
                clear A790
                as_aux_lemma =>
                  obtain rfl := Option.some.inj H
                  go_wp2_with (first | ((with_reducible refine gate_callee (f := 25) rfl ?_); refine goesL_ (some 112) rfl rfl Try.func25 (by kernel_rfl) rfl #[.slice Ao11 t244.length co11, .slice Ao12 x6_2.length co12] rfl (by (try simp only [List.map_toArray, List.map_cons, List.map_nil]); first | done | rfl | (simp only [List.length_drop, List.length_take]; rfl)) ?_; (with_reducible refine (foghornref11_Echo.calls k2 _ _ t244 _ _ x6_2 t282 t283 _ ?side1 ?side2 ?side3 ?side4 A76.out).mono ?_); (case side1 => repeat (first | exact (Kd.U_reads' HO_5.out).2.2 | (with_reducible refine Kd.C_alloc ?_ _) | (with_reducible refine Kd.C_drewN ?_ _) | (with_reducible refine Kd.C_drew ?_))); (case side2 => exact (Kd.U_reads' HO_5.out).2.1); (case side3 => repeat (first | exact (Kd.U_reads' HO_6.out).2.2 | (with_reducible refine Kd.C_alloc ?_ _) | (with_reducible refine Kd.C_drewN ?_ _) | (with_reducible refine Kd.C_drew ?_))); (case side4 => exact (Kd.U_reads' HO_6.out).2.1); rintro e w80 ⟨v284, rfl, ho0, hb⟩; refine ⟨_, rfl, ?_⟩; have n0_ := Aside0.mk (Kd.U_elder' (by (with_reducible repeat (first | apply Kd.U_alloc | apply Kd.U_drewN | apply Kd.U_drew)); exact HO_5.out) (Kd.R_base ho0) hb); have n1_ := Aside0.mk (Kd.U_elder' (by (with_reducible repeat (first | apply Kd.U_alloc | apply Kd.U_drewN | apply Kd.U_drew)); exact HO_6.out) (Kd.R_base ho0) hb); have n2_ := Aside0.mk (Kd.R_lower (Kd.R_new' (Kd.R_new' ho0 (Kd.U_lt (by (with_reducible repeat (first | apply Kd.U_alloc | apply Kd.U_drewN | apply Kd.U_drew)); exact HO_5.out))) (Kd.U_lt (by (with_reducible repeat (first | apply Kd.U_alloc | apply Kd.U_drewN | apply Kd.U_drew)); exact HO_6.out))) (below_size (by repeat (first | (with_reducible first | exact HB.out | apply below_alloc | apply pw_below_drewN | apply below_drew1) | exact HB.out)))); have n3_ := Aside0.mk (below_step (by repeat (first | (with_reducible first | exact HB.out | apply below_alloc | apply pw_below_drewN | apply below_drew1) | exact HB.out)) hb); clear HO_5; clear HO_6; clear HB; have HO_5 := n0_; have HO_6 := n1_; have HO285 := n2_; have HB := n3_; clear n0_ n1_ n2_ n3_; (try clear hb); (try clear hb2); (try clear hk); (try clear hi); (try clear ho0)) | ((with_reducible refine gate_callee (f := 26) rfl ?_); refine goesL_ (some 118) rfl rfl Try.func26 (by kernel_rfl) rfl #[.slice Ao11 t244.length co11, .slice Ao12 x6_2.length co12] rfl (by (try simp only [List.map_toArray, List.map_cons, List.map_nil]); first | done | rfl | (simp only [List.length_drop, List.length_take]; rfl)) ?_; (with_reducible refine (feedback_Echo.calls k2 _ _ t244 _ _ x6_2 t286 t287 _ ?side1 ?side2 ?side3 ?side4 A77.out).mono ?_); (case side1 => repeat (first | exact (Kd.U_reads' HO_5.out).2.2 | (with_reducible refine Kd.C_alloc ?_ _) | (with_reducible refine Kd.C_drewN ?_ _) | (with_reducible refine Kd.C_drew ?_))); (case side2 => exact (Kd.U_reads' HO_5.out).2.1); (case side3 => repeat (first | exact (Kd.U_reads' HO_6.out).2.2 | (with_reducible refine Kd.C_alloc ?_ _) | (with_reducible refine Kd.C_drewN ?_ _) | (with_reducible refine Kd.C_drew ?_))); (case side4 => exact (Kd.U_reads' HO_6.out).2.1); rintro e w81 ⟨v288, rfl, ho0, hb⟩; refine ⟨_, rfl, ?_⟩; have n0_ := Aside0.mk (Kd.U_elder' (by (with_reducible repeat (first | apply Kd.U_alloc | apply Kd.U_drewN | apply Kd.U_drew)); exact HO_5.out) (Kd.R_base ho0) hb); have n1_ := Aside0.mk (Kd.U_elder' (by (with_reducible repeat (first | apply Kd.U_alloc | apply Kd.U_drewN | apply Kd.U_drew)); exact HO_6.out) (Kd.R_base ho0) hb); have n2_ := Aside0.mk (Kd.R_elder' (by (with_reducible repeat (first | apply Kd.R_alloc | apply Kd.R_drewN | apply Kd.R_drew)); exact HO285.out) (Kd.R_base ho0) hb); have n3_ := Aside0.mk (Kd.R_lower (Kd.R_new' (Kd.R_new' (Kd.R_new' ho0 (Kd.U_lt (by (with_reducible repeat (first | apply Kd.U_alloc | apply Kd.U_drewN | apply Kd.U_drew)); exact HO_5.out))) (Kd.U_lt (by (with_reducible repeat (first | apply Kd.U_alloc | apply Kd.U_drewN | apply Kd.U_drew)); exact HO_6.out))) (Kd.R_lt (by (with_reducible repeat (first | apply Kd.R_alloc | apply Kd.R_drewN | apply Kd.R_drew)); exact HO285.out))) (below_size (by repeat (first | (with_reducible first | exact HB.out | apply below_alloc | apply pw_below_drewN | apply below_drew1) | exact HB.out)))); have n4_ := Aside0.mk (below_step (by repeat (first | (with_reducible first | exact HB.out | apply below_alloc | apply pw_below_drewN | apply below_drew1) | exact HB.out)) hb); clear HO_5; clear HO_6; clear HO285; clear HB; have HO_5 := n0_; have HO_6 := n1_; have HO285 := n2_; have HO289 := n3_; have HB := n4_; clear n0_ n1_ n2_ n3_ n4_; (try clear hb); (try clear hb2); (try clear hk); (try clear hi); (try clear ho0); obtain ⟨Ao82, co82, eo82⟩ := Kd.R_slice HO289.out; subst eo82; obtain ⟨Ao83, co83, eo83⟩ := Kd.R_slice HO285.out; subst eo83) | (go_at_call 30; (with_reducible refine (foghornref11_Same.calls k2 _ _ t286 _ _ t282 t290 _ ?side1 ?side2 ?side3 ?side4 A79.out).mono ?_); (case side1 => repeat (first | exact (Kd.R_reads' HO289.out).2.2 | (with_reducible refine Kd.C_alloc ?_ _) | (with_reducible refine Kd.C_drewN ?_ _) | (with_reducible refine Kd.C_drew ?_))); (case side2 => exact (Kd.R_reads' HO289.out).2.1); (case side3 => repeat (first | exact (Kd.R_reads' HO285.out).2.2 | (with_reducible refine Kd.C_alloc ?_ _) | (with_reducible refine Kd.C_drewN ?_ _) | (with_reducible refine Kd.C_drew ?_))); (case side4 => exact (Kd.R_reads' HO285.out).2.1); rintro e w' ⟨rfl, ⟨nd, rfl⟩⟩))
                  go_ret
                  exact ⟨by first | rfl | (simp [errW_none, errW_some] <;> rfl) | (simp [*, errW_none, errW_some] <;> rfl), by repeat (first | (with_reducible first | exact HB.out | apply below_alloc | apply pw_below_drewN | apply below_drew1) | exact HB.out)⟩
              · rw [if_neg c78] at H
                have c78b0 : (t287 == t283) = false := beq_eq_false_iff_ne.mpr c78
                have c78b1 : (t287 != t283) = true := bne_iff_ne.mpr c78
                as_aux_lemma =>
                  exact absurd ((Option.some.inj H).trans HQ_.out) (by decide)

theorem foghornlaw11_FeedbackEchoes.walk (P : foghornlaw11_FeedbackEchoes.Pure) (A0 : Option Addr) (c0 : Nat) (l0 : List (S174)) (A1 : Option Addr) (c1 : Nat) (l1 : List (S146)) (w : World) (hr0 : Kd.C k174 w A0 l0.length l0) (hc0 : l0.length ≤ c0) (hr1 : Kd.C k146 w A1 l1.length l1) (hc1 : l1.length ≤ c1) (hw0 : l0.length * 24 ≤ 140737488351232 ∧ ∀ x ∈ l0, (fun y_ : S174 => ((Lit.int .i64 y_.f0).wf = true) ∧ ((Lit.int .i64 y_.f1).wf = true) ∧ (True)) x) (hw1 : l1.length * 12 ≤ 140737488351232 ∧ ∀ x ∈ l1, (fun y_ : S146 => ((Lit.int .i32 y_.f0).wf = true) ∧ ((Lit.int .i32 y_.f1).wf = true) ∧ (True)) x) :
    Calls Try.prog 3 #[.slice A0 l0.length c0, .slice A1 l1.length c1] w fun e w' => e = .returned (.bool true) ∧ Below w.heap.size w w' := by
  obtain ⟨k, h⟩ := P l0 l1 hw0 hw1
  refine (foghornlaw11_FeedbackEchoes.calls k _ _ l0 _ _ l1 true w hr0 hc0 hr1 hc1 h rfl).mono ?_
  rintro e w' ⟨rfl, hd⟩
  exact ⟨rfl, hd⟩

end Go.Proofs.Ythfcafllcgjepaa.Q
