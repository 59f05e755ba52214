-- Printed by myprint.py (ours) over the kit's printer, out of the translation.
import Derived.Test.YtmdeldiocaofkaaFieldPolynomialsK0
import Derived.Test.YtmdeldiocaofkaaFieldPolynomialsF1
import Derived.Test.YtmdeldiocaofkaaFieldPolynomialsQ1
import Derived.Test.YtmdeldiocaofkaaFieldPolynomialsQ8
import Derived.Test.YtmdeldiocaofkaaFieldPolynomialsQ9
namespace Go.Proofs.Ytmdeldiocaofkaa.Q
open Go.RowKit Go.Proofs.YtmdeldiocaofkaaW.PrintWords Go.Proofs.YtmdeldiocaofkaaW.PrintLast Go.Proofs.YtmdeldiocaofkaaW.PrintMore
attribute [local go_sem] ArrW.ptrOf_slice max2_int min2_int max_two min_two max_three min_three max_four min_four   -- for this text's walks alone
set_option linter.unusedVariables false
set_option linter.unusedSimpArgs false

/-! ### foghornlaw18_FieldPolynomials: function 13 -/
set_option maxHeartbeats 8000000 in
set_option maxRecDepth 100000 in
theorem foghornlaw18_FieldPolynomials.calls (k : Nat) (A0 : Option Addr) (c0 : Nat) (l0 : List Int) (A1 : Option Addr) (c1 : Nat) (l1 : List Int) (a2 : Int) (r : Bool) (w : World) (hr0 : Kd.C (Kd.int .u8) w A0 l0.length l0) (hc0 : l0.length ≤ c0) (hr1 : Kd.C (Kd.int .u8) w A1 l1.length l1) (hc1 : l1.length ≤ c1) (h : foghornlaw18_FieldPolynomials.f k l0 l1 a2 = some r) (hq_ : r = true) :
  Calls Try.prog 13 #[.slice A0 l0.length c0, .slice A1 l1.length c1, .int .u8 a2] w fun e w' => e = .returned (.bool r) ∧ Below w.heap.size w w' := by
 have HQ_ := Aside0.mk hq_
 clear hq_
 have HR0 := Aside0.mk hr0
 have HC0 := Aside0.mk hc0
 clear hr0 hc0
 have HR1 := Aside0.mk hr1
 have HC1 := Aside0.mk hc1
 clear hr1 hc1
 have HB := Aside0.mk (Below.refl w.heap.size w)
 have H : ((foghornlaw18_lent.f l0).bind fun t929 => ((foghornlaw18_lent.f l1).bind fun t932 => ((foghornlaw18_polynomials.f k t929 t932 l0 l1 a2).bind fun t935 => (if t935 = true then ((foghornlaw18_kept.f k t929 l0).bind fun t936 => (if t936 = true then ((foghornlaw18_kept.f k t932 l1).bind fun t937 => (foghornlaw18_FieldPolynomials.j0 k l0 l1 a2 t929 t932 (!t937))) else (foghornlaw18_FieldPolynomials.j0 k l0 l1 a2 t929 t932 true))) else (foghornlaw18_FieldPolynomials.j0 k l0 l1 a2 t929 t932 true))))) = some r := h
 clear h
 replace H := Option.bind_eq_some_iff.mp H
 obtain ⟨t929, A40, H⟩ := H
 replace H : ((foghornlaw18_lent.f l1).bind fun t932 => ((foghornlaw18_polynomials.f k t929 t932 l0 l1 a2).bind fun t935 => (if t935 = true then ((foghornlaw18_kept.f k t929 l0).bind fun t936 => (if t936 = true then ((foghornlaw18_kept.f k t932 l1).bind fun t937 => (foghornlaw18_FieldPolynomials.j0 k l0 l1 a2 t929 t932 (!t937))) else (foghornlaw18_FieldPolynomials.j0 k l0 l1 a2 t929 t932 true))) else (foghornlaw18_FieldPolynomials.j0 k l0 l1 a2 t929 t932 true)))) = some r := H
 have A4 := Aside0.mk A40
 clear A40
 replace H := Option.bind_eq_some_iff.mp H
 obtain ⟨t932, A50, H⟩ := H
 replace H : ((foghornlaw18_polynomials.f k t929 t932 l0 l1 a2).bind fun t935 => (if t935 = true then ((foghornlaw18_kept.f k t929 l0).bind fun t936 => (if t936 = true then ((foghornlaw18_kept.f k t932 l1).bind fun t937 => (foghornlaw18_FieldPolynomials.j0 k l0 l1 a2 t929 t932 (!t937))) else (foghornlaw18_FieldPolynomials.j0 k l0 l1 a2 t929 t932 true))) else (foghornlaw18_FieldPolynomials.j0 k l0 l1 a2 t929 t932 true))) = some r := H
 have A5 := Aside0.mk A50
 clear A50
 have HC6 := Aside0.mk H
 clear H
 go_enter Try.func13, Try.ntmps13
 go_upto_region 3 with (first | ((with_reducible refine gate_callee (f := 60) rfl ?_); refine goesL_ (some 12) rfl rfl Try.func60 (by kernel_rfl) rfl #[.slice A0 l0.length c0] rfl (by (try simp only [List.map_toArray, List.map_cons, List.map_nil]); first | done | rfl | (simp only [List.length_drop, List.length_take]; rfl)) ?_; (with_reducible refine (foghornlaw18_lent.callsM _ _ l0 t929 _ ?side1 ?side2 A4.out).mono ?_); (case side1 => repeat (first | exact HR0.out | (with_reducible refine Kd.C_alloc ?_ _) | (with_reducible refine Kd.C_drewN ?_ _) | (with_reducible refine Kd.C_drew ?_))); (case side2 => exact HC0.out); rintro e w7 ⟨v930, rfl, ho0, hm0, hb⟩; refine ⟨_, rfl, ?_⟩; have HX931 := Aside0.mk hm0; clear hm0; have n0_ := Aside0.mk (Kd.R_lower ho0 (below_size (by repeat (first | (with_reducible first | exact HB.out | apply below_alloc | apply pw_below_drewN | apply below_drew1) | exact HB.out)))); have n1_ := Aside0.mk (below_step (by repeat (first | (with_reducible first | exact HB.out | apply below_alloc | apply pw_below_drewN | apply below_drew1) | exact HB.out)) hb); clear HB; have HO931 := n0_; have HB := n1_; clear n0_ n1_; (try (replace HX931 := Aside0.mk (foghornlaw18_lent.MK.below (by (with_reducible repeat (first | apply foghornlaw18_lent.MK.alloc | apply foghornlaw18_lent.MK.drewN | apply foghornlaw18_lent.MK.drew)); exact HX931.out) hb))); (try (replace HX934 := Aside0.mk (foghornlaw18_lent.MK.below (by (with_reducible repeat (first | apply foghornlaw18_lent.MK.alloc | apply foghornlaw18_lent.MK.drewN | apply foghornlaw18_lent.MK.drew)); exact HX934.out) hb))); (try clear hb); (try clear hb2); (try clear hk); (try clear hi); (try clear ho0)) | ((with_reducible refine gate_callee (f := 60) rfl ?_); refine goesL_ (some 14) rfl rfl Try.func60 (by kernel_rfl) rfl #[.slice A1 l1.length c1] rfl (by (try simp only [List.map_toArray, List.map_cons, List.map_nil]); first | done | rfl | (simp only [List.length_drop, List.length_take]; rfl)) ?_; (with_reducible refine (foghornlaw18_lent.callsM _ _ l1 t932 _ ?side1 ?side2 A5.out).mono ?_); (case side1 => repeat (first | exact (Kd.C_below HR1.out HB.out) | (with_reducible refine Kd.C_alloc ?_ _) | (with_reducible refine Kd.C_drewN ?_ _) | (with_reducible refine Kd.C_drew ?_))); (case side2 => exact HC1.out); rintro e w8 ⟨v933, rfl, ho0, hm0, hb⟩; refine ⟨_, rfl, ?_⟩; have HX934 := Aside0.mk hm0; clear hm0; have n0_ := Aside0.mk (Kd.R_elder' (by (with_reducible repeat (first | apply Kd.R_alloc | apply Kd.R_drewN | apply Kd.R_drew)); exact HO931.out) (Kd.R_base ho0) hb); have n1_ := Aside0.mk (Kd.R_lower (Kd.R_new' ho0 (Kd.R_lt (by (with_reducible repeat (first | apply Kd.R_alloc | apply Kd.R_drewN | apply Kd.R_drew)); exact HO931.out))) (below_size (by repeat (first | (with_reducible first | exact HB.out | apply below_alloc | apply pw_below_drewN | apply below_drew1) | exact HB.out)))); have n2_ := Aside0.mk (below_step (by repeat (first | (with_reducible first | exact HB.out | apply below_alloc | apply pw_below_drewN | apply below_drew1) | exact HB.out)) hb); clear HO931; clear HB; have HO931 := n0_; have HO934 := n1_; have HB := n2_; clear n0_ n1_ n2_; (try (replace HX931 := Aside0.mk (foghornlaw18_lent.MK.below (by (with_reducible repeat (first | apply foghornlaw18_lent.MK.alloc | apply foghornlaw18_lent.MK.drewN | apply foghornlaw18_lent.MK.drew)); exact HX931.out) hb))); (try (replace HX934 := Aside0.mk (foghornlaw18_lent.MK.below (by (with_reducible repeat (first | apply foghornlaw18_lent.MK.alloc | apply foghornlaw18_lent.MK.drewN | apply foghornlaw18_lent.MK.drew)); exact HX934.out) hb))); (try clear hb); (try clear hb2); (try clear hk); (try clear hi); (try clear ho0)))
 (try simp only [Act.put, List.setIfInBounds_toArray, List.set_cons_zero, List.set_cons_succ])
 go_cut [33] (fun v33 wc => ∃ (kq : Nat) (x33_5 : Bool), v33 = .bool x33_5 ∧ Aside0 (foghornlaw18_FieldPolynomials.j0 kq l0 l1 a2 t929 t932 x33_5 = some r) ∧ Aside0 (kq ≤ k) ∧ Aside0 (Kd.R (Kd.int .u8) 5 wc w.heap.size (fun k_ => some k_ ≠ (v933 : Value).ownBlock) v930 t929) ∧ Aside0 (Kd.R (Kd.int .u8) 5 wc w.heap.size (fun k_ => some k_ ≠ (v930 : Value).ownBlock) v933 t932) ∧ Aside0 (foghornlaw18_lent.MK wc v933 t932) ∧ Aside0 (Below w.heap.size w wc))
 case first =>
  have H := HC6.out
  clear HC6
  replace H := Option.bind_eq_some_iff.mp H
  obtain ⟨t935, A90, H⟩ := H
  replace H : (if t935 = true then ((foghornlaw18_kept.f k t929 l0).bind fun t936 => (if t936 = true then ((foghornlaw18_kept.f k t932 l1).bind fun t937 => (foghornlaw18_FieldPolynomials.j0 k l0 l1 a2 t929 t932 (!t937))) else (foghornlaw18_FieldPolynomials.j0 k l0 l1 a2 t929 t932 true))) else (foghornlaw18_FieldPolynomials.j0 k l0 l1 a2 t929 t932 true)) = some r := H
  have A9 := Aside0.mk A90
  clear A90
  by_cases c10 : t935 = true
  ·subst c10
   have H1 : ((foghornlaw18_kept.f k t929 l0).bind fun t936 => (if t936 = true then ((foghornlaw18_kept.f k t932 l1).bind fun t937 => (foghornlaw18_FieldPolynomials.j0 k l0 l1 a2 t929 t932 (!t937))) else (foghornlaw18_FieldPolynomials.j0 k l0 l1 a2 t929 t932 true))) = some r := by rw [if_pos rfl] at H; exact H
   clear H
   have H := H1
   clear H1
   replace H := Option.bind_eq_some_iff.mp H
   obtain ⟨t936, A110, H⟩ := H
   replace H : (if t936 = true then ((foghornlaw18_kept.f k t932 l1).bind fun t937 => (foghornlaw18_FieldPolynomials.j0 k l0 l1 a2 t929 t932 (!t937))) else (foghornlaw18_FieldPolynomials.j0 k l0 l1 a2 t929 t932 true)) = some r := H
   have A11 := Aside0.mk A110
   clear A110
   by_cases c12 : t936 = true
   ·subst c12
    have H1 : ((foghornlaw18_kept.f k t932 l1).bind fun t937 => (foghornlaw18_FieldPolynomials.j0 k l0 l1 a2 t929 t932 (!t937))) = some r := by rw [if_pos rfl] at H; exact H
    clear H
    have H := H1
    clear H1
    replace H := Option.bind_eq_some_iff.mp H
    obtain ⟨t937, A130, H⟩ := H
    replace H : (foghornlaw18_FieldPolynomials.j0 k l0 l1 a2 t929 t932 (!t937)) = some r := H
    have A13 := Aside0.mk A130
    clear A130
    as_aux_lemma =>
     have H' := Aside0.mk H
     clear H
     obtain ⟨Ao14, co14, eo14⟩ := Kd.R_slice HO931.out
     subst eo14
     obtain ⟨Ao15, co15, eo15⟩ := Kd.R_slice HO934.out
     subst eo15
     go_wp2_with (first | ((with_reducible refine gate_callee (f := 61) rfl ?_); refine goesL_ (some 20) rfl rfl Try.func61 (by kernel_rfl) rfl #[.slice Ao14 t929.length co14, .slice Ao15 t932.length co15, .slice A0 l0.length c0, .slice A1 l1.length c1, .int .u8 a2] rfl (by (try simp only [List.map_toArray, List.map_cons, List.map_nil]); first | done | rfl | (simp only [List.length_drop, List.length_take]; rfl)) ?_; (with_reducible refine (foghornlaw18_polynomials.calls k _ _ t929 _ _ t932 _ _ l0 _ _ l1 a2 true _ ?side1 ?side2 ?side3 ?side4 ?side5 ?side6 ?side7 ?side8 A9.out).mono ?_); (case side1 => repeat (first | exact (Kd.R_reads' HO931.out).2.2 | (with_reducible refine Kd.C_alloc ?_ _) | (with_reducible refine Kd.C_drewN ?_ _) | (with_reducible refine Kd.C_drew ?_))); (case side2 => exact (Kd.R_reads' HO931.out).2.1); (case side3 => repeat (first | exact (Kd.R_reads' HO934.out).2.2 | (with_reducible refine Kd.C_alloc ?_ _) | (with_reducible refine Kd.C_drewN ?_ _) | (with_reducible refine Kd.C_drew ?_))); (case side4 => exact (Kd.R_reads' HO934.out).2.1); (case side5 => repeat (first | exact (Kd.C_below HR0.out HB.out) | (with_reducible refine Kd.C_alloc ?_ _) | (with_reducible refine Kd.C_drewN ?_ _) | (with_reducible refine Kd.C_drew ?_))); (case side6 => exact HC0.out); (case side7 => repeat (first | exact (Kd.C_below HR1.out HB.out) | (with_reducible refine Kd.C_alloc ?_ _) | (with_reducible refine Kd.C_drewN ?_ _) | (with_reducible refine Kd.C_drew ?_))); (case side8 => exact HC1.out); rintro e w16 ⟨rfl, hb⟩; refine ⟨_, rfl, ?_⟩; have n0_ := Aside0.mk (Kd.R_below (by (with_reducible repeat (first | apply Kd.R_alloc | apply Kd.R_drewN | apply Kd.R_drew)); exact HO931.out) hb); have n1_ := Aside0.mk (Kd.R_below (by (with_reducible repeat (first | apply Kd.R_alloc | apply Kd.R_drewN | apply Kd.R_drew)); exact HO934.out) hb); have n2_ := Aside0.mk (below_step (by repeat (first | (with_reducible first | exact HB.out | apply below_alloc | apply pw_below_drewN | apply below_drew1) | exact HB.out)) hb); clear HO931; clear HO934; clear HB; have HO931 := n0_; have HO934 := n1_; have HB := n2_; clear n0_ n1_ n2_; (try (replace HX931 := Aside0.mk (foghornlaw18_lent.MK.below (by (with_reducible repeat (first | apply foghornlaw18_lent.MK.alloc | apply foghornlaw18_lent.MK.drewN | apply foghornlaw18_lent.MK.drew)); exact HX931.out) hb))); (try (replace HX934 := Aside0.mk (foghornlaw18_lent.MK.below (by (with_reducible repeat (first | apply foghornlaw18_lent.MK.alloc | apply foghornlaw18_lent.MK.drewN | apply foghornlaw18_lent.MK.drew)); exact HX934.out) hb))); (try clear hb); (try clear hb2); (try clear hk); (try clear hi)) | (go_at_call 62; (with_reducible refine (foghornlaw18_kept.calls k _ _ t929 _ _ l0 true _ ?side1 ?side2 ?side3 ?side4 A11.out ?sideM).mono ?_); (case sideM => (with_reducible repeat (first | apply foghornlaw18_lent.MK.alloc | apply foghornlaw18_lent.MK.drewN | apply foghornlaw18_lent.MK.drew)); exact HX931.out); (case side1 => repeat (first | exact (Kd.R_reads' HO931.out).2.2 | (with_reducible refine Kd.C_alloc ?_ _) | (with_reducible refine Kd.C_drewN ?_ _) | (with_reducible refine Kd.C_drew ?_))); (case side2 => exact (Kd.R_reads' HO931.out).2.1); (case side3 => repeat (first | exact (Kd.C_below HR0.out HB.out) | (with_reducible refine Kd.C_alloc ?_ _) | (with_reducible refine Kd.C_drewN ?_ _) | (with_reducible refine Kd.C_drew ?_))); (case side4 => exact HC0.out); rintro e w' ⟨rfl, ⟨nd, rfl⟩⟩) | (go_at_call 62; (with_reducible refine (foghornlaw18_kept.calls k _ _ t932 _ _ l1 t937 _ ?side1 ?side2 ?side3 ?side4 A13.out ?sideM).mono ?_); (case sideM => (with_reducible repeat (first | apply foghornlaw18_lent.MK.alloc | apply foghornlaw18_lent.MK.drewN | apply foghornlaw18_lent.MK.drew)); exact HX934.out); (case side1 => repeat (first | exact (Kd.R_reads' HO934.out).2.2 | (with_reducible refine Kd.C_alloc ?_ _) | (with_reducible refine Kd.C_drewN ?_ _) | (with_reducible refine Kd.C_drew ?_))); (case side2 => exact (Kd.R_reads' HO934.out).2.1); (case side3 => repeat (first | exact (Kd.C_below HR1.out (by repeat (first | (with_reducible first | exact HB.out | apply below_alloc | apply pw_below_drewN | apply below_drew1) | exact HB.out))) | (with_reducible refine Kd.C_alloc ?_ _) | (with_reducible refine Kd.C_drewN ?_ _) | (with_reducible refine Kd.C_drew ?_))); (case side4 => exact HC1.out); rintro e w' ⟨rfl, ⟨nd, rfl⟩⟩))
     go_meet
     case rel => exact ⟨_, (!t937), (by first | rfl | (simp; done) | (simp [*]; done)), H', ⟨by first | omega | exact Nat.le_refl _⟩, ⟨by (with_reducible repeat (first | apply Kd.R_alloc | apply Kd.R_drewN | apply Kd.R_drew)); exact Kd.R_mono HO931.out (fun _ hk => hk.2)⟩, ⟨by (with_reducible repeat (first | apply Kd.R_alloc | apply Kd.R_drewN | apply Kd.R_drew)); exact Kd.R_mono HO934.out (fun _ hk => hk.2)⟩, ⟨by (with_reducible repeat (first | apply foghornlaw18_lent.MK.alloc | apply foghornlaw18_lent.MK.drewN | apply foghornlaw18_lent.MK.drew)); exact HX934.out⟩, ⟨by repeat (first | (with_reducible first | exact HB.out | apply below_alloc | apply pw_below_drewN | apply below_drew1) | exact HB.out)⟩⟩
   ·replace c12 := Bool.eq_false_iff.mpr c12
    subst c12
    have H1 : (foghornlaw18_FieldPolynomials.j0 k l0 l1 a2 t929 t932 true) = some r := by rw [if_neg (show ¬ (false = true) by decide)] at H; exact H
    clear H
    have H := H1
    clear H1
    as_aux_lemma =>
     have H' := Aside0.mk H
     clear H
     obtain ⟨Ao17, co17, eo17⟩ := Kd.R_slice HO931.out
     subst eo17
     obtain ⟨Ao18, co18, eo18⟩ := Kd.R_slice HO934.out
     subst eo18
     go_wp2_with (first | ((with_reducible refine gate_callee (f := 61) rfl ?_); refine goesL_ (some 20) rfl rfl Try.func61 (by kernel_rfl) rfl #[.slice Ao17 t929.length co17, .slice Ao18 t932.length co18, .slice A0 l0.length c0, .slice A1 l1.length c1, .int .u8 a2] rfl (by (try simp only [List.map_toArray, List.map_cons, List.map_nil]); first | done | rfl | (simp only [List.length_drop, List.length_take]; rfl)) ?_; (with_reducible refine (foghornlaw18_polynomials.calls k _ _ t929 _ _ t932 _ _ l0 _ _ l1 a2 true _ ?side1 ?side2 ?side3 ?side4 ?side5 ?side6 ?side7 ?side8 A9.out).mono ?_); (case side1 => repeat (first | exact (Kd.R_reads' HO931.out).2.2 | (with_reducible refine Kd.C_alloc ?_ _) | (with_reducible refine Kd.C_drewN ?_ _) | (with_reducible refine Kd.C_drew ?_))); (case side2 => exact (Kd.R_reads' HO931.out).2.1); (case side3 => repeat (first | exact (Kd.R_reads' HO934.out).2.2 | (with_reducible refine Kd.C_alloc ?_ _) | (with_reducible refine Kd.C_drewN ?_ _) | (with_reducible refine Kd.C_drew ?_))); (case side4 => exact (Kd.R_reads' HO934.out).2.1); (case side5 => repeat (first | exact (Kd.C_below HR0.out HB.out) | (with_reducible refine Kd.C_alloc ?_ _) | (with_reducible refine Kd.C_drewN ?_ _) | (with_reducible refine Kd.C_drew ?_))); (case side6 => exact HC0.out); (case side7 => repeat (first | exact (Kd.C_below HR1.out HB.out) | (with_reducible refine Kd.C_alloc ?_ _) | (with_reducible refine Kd.C_drewN ?_ _) | (with_reducible refine Kd.C_drew ?_))); (case side8 => exact HC1.out); rintro e w19 ⟨rfl, hb⟩; refine ⟨_, rfl, ?_⟩; have n0_ := Aside0.mk (Kd.R_below (by (with_reducible repeat (first | apply Kd.R_alloc | apply Kd.R_drewN | apply Kd.R_drew)); exact HO931.out) hb); have n1_ := Aside0.mk (Kd.R_below (by (with_reducible repeat (first | apply Kd.R_alloc | apply Kd.R_drewN | apply Kd.R_drew)); exact HO934.out) hb); have n2_ := Aside0.mk (below_step (by repeat (first | (with_reducible first | exact HB.out | apply below_alloc | apply pw_below_drewN | apply below_drew1) | exact HB.out)) hb); clear HO931; clear HO934; clear HB; have HO931 := n0_; have HO934 := n1_; have HB := n2_; clear n0_ n1_ n2_; (try (replace HX931 := Aside0.mk (foghornlaw18_lent.MK.below (by (with_reducible repeat (first | apply foghornlaw18_lent.MK.alloc | apply foghornlaw18_lent.MK.drewN | apply foghornlaw18_lent.MK.drew)); exact HX931.out) hb))); (try (replace HX934 := Aside0.mk (foghornlaw18_lent.MK.below (by (with_reducible repeat (first | apply foghornlaw18_lent.MK.alloc | apply foghornlaw18_lent.MK.drewN | apply foghornlaw18_lent.MK.drew)); exact HX934.out) hb))); (try clear hb); (try clear hb2); (try clear hk); (try clear hi)) | (go_at_call 62; (with_reducible refine (foghornlaw18_kept.calls k _ _ t929 _ _ l0 false _ ?side1 ?side2 ?side3 ?side4 A11.out ?sideM).mono ?_); (case sideM => (with_reducible repeat (first | apply foghornlaw18_lent.MK.alloc | apply foghornlaw18_lent.MK.drewN | apply foghornlaw18_lent.MK.drew)); exact HX931.out); (case side1 => repeat (first | exact (Kd.R_reads' HO931.out).2.2 | (with_reducible refine Kd.C_alloc ?_ _) | (with_reducible refine Kd.C_drewN ?_ _) | (with_reducible refine Kd.C_drew ?_))); (case side2 => exact (Kd.R_reads' HO931.out).2.1); (case side3 => repeat (first | exact (Kd.C_below HR0.out HB.out) | (with_reducible refine Kd.C_alloc ?_ _) | (with_reducible refine Kd.C_drewN ?_ _) | (with_reducible refine Kd.C_drew ?_))); (case side4 => exact HC0.out); rintro e w' ⟨rfl, ⟨nd, rfl⟩⟩))
     go_meet
     case rel => exact ⟨_, (true), (by first | rfl | (simp; done) | (simp [*]; done)), H', ⟨by first | omega | exact Nat.le_refl _⟩, ⟨by (with_reducible repeat (first | apply Kd.R_alloc | apply Kd.R_drewN | apply Kd.R_drew)); exact Kd.R_mono HO931.out (fun _ hk => hk.2)⟩, ⟨by (with_reducible repeat (first | apply Kd.R_alloc | apply Kd.R_drewN | apply Kd.R_drew)); exact Kd.R_mono HO934.out (fun _ hk => hk.2)⟩, ⟨by (with_reducible repeat (first | apply foghornlaw18_lent.MK.alloc | apply foghornlaw18_lent.MK.drewN | apply foghornlaw18_lent.MK.drew)); exact HX934.out⟩, ⟨by repeat (first | (with_reducible first | exact HB.out | apply below_alloc | apply pw_below_drewN | apply below_drew1) | exact HB.out)⟩⟩
  ·replace c10 := Bool.eq_false_iff.mpr c10
   subst c10
   have H1 : (foghornlaw18_FieldPolynomials.j0 k l0 l1 a2 t929 t932 true) = some r := by rw [if_neg (show ¬ (false = true) by decide)] at H; exact H
   clear H
   have H := H1
   clear H1
   as_aux_lemma =>
    have H' := Aside0.mk H
    clear H
    obtain ⟨Ao20, co20, eo20⟩ := Kd.R_slice HO931.out
    subst eo20
    obtain ⟨Ao21, co21, eo21⟩ := Kd.R_slice HO934.out
    subst eo21
    go_wp2_with (first | ((with_reducible refine gate_callee (f := 61) rfl ?_); refine goesL_ (some 20) rfl rfl Try.func61 (by kernel_rfl) rfl #[.slice Ao20 t929.length co20, .slice Ao21 t932.length co21, .slice A0 l0.length c0, .slice A1 l1.length c1, .int .u8 a2] rfl (by (try simp only [List.map_toArray, List.map_cons, List.map_nil]); first | done | rfl | (simp only [List.length_drop, List.length_take]; rfl)) ?_; (with_reducible refine (foghornlaw18_polynomials.calls k _ _ t929 _ _ t932 _ _ l0 _ _ l1 a2 false _ ?side1 ?side2 ?side3 ?side4 ?side5 ?side6 ?side7 ?side8 A9.out).mono ?_); (case side1 => repeat (first | exact (Kd.R_reads' HO931.out).2.2 | (with_reducible refine Kd.C_alloc ?_ _) | (with_reducible refine Kd.C_drewN ?_ _) | (with_reducible refine Kd.C_drew ?_))); (case side2 => exact (Kd.R_reads' HO931.out).2.1); (case side3 => repeat (first | exact (Kd.R_reads' HO934.out).2.2 | (with_reducible refine Kd.C_alloc ?_ _) | (with_reducible refine Kd.C_drewN ?_ _) | (with_reducible refine Kd.C_drew ?_))); (case side4 => exact (Kd.R_reads' HO934.out).2.1); (case side5 => repeat (first | exact (Kd.C_below HR0.out HB.out) | (with_reducible refine Kd.C_alloc ?_ _) | (with_reducible refine Kd.C_drewN ?_ _) | (with_reducible refine Kd.C_drew ?_))); (case side6 => exact HC0.out); (case side7 => repeat (first | exact (Kd.C_below HR1.out HB.out) | (with_reducible refine Kd.C_alloc ?_ _) | (with_reducible refine Kd.C_drewN ?_ _) | (with_reducible refine Kd.C_drew ?_))); (case side8 => exact HC1.out); rintro e w22 ⟨rfl, hb⟩; refine ⟨_, rfl, ?_⟩; have n0_ := Aside0.mk (Kd.R_below (by (with_reducible repeat (first | apply Kd.R_alloc | apply Kd.R_drewN | apply Kd.R_drew)); exact HO931.out) hb); have n1_ := Aside0.mk (Kd.R_below (by (with_reducible repeat (first | apply Kd.R_alloc | apply Kd.R_drewN | apply Kd.R_drew)); exact HO934.out) hb); have n2_ := Aside0.mk (below_step (by repeat (first | (with_reducible first | exact HB.out | apply below_alloc | apply pw_below_drewN | apply below_drew1) | exact HB.out)) hb); clear HO931; clear HO934; clear HB; have HO931 := n0_; have HO934 := n1_; have HB := n2_; clear n0_ n1_ n2_; (try (replace HX931 := Aside0.mk (foghornlaw18_lent.MK.below (by (with_reducible repeat (first | apply foghornlaw18_lent.MK.alloc | apply foghornlaw18_lent.MK.drewN | apply foghornlaw18_lent.MK.drew)); exact HX931.out) hb))); (try (replace HX934 := Aside0.mk (foghornlaw18_lent.MK.below (by (with_reducible repeat (first | apply foghornlaw18_lent.MK.alloc | apply foghornlaw18_lent.MK.drewN | apply foghornlaw18_lent.MK.drew)); exact HX934.out) hb))); (try clear hb); (try clear hb2); (try clear hk); (try clear hi)))
    go_meet
    case rel => exact ⟨_, (true), (by first | rfl | (simp; done) | (simp [*]; done)), H', ⟨by first | omega | exact Nat.le_refl _⟩, ⟨by (with_reducible repeat (first | apply Kd.R_alloc | apply Kd.R_drewN | apply Kd.R_drew)); exact Kd.R_mono HO931.out (fun _ hk => hk.2)⟩, ⟨by (with_reducible repeat (first | apply Kd.R_alloc | apply Kd.R_drewN | apply Kd.R_drew)); exact Kd.R_mono HO934.out (fun _ hk => hk.2)⟩, ⟨by (with_reducible repeat (first | apply foghornlaw18_lent.MK.alloc | apply foghornlaw18_lent.MK.drewN | apply foghornlaw18_lent.MK.drew)); exact HX934.out⟩, ⟨by repeat (first | (with_reducible first | exact HB.out | apply below_alloc | apply pw_below_drewN | apply below_drew1) | exact HB.out)⟩⟩
 case rest =>
  clear HC6
  try clear c1
  try clear p2
  try clear c6
  try clear c10
  try clear c12
  try clear c13
  obtain ⟨kq, x33_5, rfl, HA, HJ5, HO_7, HO_8, HX934, HB⟩ := hcut
  cases kq with
  | zero => exact absurd HA.out (by simp [foghornlaw18_FieldPolynomials.j0])
  | succ kj5 =>
   have H := HA.out
   clear HA
   simp only [foghornlaw18_FieldPolynomials.j0] at H
   by_cases c23 : x33_5 = true
   ·subst c23
    have H1 : (some false) = some r := by rw [if_pos rfl] at H; exact H
    clear H
    have H := H1
    clear H1
    as_aux_lemma =>
     exact absurd ((Option.some.inj H).trans HQ_.out) (by decide)
   ·replace c23 := Bool.eq_false_iff.mpr c23
    subst c23
    have H1 : (if 0 ≤ (l0.length : Int) then (if ((l0.length : Int) : Int).toNat ≤ 281474976710656 then (foghornlaw18_FieldPolynomials.l0 kj5 l0 l1 a2 t929 t932 (List.replicate ((l0.length : Int) : Int).toNat 0) 0) else (none)) else (none)) = some r := by rw [if_neg (show ¬ (false = true) by decide)] at H; exact H
    clear H
    have H := H1
    clear H1
    by_cases c24 : 0 ≤ (l0.length : Int)
    ·rw [if_pos c24] at H
     have c24b0 := eq_true c24
     have c24b1 : decide (0 ≤ (l0.length : Int)) = true := decide_eq_true c24
     clear c24
     by_cases c25 : ((l0.length : Int) : Int).toNat ≤ 281474976710656
     ·rw [if_pos c25] at H
      have c25b0 := eq_true c25
      have c25b1 : decide (((l0.length : Int) : Int).toNat ≤ 281474976710656) = true := decide_eq_true c25
      clear c25
      obtain ⟨y938, hy938⟩ : ∃ y_ : List Int, y_ = (List.replicate ((l0.length : Int) : Int).toNat 0) := ⟨_, rfl⟩
      replace H : (foghornlaw18_FieldPolynomials.l0 kj5 l0 l1 a2 t929 t932 y938 0) = some r := by first | (rw [hy938]; with_reducible exact H) | (have H2_ := (Option.bind_some _ _).symm.trans H; rw [hy938]; with_reducible exact H2_) | (have H2_ := (Option.bind_some _ _).symm.trans H; with_reducible exact H2_) | with_reducible exact H | (rw [hy938]; exact H) | exact H
      have Ny938 := Aside0.mk hy938
      clear hy938
      have H' := Aside0.mk H
      clear H
      go_wp2_with (first | ((with_reducible refine gate_dst (N := 36) rfl ?_); refine Kd.R_make (Kd.int .u8) _ 5 rfl (N := 36) rfl 22 _ _ rfl (l0.length : Int) rfl rfl Try.underlying22 (.int .u8 0) 1 info5 rfl (by decide) (by omega) 0 (ok := fun _ => True) (okp := fun _ => True) rfl (fun _ hk => hk) trivial (of_decide_eq_true (by first | (with_reducible assumption) | assumption)) (Nat.le_trans (Nat.mul_le_mul_right _ (of_decide_eq_true (by first | (with_reducible assumption) | assumption) : (l0.length : Int).toNat ≤ 281474976710656)) (by omega)) (Below.refl _ _) (Nat.le_refl _) ?_; intro v939 w26 ho27 hb hg_ hnew_; clear hg_ hnew_; (first | rw [← Ny938.out] at ho27 | (simp only [Int.reduceToNat] at ho27; rw [← Ny938.out] at ho27)); have n0_ := Aside0.mk (Kd.R_elder' (by (with_reducible repeat (first | apply Kd.R_alloc | apply Kd.R_drewN | apply Kd.R_drew)); exact HO_7.out) (Kd.R_base ho27) hb); have n1_ := Aside0.mk (Kd.R_elder' (by (with_reducible repeat (first | apply Kd.R_alloc | apply Kd.R_drewN | apply Kd.R_drew)); exact HO_8.out) (Kd.R_base ho27) hb); have n2_ := Aside0.mk (Kd.R_lower (Kd.R_new' (Kd.R_new' ho27 (Kd.R_lt (by (with_reducible repeat (first | apply Kd.R_alloc | apply Kd.R_drewN | apply Kd.R_drew)); exact HO_7.out))) (Kd.R_lt (by (with_reducible repeat (first | apply Kd.R_alloc | apply Kd.R_drewN | apply Kd.R_drew)); exact HO_8.out))) (below_size (by repeat (first | (with_reducible first | exact HB.out | apply below_alloc | apply pw_below_drewN | apply below_drew1) | exact HB.out)))); have n3_ := Aside0.mk (below_step (by repeat (first | (with_reducible first | exact HB.out | apply below_alloc | apply pw_below_drewN | apply below_drew1) | exact HB.out)) hb); clear HO_7; clear HO_8; clear HB; have HO_7 := n0_; have HO_8 := n1_; have HO940 := n2_; have HB := n3_; clear n0_ n1_ n2_ n3_; (try (replace HX934 := Aside0.mk (foghornlaw18_lent.MK.below (by (with_reducible repeat (first | apply foghornlaw18_lent.MK.alloc | apply foghornlaw18_lent.MK.drewN | apply foghornlaw18_lent.MK.drew)); exact HX934.out) hb))); clear hb ho27))
      go_loopg [10] kj5 (fun kq v10 w' => ∃ (x7_2 : List Int) (x9_2 : List Int) (x10_2 : Int), v10 = .int .i64 x10_2 ∧ Aside0 (foghornlaw18_FieldPolynomials.l0 kq l0 l1 a2 x7_2 t932 x9_2 x10_2 = some r) ∧ Aside0 (kq ≤ kj5) ∧ Aside0 (Kd.R (Kd.int .u8) 5 w' w.heap.size (fun k_ => some k_ ≠ (v933 : Value).ownBlock ∧ some k_ ≠ (v939 : Value).ownBlock) v930 x7_2) ∧ Aside0 (Kd.R (Kd.int .u8) 5 w' w.heap.size (fun k_ => some k_ ≠ (v930 : Value).ownBlock ∧ some k_ ≠ (v939 : Value).ownBlock) v933 t932) ∧ Aside0 (Kd.R (Kd.int .u8) 5 w' w.heap.size (fun k_ => some k_ ≠ (v930 : Value).ownBlock ∧ some k_ ≠ (v933 : Value).ownBlock) v939 x9_2) ∧ Aside0 (foghornlaw18_lent.MK w' v933 t932) ∧ Aside0 (Below w.heap.size w w'))
      case atStart => exact ⟨(t929), (y938), (0), (by first | rfl | (simp; done) | (simp [*]; done)), H', ⟨Nat.le_refl _⟩, ⟨by (with_reducible repeat (first | apply Kd.R_alloc | apply Kd.R_drewN | apply Kd.R_drew)); exact HO_7.out⟩, ⟨by (with_reducible repeat (first | apply Kd.R_alloc | apply Kd.R_drewN | apply Kd.R_drew)); exact HO_8.out⟩, ⟨by (with_reducible repeat (first | apply Kd.R_alloc | apply Kd.R_drewN | apply Kd.R_drew)); exact Kd.R_mono HO940.out (fun _ hk => ⟨hk.1.2, hk.2⟩)⟩, ⟨by (with_reducible repeat (first | apply foghornlaw18_lent.MK.alloc | apply foghornlaw18_lent.MK.drewN | apply foghornlaw18_lent.MK.drew)); exact HX934.out⟩, ⟨by repeat (first | (with_reducible first | exact HB.out | apply below_alloc | apply pw_below_drewN | apply below_drew1) | exact HB.out)⟩⟩
      case round =>
       clear H'
       try clear c1
       try clear c2
       try clear p2
       try clear c6
       try clear c10
       try clear c12
       try clear c13
       try clear c23
       try clear c24
       try clear c24b0
       try clear c24b1
       try clear c25
       try clear c25b0
       try clear c25b1
       try clear p2
       obtain ⟨x7_2, x9_2, x10_2, rfl, HA, HK2, HO_7, HO_8, HO_9, HX934, HB⟩ := hrel
       cases gk with
       | zero => exact absurd HA.out (by simp [foghornlaw18_FieldPolynomials.l0])
       | succ k2 =>
        have H := HA.out
        clear HA
        simp only [foghornlaw18_FieldPolynomials.l0] at H
        by_cases c28 : x10_2 < (l0.length : Int)
        ·rw [if_pos c28] at H
         have c28b0 : decide (x10_2 < (l0.length : Int)) = true := decide_eq_true c28
         clear c28
         by_cases c29 : 0 ≤ x10_2
         ·rw [if_pos c29] at H
          have c29b0 : decide (0 ≤ x10_2) = true := decide_eq_true c29
          clear c29
          by_cases c30 : x10_2 < (x9_2.length : Int)
          ·rw [if_pos c30] at H
           have c30b0 : decide (x10_2 < (x9_2.length : Int)) = true := decide_eq_true c30
           clear c30
           obtain ⟨y942, hy942⟩ : ∃ y_ : List Int, y_ = (x9_2.set (x10_2 : Int).toNat (Go.bits .xor .u8 (rd l0 x10_2) 3)) := ⟨_, rfl⟩
           replace H : (if x10_2 < (x7_2.length : Int) then (foghornlaw18_FieldPolynomials.l0 k2 l0 l1 a2 (x7_2.set (x10_2 : Int).toNat (rd y942 x10_2)) t932 y942 (wrap64 (x10_2 + 1))) else (none)) = some r := by first | (rw [hy942]; with_reducible exact H) | (have H2_ := (Option.bind_some _ _).symm.trans H; rw [hy942]; with_reducible exact H2_) | (have H2_ := (Option.bind_some _ _).symm.trans H; with_reducible exact H2_) | with_reducible exact H | (rw [hy942]; exact H) | exact H
           have Ny942 := Aside0.mk hy942
           clear hy942
           by_cases c32 : x10_2 < (x7_2.length : Int)
           ·rw [if_pos c32] at H
            have c32b0 : decide (x10_2 < (x7_2.length : Int)) = true := decide_eq_true c32
            clear c32
            obtain ⟨y944, hy944⟩ : ∃ y_ : List Int, y_ = (x7_2.set (x10_2 : Int).toNat (rd y942 x10_2)) := ⟨_, rfl⟩
            replace H : (foghornlaw18_FieldPolynomials.l0 k2 l0 l1 a2 y944 t932 y942 (wrap64 (x10_2 + 1))) = some r := by first | (rw [hy944]; with_reducible exact H) | (have H2_ := (Option.bind_some _ _).symm.trans H; rw [hy944]; with_reducible exact H2_) | (have H2_ := (Option.bind_some _ _).symm.trans H; with_reducible exact H2_) | with_reducible exact H | (rw [hy944]; exact H) | exact H
            have Ny944 := Aside0.mk hy944
            clear hy944
            as_aux_lemma =>
             have H' := Aside0.mk H
             clear H
             have p941 : 0 ≤ (x10_2 : Int) := of_decide_eq_true (by first | (with_reducible assumption) | assumption)
             have q941 : x10_2 < (l0.length : Int) := of_decide_eq_true (by first | (with_reducible assumption) | assumption)
             obtain ⟨ad941, e941, hx941_0⟩ := Kd.at_int HR0.out x10_2 p941 q941
             cases e941
             replace hx941_0 := (HB.out.cell (World.block_lt_of_cell? w _ hx941_0)).trans hx941_0
             replace p941 := eq_true p941
             replace q941 := eq_true q941
             have p31 : 0 ≤ (x10_2 : Int) := of_decide_eq_true (by first | (with_reducible assumption) | assumption)
             have q31 : (x10_2 : Int) < ((x9_2.length : Int) : Int) := of_decide_eq_true (by first | (with_reducible assumption) | assumption)
             obtain ⟨go31, co31, eo31, gb31, gl31, cl31, HG31⟩ := Kd.R_form HO_9.out (by omega)
             (first | cases eo31 | (injection eo31 with ea_ en_ ec_; (first | subst ea_ | (injection ea_ with ea_; subst ea_)); subst ec_; clear en_))
             have GB31 := Aside0.mk gb31
             have GG31 := Aside0.mk HG31
             clear gb31 gl31 HG31
             obtain ⟨hx31_0, hf31_0⟩ := Kd.R_celln 0 HO_9.out (x10_2 : Int) p31 q31
             replace p31 := eq_true p31
             replace q31 := eq_true q31
             have HP34 := Kd.R_putg HO_9.out (x10_2 : Int) (Go.bits .xor .u8 (rd l0 x10_2) 3)
             go_wp2_with (first | ((with_reducible refine gate_store (t := 5) (p := 50) rfl ?_); refine store_event (t := 5) (p := 50) (v := ?vo_w35) (w1 := (wr.setCell ⟨go31, (x10_2 : Int).toNat, none⟩ (.int .u8 (Go.bits .xor .u8 (rd l0 x10_2) 3)))) ?hg ?ho ?hn ?hr ?_; (case ho => rfl); (case hg => rfl); (case hn => rfl); (case hr => first | (go_simp; done) | (go_simp; rfl)); intro w35 hw; have hg : wr.grownBy w35 (some go31) := (by rw [hw]; exact HP34.2); have hp_ : Kd.R (Kd.int .u8) 5 w35 w.heap.size (fun k_ => some k_ ≠ (v930 : Value).ownBlock ∧ some k_ ≠ (v933 : Value).ownBlock) (.slice (some ⟨go31, 0, none⟩) x9_2.length co31) y942 := (by rw [hw, Ny942.out]; exact HP34.1); clear HP34; (try (replace HX934 := Aside0.mk (foghornlaw18_lent.MK.grown (by (with_reducible repeat (first | apply foghornlaw18_lent.MK.alloc | apply foghornlaw18_lent.MK.drewN | apply foghornlaw18_lent.MK.drew)); exact HX934.out) hg (fun ad_ n_ c_ e_ => by first | exact (HO_8.out.1 ad_.block (by rw [e_]; rfl)).2 | exact (HO_8.out.1 ad_.block (by rw [e_]; rfl)).1)))); have n0_ := Aside0.mk (Kd.R_after (v := (.slice (some ⟨go31, 0, none⟩) x9_2.length co31)) (v1 := (.slice (some ⟨go31, 0, none⟩) x9_2.length co31)) (ok := (fun k_ => some k_ ≠ (v933 : Value).ownBlock)) (by (with_reducible repeat (first | apply Kd.R_alloc | apply Kd.R_drewN | apply Kd.R_drew)); exact HO_7.out) hg (.inl rfl)); have n1_ := Aside0.mk (Kd.R_after (v := (.slice (some ⟨go31, 0, none⟩) x9_2.length co31)) (v1 := (.slice (some ⟨go31, 0, none⟩) x9_2.length co31)) (ok := (fun k_ => some k_ ≠ (v930 : Value).ownBlock)) (by (with_reducible repeat (first | apply Kd.R_alloc | apply Kd.R_drewN | apply Kd.R_drew)); exact HO_8.out) hg (.inl rfl)); have n2_ := Aside0.mk (hp_); have n3_ := Aside0.mk ((by rw [hw]; exact below_set (HB.out) GB31.out : Below w.heap.size w w35)); clear HO_7; clear HO_8; clear HO_9; clear HB; have HO_7 := n0_; have HO_8 := n1_; have HO_9 := n2_; have HB := n3_; clear n0_ n1_ n2_ n3_; clear hg hw hp_; have p943 : 0 ≤ (x10_2 : Int) := of_decide_eq_true (by first | (with_reducible assumption) | assumption); have q943 : x10_2 < (y942.length : Int) := (by have h_ : (x10_2 : Int) < ((x9_2.length : Int) : Int) := of_decide_eq_true (by first | (with_reducible assumption) | assumption); first | (have e_ := (Kd.R_reads' HO_9.out).1; omega) | simpa only [Ny942.out, List.length_set] using h_); have ql943 : ((x10_2 : Int) < ((x9_2.length : Int) : Int)) = True := eq_true (of_decide_eq_true (by first | (with_reducible assumption) | assumption)); obtain ⟨ad943, e943, hx943_0⟩ := Kd.at_int (Kd.R_reads' HO_9.out).2.2 x10_2 p943 q943; obtain rfl : (⟨go31, 0, none⟩ : Addr) = ad943 := (by injection e943); (first | simp only [add_plain] at hx943_0 | simp only [add_at] at hx943_0 | simp only [Addr.add, Nat.zero_add] at hx943_0 | skip); replace p943 := eq_true p943; replace q943 := eq_true q943; have p33 : 0 ≤ (x10_2 : Int) := of_decide_eq_true (by first | (with_reducible assumption) | assumption); have q33 : (x10_2 : Int) < ((x7_2.length : Int) : Int) := of_decide_eq_true (by first | (with_reducible assumption) | assumption); obtain ⟨go33, co33, eo33, gb33, gl33, cl33, HG33⟩ := Kd.R_form HO_7.out (by omega); (first | cases eo33 | (injection eo33 with ea_ en_ ec_; (first | subst ea_ | (injection ea_ with ea_; subst ea_)); subst ec_; clear en_)); have GB33 := Aside0.mk gb33; have GG33 := Aside0.mk HG33; clear gb33 gl33 HG33; obtain ⟨hx33_0, hf33_0⟩ := Kd.R_celln 0 HO_7.out (x10_2 : Int) p33 q33; replace p33 := eq_true p33; replace q33 := eq_true q33; obtain ⟨hy36_, hz36_⟩ := Kd.R_celln 0 HO_7.out (x10_2 : Int) (of_decide_eq_true (by first | (with_reducible assumption) | assumption)) (of_decide_eq_true (by first | (with_reducible assumption) | assumption)); have HP36 := Kd.R_putg HO_7.out (x10_2 : Int) (rd y942 x10_2)) | ((with_reducible refine gate_store (t := 5) (p := 57) rfl ?_); refine store_event (t := 5) (p := 57) (v := ?vo_w37) (w1 := (w35.setCell ⟨go33, (x10_2 : Int).toNat, none⟩ (.int .u8 (rd y942 x10_2)))) ?hg ?ho ?hn ?hr ?_; (case ho => rfl); (case hg => rfl); (case hn => rfl); (case hr => first | (go_simp; done) | (go_simp; rfl)); intro w37 hw; have hg : w35.grownBy w37 (some go33) := (by rw [hw]; exact HP36.2); have hp_ : Kd.R (Kd.int .u8) 5 w37 w.heap.size (fun k_ => some k_ ≠ (v933 : Value).ownBlock ∧ some k_ ≠ (.slice (some ⟨go31, 0, none⟩) x9_2.length co31 : Value).ownBlock) (.slice (some ⟨go33, 0, none⟩) x7_2.length co33) y944 := (by rw [hw, Ny944.out]; exact HP36.1); clear HP36; (try (replace HX934 := Aside0.mk (foghornlaw18_lent.MK.grown (by (with_reducible repeat (first | apply foghornlaw18_lent.MK.alloc | apply foghornlaw18_lent.MK.drewN | apply foghornlaw18_lent.MK.drew)); exact HX934.out) hg (fun ad_ n_ c_ e_ => by first | exact (HO_8.out.1 ad_.block (by rw [e_]; rfl)).2 | exact (HO_8.out.1 ad_.block (by rw [e_]; rfl)).1)))); have n0_ := Aside0.mk (hp_); have n1_ := Aside0.mk (Kd.R_after (v := (.slice (some ⟨go33, 0, none⟩) x7_2.length co33)) (v1 := (.slice (some ⟨go33, 0, none⟩) x7_2.length co33)) (ok := (fun k_ => some k_ ≠ (.slice (some ⟨go31, 0, none⟩) x9_2.length co31 : Value).ownBlock)) (by (with_reducible repeat (first | apply Kd.R_alloc | apply Kd.R_drewN | apply Kd.R_drew)); exact Kd.R_mono HO_8.out (fun _ hk => ⟨hk.2, hk.1⟩)) hg (.inl rfl)); have n2_ := Aside0.mk (Kd.R_after (v := (.slice (some ⟨go33, 0, none⟩) x7_2.length co33)) (v1 := (.slice (some ⟨go33, 0, none⟩) x7_2.length co33)) (ok := (fun k_ => some k_ ≠ (v933 : Value).ownBlock)) (by (with_reducible repeat (first | apply Kd.R_alloc | apply Kd.R_drewN | apply Kd.R_drew)); exact Kd.R_mono HO_9.out (fun _ hk => ⟨hk.2, hk.1⟩)) hg (.inl rfl)); have n3_ := Aside0.mk ((by rw [hw]; exact below_set (HB.out) GB33.out : Below w.heap.size w w37)); clear HO_7; clear HO_8; clear HO_9; clear HB; have HO_7 := n0_; have HO_8 := n1_; have HO_9 := n2_; have HB := n3_; clear n0_ n1_ n2_ n3_; clear hg hw hp_))
             first | go_roundg k2 | (simp only [add_plain] at *; go_roundg k2)
             case measure => have := HJ5.out; have := HK2.out; omega
             case rel => exact ⟨(y944), (y942), (wrap64 (x10_2 + 1)), (by first | rfl | (simp; done) | (simp [*]; done)), H', ⟨by have := HJ5.out; have := HK2.out; omega⟩, ⟨by (with_reducible repeat (first | apply Kd.R_alloc | apply Kd.R_drewN | apply Kd.R_drew)); exact HO_7.out⟩, ⟨by (with_reducible repeat (first | apply Kd.R_alloc | apply Kd.R_drewN | apply Kd.R_drew)); exact Kd.R_mono HO_8.out (fun _ hk => ⟨hk.2, hk.1⟩)⟩, ⟨by (with_reducible repeat (first | apply Kd.R_alloc | apply Kd.R_drewN | apply Kd.R_drew)); exact Kd.R_mono HO_9.out (fun _ hk => ⟨hk.2, hk.1⟩)⟩, ⟨by (with_reducible repeat (first | apply foghornlaw18_lent.MK.alloc | apply foghornlaw18_lent.MK.drewN | apply foghornlaw18_lent.MK.drew)); exact HX934.out⟩, ⟨by repeat (first | (with_reducible first | exact HB.out | apply below_alloc | apply pw_below_drewN | apply below_drew1) | exact HB.out)⟩⟩
           ·rw [if_neg c32] at H
            exact absurd H (by simp)
          ·rw [if_neg c30] at H
           exact absurd H (by simp)
         ·rw [if_neg c29] at H
          exact absurd H (by simp)
        ·rw [if_neg c28] at H
         have c28b0 : decide (x10_2 < (l0.length : Int)) = false := decide_eq_false c28
         clear c28
         replace H := Option.bind_eq_some_iff.mp H
         obtain ⟨t945, A380, H⟩ := H
         replace H : (if t945 = true then ((foghornlaw18_kept.f k2 t932 l1).bind fun t946 => (if t946 = true then ((foghornlaw18_awake.f k2).bind fun t947 => (some t947)) else (some false))) else (some false)) = some r := H
         have A38 := Aside0.mk A380
         clear A380
         by_cases c39 : t945 = true
         ·subst c39
          have H1 : ((foghornlaw18_kept.f k2 t932 l1).bind fun t946 => (if t946 = true then ((foghornlaw18_awake.f k2).bind fun t947 => (some t947)) else (some false))) = some r := by rw [if_pos rfl] at H; exact H
          clear H
          have H := H1
          clear H1
          replace H := Option.bind_eq_some_iff.mp H
          obtain ⟨t946, A400, H⟩ := H
          replace H : (if t946 = true then ((foghornlaw18_awake.f k2).bind fun t947 => (some t947)) else (some false)) = some r := H
          have A40 := Aside0.mk A400
          clear A400
          by_cases c41 : t946 = true
          ·subst c41
           have H1 : ((foghornlaw18_awake.f k2).bind fun t947 => (some t947)) = some r := by rw [if_pos rfl] at H; exact H
           clear H
           have H := H1
           clear H1
           replace H := Option.bind_eq_some_iff.mp H
           obtain ⟨t947, A420, H⟩ := H
           replace H : (some t947) = some r := H
           have A42 := Aside0.mk A420
           clear A420
           as_aux_lemma =>
            obtain rfl := Option.some.inj H
            obtain ⟨Ao43, co43, eo43⟩ := Kd.R_slice HO_7.out
            subst eo43
            obtain ⟨Ao44, co44, eo44⟩ := Kd.R_slice HO_8.out
            subst eo44
            obtain ⟨Ao45, co45, eo45⟩ := Kd.R_slice HO_9.out
            subst eo45
            go_wp2_with (first | ((with_reducible refine gate_callee (f := 61) rfl ?_); refine goesL_ (some 63) rfl rfl Try.func61 (by kernel_rfl) rfl #[.slice Ao43 x7_2.length co43, .slice Ao44 t932.length co44, .slice Ao45 x9_2.length co45, .slice A1 l1.length c1, .int .u8 a2] rfl (by (try simp only [List.map_toArray, List.map_cons, List.map_nil]); first | done | rfl | (simp only [List.length_drop, List.length_take]; rfl)) ?_; (with_reducible refine (foghornlaw18_polynomials.calls k2 _ _ x7_2 _ _ t932 _ _ x9_2 _ _ l1 a2 true _ ?side1 ?side2 ?side3 ?side4 ?side5 ?side6 ?side7 ?side8 A38.out).mono ?_); (case side1 => repeat (first | exact (Kd.R_reads' HO_7.out).2.2 | (with_reducible refine Kd.C_alloc ?_ _) | (with_reducible refine Kd.C_drewN ?_ _) | (with_reducible refine Kd.C_drew ?_))); (case side2 => exact (Kd.R_reads' HO_7.out).2.1); (case side3 => repeat (first | exact (Kd.R_reads' HO_8.out).2.2 | (with_reducible refine Kd.C_alloc ?_ _) | (with_reducible refine Kd.C_drewN ?_ _) | (with_reducible refine Kd.C_drew ?_))); (case side4 => exact (Kd.R_reads' HO_8.out).2.1); (case side5 => repeat (first | exact (Kd.R_reads' HO_9.out).2.2 | (with_reducible refine Kd.C_alloc ?_ _) | (with_reducible refine Kd.C_drewN ?_ _) | (with_reducible refine Kd.C_drew ?_))); (case side6 => exact (Kd.R_reads' HO_9.out).2.1); (case side7 => repeat (first | exact (Kd.C_below HR1.out HB.out) | (with_reducible refine Kd.C_alloc ?_ _) | (with_reducible refine Kd.C_drewN ?_ _) | (with_reducible refine Kd.C_drew ?_))); (case side8 => exact HC1.out); rintro e w46 ⟨rfl, hb⟩; refine ⟨_, rfl, ?_⟩; have n0_ := Aside0.mk (Kd.R_below (by (with_reducible repeat (first | apply Kd.R_alloc | apply Kd.R_drewN | apply Kd.R_drew)); exact HO_7.out) hb); have n1_ := Aside0.mk (Kd.R_below (by (with_reducible repeat (first | apply Kd.R_alloc | apply Kd.R_drewN | apply Kd.R_drew)); exact HO_8.out) hb); have n2_ := Aside0.mk (Kd.R_below (by (with_reducible repeat (first | apply Kd.R_alloc | apply Kd.R_drewN | apply Kd.R_drew)); exact HO_9.out) hb); have n3_ := Aside0.mk (below_step (by repeat (first | (with_reducible first | exact HB.out | apply below_alloc | apply pw_below_drewN | apply below_drew1) | exact HB.out)) hb); clear HO_7; clear HO_8; clear HO_9; clear HB; have HO_7 := n0_; have HO_8 := n1_; have HO_9 := n2_; have HB := n3_; clear n0_ n1_ n2_ n3_; (try (replace HX931 := Aside0.mk (foghornlaw18_lent.MK.below (by (with_reducible repeat (first | apply foghornlaw18_lent.MK.alloc | apply foghornlaw18_lent.MK.drewN | apply foghornlaw18_lent.MK.drew)); exact HX931.out) hb))); (try (replace HX934 := Aside0.mk (foghornlaw18_lent.MK.below (by (with_reducible repeat (first | apply foghornlaw18_lent.MK.alloc | apply foghornlaw18_lent.MK.drewN | apply foghornlaw18_lent.MK.drew)); exact HX934.out) hb))); (try clear hb); (try clear hb2); (try clear hk); (try clear hi)) | (go_at_call 62; (with_reducible refine (foghornlaw18_kept.calls k2 _ _ t932 _ _ l1 true _ ?side1 ?side2 ?side3 ?side4 A40.out ?sideM).mono ?_); (case sideM => (with_reducible repeat (first | apply foghornlaw18_lent.MK.alloc | apply foghornlaw18_lent.MK.drewN | apply foghornlaw18_lent.MK.drew)); exact HX934.out); (case side1 => repeat (first | exact (Kd.R_reads' HO_8.out).2.2 | (with_reducible refine Kd.C_alloc ?_ _) | (with_reducible refine Kd.C_drewN ?_ _) | (with_reducible refine Kd.C_drew ?_))); (case side2 => exact (Kd.R_reads' HO_8.out).2.1); (case side3 => repeat (first | exact (Kd.C_below HR1.out HB.out) | (with_reducible refine Kd.C_alloc ?_ _) | (with_reducible refine Kd.C_drewN ?_ _) | (with_reducible refine Kd.C_drew ?_))); (case side4 => exact HC1.out); rintro e w' ⟨rfl, ⟨nd, rfl⟩⟩) | (go_at_call 32; (with_reducible refine (foghornlaw18_awake.calls k2  t947 _ A42.out).mono ?_); rintro e w47 ⟨rfl, hb⟩; have n0_ := Aside0.mk (Kd.R_below (by (with_reducible repeat (first | apply Kd.R_alloc | apply Kd.R_drewN | apply Kd.R_drew)); exact HO_7.out) hb); have n1_ := Aside0.mk (Kd.R_below (by (with_reducible repeat (first | apply Kd.R_alloc | apply Kd.R_drewN | apply Kd.R_drew)); exact HO_8.out) hb); have n2_ := Aside0.mk (Kd.R_below (by (with_reducible repeat (first | apply Kd.R_alloc | apply Kd.R_drewN | apply Kd.R_drew)); exact HO_9.out) hb); have n3_ := Aside0.mk (below_step (by repeat (first | (with_reducible first | exact HB.out | apply below_alloc | apply pw_below_drewN | apply below_drew1) | exact HB.out)) hb); clear HO_7; clear HO_8; clear HO_9; clear HB; have HO_7 := n0_; have HO_8 := n1_; have HO_9 := n2_; have HB := n3_; clear n0_ n1_ n2_ n3_; (try (replace HX931 := Aside0.mk (foghornlaw18_lent.MK.below (by (with_reducible repeat (first | apply foghornlaw18_lent.MK.alloc | apply foghornlaw18_lent.MK.drewN | apply foghornlaw18_lent.MK.drew)); exact HX931.out) hb))); (try (replace HX934 := Aside0.mk (foghornlaw18_lent.MK.below (by (with_reducible repeat (first | apply foghornlaw18_lent.MK.alloc | apply foghornlaw18_lent.MK.drewN | apply foghornlaw18_lent.MK.drew)); exact HX934.out) hb))); (try clear hb); (try clear hb2); (try clear hk); (try clear hi)))
            go_ret
            exact ⟨by first | rfl | (simp [errW_none, errW_some] <;> rfl) | (simp [*, errW_none, errW_some] <;> rfl), by repeat (first | (with_reducible first | exact HB.out | apply below_alloc | apply pw_below_drewN | apply below_drew1) | exact HB.out)⟩
          ·replace c41 := Bool.eq_false_iff.mpr c41
           subst c41
           have H1 : (some false) = some r := by rw [if_neg (show ¬ (false = true) by decide)] at H; exact H
           clear H
           have H := H1
           clear H1
           as_aux_lemma =>
            exact absurd ((Option.some.inj H).trans HQ_.out) (by decide)
         ·replace c39 := Bool.eq_false_iff.mpr c39
          subst c39
          have H1 : (some false) = some r := by rw [if_neg (show ¬ (false = true) by decide)] at H; exact H
          clear H
          have H := H1
          clear H1
          as_aux_lemma =>
           exact absurd ((Option.some.inj H).trans HQ_.out) (by decide)
     ·rw [if_neg c25] at H
      exact absurd H (by simp)
    ·rw [if_neg c24] at H
     exact absurd H (by simp)

theorem foghornlaw18_FieldPolynomials.walk (P : foghornlaw18_FieldPolynomials.Pure) (a0 : Option Addr) (len0 cap0 : Nat) (z0 : List Int) (a1 : Option Addr) (len1 cap1 : Nat) (z1 : List Int) (a2 : Int) (w : World) (w0 : (a0 = none ∧ len0 = 0 ∧ cap0 = 0 ∧ z0 = []) ∨ ∃ x, a0 = some x ∧ len0 ≤ cap0 ∧ cap0 ≤ maxLen ∧ z0.length = cap0 ∧ (∀ i, i < z0.length → w.cell? (x.add i) = some (.int .u8 (z0.getD i 0))) ∧ ∀ n ∈ z0, (Lit.int .u8 n).wf = true) (y0 : len0 * 1 ≤ 140737488351232) (w1 : (a1 = none ∧ len1 = 0 ∧ cap1 = 0 ∧ z1 = []) ∨ ∃ x, a1 = some x ∧ len1 ≤ cap1 ∧ cap1 ≤ maxLen ∧ z1.length = cap1 ∧ (∀ i, i < z1.length → w.cell? (x.add i) = some (.int .u8 (z1.getD i 0))) ∧ ∀ n ∈ z1, (Lit.int .u8 n).wf = true) (y1 : len1 * 1 ≤ 140737488351232) (w2 : (Lit.int .u8 a2).wf = true) :
  Calls Try.prog 13 #[.slice a0 len0 cap0, .slice a1 len1 cap1, .int .u8 a2] w fun e w' => e = .returned (.bool true) ∧ Below w.heap.size w w' := by
 obtain ⟨l0, rfl, hr0, hm0, hw0, hc0⟩ := ReadsInt.ofRowC w0
 obtain ⟨l1, rfl, hr1, hm1, hw1, hc1⟩ := ReadsInt.ofRowC w1
 obtain ⟨k, h⟩ := P l0 l1 a2 hm0 y0 hw0 hm1 y1 hw1 w2
 refine (foghornlaw18_FieldPolynomials.calls k _ _ l0 _ _ l1 a2 true w (Kd.C_of_reads (d := (0 : Int)) (h1 := fun _ => rfl) hr0) hc0 (Kd.C_of_reads (d := (0 : Int)) (h1 := fun _ => rfl) hr1) hc1 h rfl).mono ?_
 rintro e w' ⟨rfl, hd⟩
 exact ⟨rfl, hd⟩

end Go.Proofs.Ytmdeldiocaofkaa.Q
