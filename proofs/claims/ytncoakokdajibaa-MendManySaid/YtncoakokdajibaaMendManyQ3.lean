import Derived.Test.YtncoakokdajibaaMendManyK0
import Derived.Test.YtncoakokdajibaaMendManyF1
import Derived.Test.YtncoakokdajibaaMendManyQ0
import Derived.Test.YtncoakokdajibaaMendManyQ2
-- Printed by myprint.py (ours) over the kit's printer, out of the translation.
namespace Go.Proofs.Ytncoakokdajibaa.Q
open Go.RowKit Go.Proofs.YtncoakokdajibaaW.PrintWords Go.Proofs.YtncoakokdajibaaW.PrintLast Go.Proofs.YtncoakokdajibaaW.PrintMore
attribute [local go_sem] ArrW.ptrOf_slice unary_neg_float unary_neg_complex run_store_float run_store_complex max2_int min2_int max_two min_two max_three min_three max_four min_four   -- for this text's walks alone
set_option linter.unusedVariables false
set_option linter.unusedSimpArgs false
set_option maxHeartbeats 8000000 in
set_option maxRecDepth 100000 in
theorem mend_Mend.calls (k : Nat) (a0 : ByteArray) (a1 : Int) (A2 : Option Addr) (c2 : Nat) (l2 : List Int) (r1 : ByteArray) (r2 : List Int) (r3 : List Int) (r4 : Int) (w : World) (hr2 : Kd.C (Kd.int .i64) w A2 l2.length l2) (hc2 : l2.length ≤ c2) (h : mend_Mend.f k a0 a1 l2 = some (r1, r2, r3, r4)) :
  Calls Try.prog 51 #[.string a0, .int .i64 a1, .slice A2 l2.length c2] w fun e w' => ∃ v1_ v2_ : Value, e = .returned (.tuple #[.agg #[.string r1, v1_, v2_], .int .i64 r4]) ∧ Kd.R (Kd.int .i64) 3 w' w.heap.size (fun k_ => some k_ ≠ (v2_ : Value).ownBlock) v1_ r2 ∧ Kd.R (Kd.int .i64) 3 w' w.heap.size (fun k_ => some k_ ≠ (v1_ : Value).ownBlock) v2_ r3 ∧ Below w.heap.size w w' := by
 have hu64 := Try.underlying64
 have HR2 := Aside0.mk hr2
 have HC2 := Aside0.mk hc2
 clear hr2 hc2
 have HB := Aside0.mk (Below.refl w.heap.size w)
 have H : ((mend_check.f k a0 a1 l2).bind fun bt771 => (if bt771.2 = 0 then (if (l2.length : Int) > a1 then (some ((⟨#[]⟩ : ByteArray), ([] : List Int), ([] : List Int), 9)) else ((mend_mend.f k a0 a1 bt771.1 l2).bind fun bt775 => (if bt775.2 = true then ((mend_unlike.f k a0 bt775.1 bt771.1).bind fun t777 => ((mend_rising.f k bt771.1).bind fun t780 => (some (bt775.1, t777, t780, 0)))) else (some ((⟨#[]⟩ : ByteArray), ([] : List Int), ([] : List Int), 9))))) else (some ((⟨#[]⟩ : ByteArray), ([] : List Int), ([] : List Int), bt771.2)))) = some (r1, r2, r3, r4) := h
 clear h
 replace H := Option.bind_eq_some_iff.mp H
 obtain ⟨⟨t771, t772⟩, A40, H⟩ := H
 replace H : (if t772 = 0 then (if (l2.length : Int) > a1 then (some ((⟨#[]⟩ : ByteArray), ([] : List Int), ([] : List Int), 9)) else ((mend_mend.f k a0 a1 t771 l2).bind fun bt775 => (if bt775.2 = true then ((mend_unlike.f k a0 bt775.1 t771).bind fun t777 => ((mend_rising.f k t771).bind fun t780 => (some (bt775.1, t777, t780, 0)))) else (some ((⟨#[]⟩ : ByteArray), ([] : List Int), ([] : List Int), 9))))) else (some ((⟨#[]⟩ : ByteArray), ([] : List Int), ([] : List Int), t772))) = some (r1, r2, r3, r4) := H
 have A4 := Aside0.mk A40
 clear A40
 by_cases c5 : t772 = 0
 ·rw [if_pos c5] at H
  have c5b0 : (t772 == 0) = true := beq_iff_eq.mpr c5
  have c5b1 : (t772 != 0) = false := bne_eq_false_iff_eq.mpr c5
  clear c5
  by_cases c6 : (l2.length : Int) > a1
  ·rw [if_pos c6] at H
   have c6b0 : decide (a1 < (l2.length : Int)) = true := decide_eq_true c6
   clear c6
   simp only [Option.some.injEq, Prod.mk.injEq] at H
   obtain ⟨rfl, rfl, rfl, rfl⟩ := H
   go_enter Try.func51, Try.ntmps51
   go_wp2_with (first | ((with_reducible refine gate_dst (N := 6) rfl ?_); refine box_event ?hg (N := 6) ?hd (cs := #[.string (⟨#[]⟩ : ByteArray), .slice none 0 0, .slice none 0 0]) (t := 64) ?hr ?_; (case hd => rfl); (case hg => rfl); (case hr => first | (go_simp; done) | (go_simp; rfl)); intro gb770 hg w7 hbox hb; have n0_ := Aside0.mk (below_step HB.out hb); have n1_ := Aside0.mk (hbox); have n2_ := Aside0.mk ((by rw [hg]; exact (below_size HB.out) : w.heap.size ≤ gb770)); have n3_ := Aside0.mk ((by rw [hg]; exact (below_size HB.out) : w.heap.size ≤ gb770)); clear HB; have HB := n0_; have BK770 := n1_; have GW770 := n2_; have GE770 := n3_; clear n0_ n1_ n2_ n3_; clear hb hbox hg) | ((with_reducible refine gate_callee (f := 86) rfl ?_); refine goesL_ (some 16) rfl rfl Try.func86 (by kernel_rfl) rfl #[.string a0, .int .i64 a1, .slice A2 l2.length c2] rfl (by (try simp only [List.map_toArray, List.map_cons, List.map_nil]); first | done | rfl | (simp only [List.length_drop, List.length_take]; rfl)) ?_; (with_reducible refine (mend_check.calls k a0 a1 _ _ l2 t771 t772 _ ?side1 ?side2 A4.out).mono ?_); (case side1 => exact (Kd.C_below HR2.out HB.out)); (case side2 => exact HC2.out); rintro e w8 ⟨v773, rfl, ho0, hb⟩; refine ⟨_, rfl, ?_⟩; have n0_ := Aside0.mk (Kd.R_lower ho0 (below_size HB.out)); have n1_ := Aside0.mk (blk_below (g := gb770) (o := .cells #[.string (⟨#[]⟩ : ByteArray), .slice none 0 0, .slice none 0 0] 64 (0, 0)) (by (with_reducible repeat (first | refine blk_drewN ?_ _ | refine blk_drew ?_ | refine blk_alloc ?_ _)); exact BK770.out) hb); have n2_ := Aside0.mk (below_step HB.out hb); clear BK770; clear HB; have HO774 := n0_; have BK770 := n1_; have HB := n2_; clear n0_ n1_ n2_; (try clear hb); (try clear hk); (try clear ho0); have hcz9_0 : w8.cell? ⟨gb770, 0, none⟩ = some (.string (⟨#[]⟩ : ByteArray)) := (blk_cell BK770.out 0).trans rfl; have hcz9_1 : w8.cell? ⟨gb770, 1, none⟩ = some (.slice none 0 0) := (blk_cell BK770.out 1).trans rfl; have hcz9_2 : w8.cell? ⟨gb770, 2, none⟩ = some (.slice none 0 0) := (blk_cell BK770.out 2).trans rfl; have hfz9_0 := blk_frozen BK770.out 0; have hfz9_1 := blk_frozen BK770.out 1; have hfz9_2 := blk_frozen BK770.out 2))
   refine bodyPost_ret (results_ct rfl _ _ gb770 64 #[.string (⟨#[]⟩ : ByteArray), .slice none 0 0, .slice none 0 0] (0, 0) _ rfl (by (with_reducible repeat (first | refine blk_drewN ?_ _ | refine blk_drew ?_ | refine blk_alloc ?_ _)); refine blk_put (cs := #[.string (⟨#[]⟩ : ByteArray), .slice none 0 0, .slice none 0 0]) ?_ 2 _ rfl; (with_reducible repeat (first | refine blk_drewN ?_ _ | refine blk_drew ?_ | refine blk_alloc ?_ _)); refine blk_put (cs := #[.string (⟨#[]⟩ : ByteArray), .slice none 0 0, .slice none 0 0]) ?_ 1 _ rfl; (with_reducible repeat (first | refine blk_drewN ?_ _ | refine blk_drew ?_ | refine blk_alloc ?_ _)); refine blk_put (cs := #[.string (⟨#[]⟩ : ByteArray), .slice none 0 0, .slice none 0 0]) ?_ 0 _ rfl; (with_reducible repeat (first | refine blk_drewN ?_ _ | refine blk_drew ?_ | refine blk_alloc ?_ _)); exact BK770.out) Try.underlying64 rfl (by kernel_rfl)) rfl ?_
   exact ⟨_, _, by rfl, by first | exact Kd.R_nil _ _ _ _ _ | exact Kd.N_nil _ _ _ _ _ | exact Kd.V_nil _ _ _ _ _ | exact Kd.Q_nil _ _ _ _ _ | exact Kd.S_nil _ _ _ _ _, by first | exact Kd.R_nil _ _ _ _ _ | exact Kd.N_nil _ _ _ _ _ | exact Kd.V_nil _ _ _ _ _ | exact Kd.Q_nil _ _ _ _ _ | exact Kd.S_nil _ _ _ _ _, by repeat (first | (with_reducible first | exact HB.out | apply below_alloc | apply pw_below_drewN | apply below_drew1 | refine below_set ?_ GE770.out) | exact HB.out)⟩
  ·rw [if_neg c6] at H
   have c6b0 : decide (a1 < (l2.length : Int)) = false := decide_eq_false c6
   clear c6
   replace H := Option.bind_eq_some_iff.mp H
   obtain ⟨⟨t775, t776⟩, A100, H⟩ := H
   replace H : (if t776 = true then ((mend_unlike.f k a0 t775 t771).bind fun t777 => ((mend_rising.f k t771).bind fun t780 => (some (t775, t777, t780, 0)))) else (some ((⟨#[]⟩ : ByteArray), ([] : List Int), ([] : List Int), 9))) = some (r1, r2, r3, r4) := H
   have A10 := Aside0.mk A100
   clear A100
   by_cases c11 : t776 = true
   ·subst c11
    have H1 : ((mend_unlike.f k a0 t775 t771).bind fun t777 => ((mend_rising.f k t771).bind fun t780 => (some (t775, t777, t780, 0)))) = some (r1, r2, r3, r4) := by rw [if_pos rfl] at H; exact H
    clear H
    have H := H1
    clear H1
    replace H := Option.bind_eq_some_iff.mp H
    obtain ⟨t777, A120, H⟩ := H
    replace H : ((mend_rising.f k t771).bind fun t780 => (some (t775, t777, t780, 0))) = some (r1, r2, r3, r4) := H
    have A12 := Aside0.mk A120
    clear A120
    replace H := Option.bind_eq_some_iff.mp H
    obtain ⟨t780, A130, H⟩ := H
    replace H : (some (t775, t777, t780, 0)) = some (r1, r2, r3, r4) := H
    have A13 := Aside0.mk A130
    clear A130
    simp only [Option.some.injEq, Prod.mk.injEq] at H
    obtain ⟨rfl, rfl, rfl, rfl⟩ := H
    go_enter Try.func51, Try.ntmps51
    go_wp2_with (first | ((with_reducible refine gate_dst (N := 6) rfl ?_); refine box_event ?hg (N := 6) ?hd (cs := #[.string (⟨#[]⟩ : ByteArray), .slice none 0 0, .slice none 0 0]) (t := 64) ?hr ?_; (case hd => rfl); (case hg => rfl); (case hr => first | (go_simp; done) | (go_simp; rfl)); intro gb770 hg w14 hbox hb; have n0_ := Aside0.mk (below_step HB.out hb); have n1_ := Aside0.mk (hbox); have n2_ := Aside0.mk ((by rw [hg]; exact (below_size HB.out) : w.heap.size ≤ gb770)); have n3_ := Aside0.mk ((by rw [hg]; exact (below_size HB.out) : w.heap.size ≤ gb770)); clear HB; have HB := n0_; have BK770 := n1_; have GW770 := n2_; have GE770 := n3_; clear n0_ n1_ n2_ n3_; clear hb hbox hg) | ((with_reducible refine gate_callee (f := 86) rfl ?_); refine goesL_ (some 16) rfl rfl Try.func86 (by kernel_rfl) rfl #[.string a0, .int .i64 a1, .slice A2 l2.length c2] rfl (by (try simp only [List.map_toArray, List.map_cons, List.map_nil]); first | done | rfl | (simp only [List.length_drop, List.length_take]; rfl)) ?_; (with_reducible refine (mend_check.calls k a0 a1 _ _ l2 t771 t772 _ ?side1 ?side2 A4.out).mono ?_); (case side1 => exact (Kd.C_below HR2.out HB.out)); (case side2 => exact HC2.out); rintro e w15 ⟨v773, rfl, ho0, hb⟩; refine ⟨_, rfl, ?_⟩; have n0_ := Aside0.mk (Kd.R_lower ho0 (below_size HB.out)); have n1_ := Aside0.mk (blk_below (g := gb770) (o := .cells #[.string (⟨#[]⟩ : ByteArray), .slice none 0 0, .slice none 0 0] 64 (0, 0)) (by (with_reducible repeat (first | refine blk_drewN ?_ _ | refine blk_drew ?_ | refine blk_alloc ?_ _)); exact BK770.out) hb); have n2_ := Aside0.mk (below_step HB.out hb); clear BK770; clear HB; have HO774 := n0_; have BK770 := n1_; have HB := n2_; clear n0_ n1_ n2_; (try clear hb); (try clear hk); (try clear ho0); obtain ⟨Ao16, co16, eo16⟩ := Kd.R_slice HO774.out; subst eo16) | ((with_reducible refine gate_callee (f := 87) rfl ?_); refine goesL_ (some 33) rfl rfl Try.func87 (by kernel_rfl) rfl #[.string a0, .int .i64 a1, .slice Ao16 t771.length co16, .slice A2 l2.length c2] rfl (by (try simp only [List.map_toArray, List.map_cons, List.map_nil]); first | done | rfl | (simp only [List.length_drop, List.length_take]; rfl)) ?_; (with_reducible refine (mend_mend.calls k a0 a1 _ _ t771 _ _ l2 t775 true _ ?side1 ?side2 ?side3 ?side4 A10.out).mono ?_); (case side1 => exact (Kd.R_reads' HO774.out).2.2); (case side2 => exact (Kd.R_reads' HO774.out).2.1); (case side3 => exact (Kd.C_below HR2.out HB.out)); (case side4 => exact HC2.out); rintro e w17 ⟨rfl, hb⟩; refine ⟨_, rfl, ?_⟩; have n0_ := Aside0.mk (Kd.R_below HO774.out hb); have n1_ := Aside0.mk (blk_below (g := gb770) (o := .cells #[.string (⟨#[]⟩ : ByteArray), .slice none 0 0, .slice none 0 0] 64 (0, 0)) (by (with_reducible repeat (first | refine blk_drewN ?_ _ | refine blk_drew ?_ | refine blk_alloc ?_ _)); exact BK770.out) hb); have n2_ := Aside0.mk (below_step HB.out hb); clear HO774; clear BK770; clear HB; have HO774 := n0_; have BK770 := n1_; have HB := n2_; clear n0_ n1_ n2_; (try clear hb); (try clear hk)) | ((with_reducible refine gate_callee (f := 88) rfl ?_); refine goesL_ (some 43) rfl rfl Try.func88 (by kernel_rfl) rfl #[.string a0, .string t775, .slice Ao16 t771.length co16] rfl (by (try simp only [List.map_toArray, List.map_cons, List.map_nil]); first | done | rfl | (simp only [List.length_drop, List.length_take]; rfl)) ?_; (with_reducible refine (mend_unlike.calls k a0 t775 _ _ t771 t777 _ ?side1 ?side2 A12.out).mono ?_); (case side1 => exact (Kd.R_reads' HO774.out).2.2); (case side2 => exact (Kd.R_reads' HO774.out).2.1); rintro e w18 ⟨v778, rfl, ho0, hb⟩; refine ⟨_, rfl, ?_⟩; have n0_ := Aside0.mk (Kd.R_below HO774.out hb); have n1_ := Aside0.mk (Kd.R_lower ho0 (below_size HB.out)); have n2_ := Aside0.mk (blk_below (g := gb770) (o := .cells #[.string (⟨#[]⟩ : ByteArray), .slice none 0 0, .slice none 0 0] 64 (0, 0)) (by (with_reducible repeat (first | refine blk_drewN ?_ _ | refine blk_drew ?_ | refine blk_alloc ?_ _)); exact BK770.out) hb); have n3_ := Aside0.mk (below_step HB.out hb); clear HO774; clear BK770; clear HB; have HO774 := n0_; have HO779 := n1_; have BK770 := n2_; have HB := n3_; clear n0_ n1_ n2_ n3_; (try clear hb); (try clear hk); (try clear ho0)) | ((with_reducible refine gate_callee (f := 89) rfl ?_); refine goesL_ (some 45) rfl rfl Try.func89 (by kernel_rfl) rfl #[.slice Ao16 t771.length co16] rfl (by (try simp only [List.map_toArray, List.map_cons, List.map_nil]); first | done | rfl | (simp only [List.length_drop, List.length_take]; rfl)) ?_; (with_reducible refine (mend_rising.calls k _ _ t771 t780 _ ?side1 ?side2 A13.out).mono ?_); (case side1 => exact (Kd.R_reads' HO774.out).2.2); (case side2 => exact (Kd.R_reads' HO774.out).2.1); rintro e w19 ⟨v781, rfl, ho0, hb⟩; refine ⟨_, rfl, ?_⟩; have n0_ := Aside0.mk (Kd.R_below HO774.out hb); have n1_ := Aside0.mk (Kd.R_elder' HO779.out (Kd.R_base ho0) hb); have n2_ := Aside0.mk (Kd.R_lower (Kd.R_new' ho0 (Kd.R_lt HO779.out)) (below_size HB.out)); have n3_ := Aside0.mk (blk_below (g := gb770) (o := .cells #[.string (⟨#[]⟩ : ByteArray), .slice none 0 0, .slice none 0 0] 64 (0, 0)) (by (with_reducible repeat (first | refine blk_drewN ?_ _ | refine blk_drew ?_ | refine blk_alloc ?_ _)); exact BK770.out) hb); have n4_ := Aside0.mk (below_step HB.out hb); clear HO774; clear HO779; clear BK770; clear HB; have HO774 := n0_; have HO779 := n1_; have HO782 := n2_; have BK770 := n3_; have HB := n4_; clear n0_ n1_ n2_ n3_ n4_; (try clear hb); (try clear hk); (try clear ho0); obtain ⟨Ao20, co20, eo20⟩ := Kd.R_slice HO782.out; subst eo20; obtain ⟨Ao21, co21, eo21⟩ := Kd.R_slice HO779.out; subst eo21; have hcz22_0 : w19.cell? ⟨gb770, 0, none⟩ = some (.string (⟨#[]⟩ : ByteArray)) := (blk_cell BK770.out 0).trans rfl; have hcz22_1 : w19.cell? ⟨gb770, 1, none⟩ = some (.slice none 0 0) := (blk_cell BK770.out 1).trans rfl; have hcz22_2 : w19.cell? ⟨gb770, 2, none⟩ = some (.slice none 0 0) := (blk_cell BK770.out 2).trans rfl; have hfz22_0 := blk_frozen BK770.out 0; have hfz22_1 := blk_frozen BK770.out 1; have hfz22_2 := blk_frozen BK770.out 2))
    refine bodyPost_ret (results_ct rfl _ _ gb770 64 #[.string t775, .slice Ao21 t777.length co21, .slice Ao20 t780.length co20] (0, 0) _ rfl (by (with_reducible repeat (first | refine blk_drewN ?_ _ | refine blk_drew ?_ | refine blk_alloc ?_ _)); refine blk_put (cs := #[.string t775, .slice Ao21 t777.length co21, .slice none 0 0]) ?_ 2 _ rfl; (with_reducible repeat (first | refine blk_drewN ?_ _ | refine blk_drew ?_ | refine blk_alloc ?_ _)); refine blk_put (cs := #[.string t775, .slice none 0 0, .slice none 0 0]) ?_ 1 _ rfl; (with_reducible repeat (first | refine blk_drewN ?_ _ | refine blk_drew ?_ | refine blk_alloc ?_ _)); refine blk_put (cs := #[.string (⟨#[]⟩ : ByteArray), .slice none 0 0, .slice none 0 0]) ?_ 0 _ rfl; (with_reducible repeat (first | refine blk_drewN ?_ _ | refine blk_drew ?_ | refine blk_alloc ?_ _)); exact BK770.out) Try.underlying64 rfl (by kernel_rfl)) rfl ?_
    exact ⟨_, _, by rfl, by (with_reducible repeat (first | apply Kd.R_alloc | apply Kd.R_drewN | apply Kd.R_drew)); exact Kd.R_mono (Kd.R_far (p := ⟨gb770, 2, none⟩) (Kd.R_far (p := ⟨gb770, 1, none⟩) (Kd.R_far (p := ⟨gb770, 0, none⟩) (Kd.R_types HO779.out BK770.out (by decide)) (fun _ hk => hk.2) (.string t775)) (fun _ hk => hk.2) (.slice Ao21 t777.length co21)) (fun _ hk => hk.2) (.slice Ao20 t780.length co20)) (fun _ hk => hk.1.2), by (with_reducible repeat (first | apply Kd.R_alloc | apply Kd.R_drewN | apply Kd.R_drew)); exact Kd.R_mono (Kd.R_far (p := ⟨gb770, 2, none⟩) (Kd.R_far (p := ⟨gb770, 1, none⟩) (Kd.R_far (p := ⟨gb770, 0, none⟩) (Kd.R_types HO782.out BK770.out (by decide)) (fun _ hk => hk.2) (.string t775)) (fun _ hk => hk.2) (.slice Ao21 t777.length co21)) (fun _ hk => hk.2) (.slice Ao20 t780.length co20)) (fun _ hk => hk.1.2), by repeat (first | (with_reducible first | exact HB.out | apply below_alloc | apply pw_below_drewN | apply below_drew1 | refine below_set ?_ GE770.out) | exact HB.out)⟩
   ·replace c11 := Bool.eq_false_iff.mpr c11
    subst c11
    have H1 : (some ((⟨#[]⟩ : ByteArray), ([] : List Int), ([] : List Int), 9)) = some (r1, r2, r3, r4) := by rw [if_neg (show ¬ (false = true) by decide)] at H; exact H
    clear H
    have H := H1
    clear H1
    simp only [Option.some.injEq, Prod.mk.injEq] at H
    obtain ⟨rfl, rfl, rfl, rfl⟩ := H
    go_enter Try.func51, Try.ntmps51
    go_wp2_with (first | ((with_reducible refine gate_dst (N := 6) rfl ?_); refine box_event ?hg (N := 6) ?hd (cs := #[.string (⟨#[]⟩ : ByteArray), .slice none 0 0, .slice none 0 0]) (t := 64) ?hr ?_; (case hd => rfl); (case hg => rfl); (case hr => first | (go_simp; done) | (go_simp; rfl)); intro gb770 hg w23 hbox hb; have n0_ := Aside0.mk (below_step HB.out hb); have n1_ := Aside0.mk (hbox); have n2_ := Aside0.mk ((by rw [hg]; exact (below_size HB.out) : w.heap.size ≤ gb770)); have n3_ := Aside0.mk ((by rw [hg]; exact (below_size HB.out) : w.heap.size ≤ gb770)); clear HB; have HB := n0_; have BK770 := n1_; have GW770 := n2_; have GE770 := n3_; clear n0_ n1_ n2_ n3_; clear hb hbox hg) | ((with_reducible refine gate_callee (f := 86) rfl ?_); refine goesL_ (some 16) rfl rfl Try.func86 (by kernel_rfl) rfl #[.string a0, .int .i64 a1, .slice A2 l2.length c2] rfl (by (try simp only [List.map_toArray, List.map_cons, List.map_nil]); first | done | rfl | (simp only [List.length_drop, List.length_take]; rfl)) ?_; (with_reducible refine (mend_check.calls k a0 a1 _ _ l2 t771 t772 _ ?side1 ?side2 A4.out).mono ?_); (case side1 => exact (Kd.C_below HR2.out HB.out)); (case side2 => exact HC2.out); rintro e w24 ⟨v773, rfl, ho0, hb⟩; refine ⟨_, rfl, ?_⟩; have n0_ := Aside0.mk (Kd.R_lower ho0 (below_size HB.out)); have n1_ := Aside0.mk (blk_below (g := gb770) (o := .cells #[.string (⟨#[]⟩ : ByteArray), .slice none 0 0, .slice none 0 0] 64 (0, 0)) (by (with_reducible repeat (first | refine blk_drewN ?_ _ | refine blk_drew ?_ | refine blk_alloc ?_ _)); exact BK770.out) hb); have n2_ := Aside0.mk (below_step HB.out hb); clear BK770; clear HB; have HO774 := n0_; have BK770 := n1_; have HB := n2_; clear n0_ n1_ n2_; (try clear hb); (try clear hk); (try clear ho0); obtain ⟨Ao25, co25, eo25⟩ := Kd.R_slice HO774.out; subst eo25) | ((with_reducible refine gate_callee (f := 87) rfl ?_); refine goesL_ (some 33) rfl rfl Try.func87 (by kernel_rfl) rfl #[.string a0, .int .i64 a1, .slice Ao25 t771.length co25, .slice A2 l2.length c2] rfl (by (try simp only [List.map_toArray, List.map_cons, List.map_nil]); first | done | rfl | (simp only [List.length_drop, List.length_take]; rfl)) ?_; (with_reducible refine (mend_mend.calls k a0 a1 _ _ t771 _ _ l2 t775 false _ ?side1 ?side2 ?side3 ?side4 A10.out).mono ?_); (case side1 => exact (Kd.R_reads' HO774.out).2.2); (case side2 => exact (Kd.R_reads' HO774.out).2.1); (case side3 => exact (Kd.C_below HR2.out HB.out)); (case side4 => exact HC2.out); rintro e w26 ⟨rfl, hb⟩; refine ⟨_, rfl, ?_⟩; have n0_ := Aside0.mk (Kd.R_below HO774.out hb); have n1_ := Aside0.mk (blk_below (g := gb770) (o := .cells #[.string (⟨#[]⟩ : ByteArray), .slice none 0 0, .slice none 0 0] 64 (0, 0)) (by (with_reducible repeat (first | refine blk_drewN ?_ _ | refine blk_drew ?_ | refine blk_alloc ?_ _)); exact BK770.out) hb); have n2_ := Aside0.mk (below_step HB.out hb); clear HO774; clear BK770; clear HB; have HO774 := n0_; have BK770 := n1_; have HB := n2_; clear n0_ n1_ n2_; (try clear hb); (try clear hk); have hcz27_0 : w26.cell? ⟨gb770, 0, none⟩ = some (.string (⟨#[]⟩ : ByteArray)) := (blk_cell BK770.out 0).trans rfl; have hcz27_1 : w26.cell? ⟨gb770, 1, none⟩ = some (.slice none 0 0) := (blk_cell BK770.out 1).trans rfl; have hcz27_2 : w26.cell? ⟨gb770, 2, none⟩ = some (.slice none 0 0) := (blk_cell BK770.out 2).trans rfl; have hfz27_0 := blk_frozen BK770.out 0; have hfz27_1 := blk_frozen BK770.out 1; have hfz27_2 := blk_frozen BK770.out 2))
    refine bodyPost_ret (results_ct rfl _ _ gb770 64 #[.string (⟨#[]⟩ : ByteArray), .slice none 0 0, .slice none 0 0] (0, 0) _ rfl (by (with_reducible repeat (first | refine blk_drewN ?_ _ | refine blk_drew ?_ | refine blk_alloc ?_ _)); refine blk_put (cs := #[.string (⟨#[]⟩ : ByteArray), .slice none 0 0, .slice none 0 0]) ?_ 2 _ rfl; (with_reducible repeat (first | refine blk_drewN ?_ _ | refine blk_drew ?_ | refine blk_alloc ?_ _)); refine blk_put (cs := #[.string (⟨#[]⟩ : ByteArray), .slice none 0 0, .slice none 0 0]) ?_ 1 _ rfl; (with_reducible repeat (first | refine blk_drewN ?_ _ | refine blk_drew ?_ | refine blk_alloc ?_ _)); refine blk_put (cs := #[.string (⟨#[]⟩ : ByteArray), .slice none 0 0, .slice none 0 0]) ?_ 0 _ rfl; (with_reducible repeat (first | refine blk_drewN ?_ _ | refine blk_drew ?_ | refine blk_alloc ?_ _)); exact BK770.out) Try.underlying64 rfl (by kernel_rfl)) rfl ?_
    exact ⟨_, _, by rfl, by first | exact Kd.R_nil _ _ _ _ _ | exact Kd.N_nil _ _ _ _ _ | exact Kd.V_nil _ _ _ _ _ | exact Kd.Q_nil _ _ _ _ _ | exact Kd.S_nil _ _ _ _ _, by first | exact Kd.R_nil _ _ _ _ _ | exact Kd.N_nil _ _ _ _ _ | exact Kd.V_nil _ _ _ _ _ | exact Kd.Q_nil _ _ _ _ _ | exact Kd.S_nil _ _ _ _ _, by repeat (first | (with_reducible first | exact HB.out | apply below_alloc | apply pw_below_drewN | apply below_drew1 | refine below_set ?_ GE770.out) | exact HB.out)⟩
 ·rw [if_neg c5] at H
  have c5b0 : (t772 == 0) = false := beq_eq_false_iff_ne.mpr c5
  have c5b1 : (t772 != 0) = true := bne_iff_ne.mpr c5
  simp only [Option.some.injEq, Prod.mk.injEq] at H
  obtain ⟨rfl, rfl, rfl, rfl⟩ := H
  go_enter Try.func51, Try.ntmps51
  go_wp2_with (first | ((with_reducible refine gate_dst (N := 6) rfl ?_); refine box_event ?hg (N := 6) ?hd (cs := #[.string (⟨#[]⟩ : ByteArray), .slice none 0 0, .slice none 0 0]) (t := 64) ?hr ?_; (case hd => rfl); (case hg => rfl); (case hr => first | (go_simp; done) | (go_simp; rfl)); intro gb770 hg w28 hbox hb; have n0_ := Aside0.mk (below_step HB.out hb); have n1_ := Aside0.mk (hbox); have n2_ := Aside0.mk ((by rw [hg]; exact (below_size HB.out) : w.heap.size ≤ gb770)); have n3_ := Aside0.mk ((by rw [hg]; exact (below_size HB.out) : w.heap.size ≤ gb770)); clear HB; have HB := n0_; have BK770 := n1_; have GW770 := n2_; have GE770 := n3_; clear n0_ n1_ n2_ n3_; clear hb hbox hg) | ((with_reducible refine gate_callee (f := 86) rfl ?_); refine goesL_ (some 16) rfl rfl Try.func86 (by kernel_rfl) rfl #[.string a0, .int .i64 a1, .slice A2 l2.length c2] rfl (by (try simp only [List.map_toArray, List.map_cons, List.map_nil]); first | done | rfl | (simp only [List.length_drop, List.length_take]; rfl)) ?_; (with_reducible refine (mend_check.calls k a0 a1 _ _ l2 t771 t772 _ ?side1 ?side2 A4.out).mono ?_); (case side1 => exact (Kd.C_below HR2.out HB.out)); (case side2 => exact HC2.out); rintro e w29 ⟨v773, rfl, ho0, hb⟩; refine ⟨_, rfl, ?_⟩; have n0_ := Aside0.mk (Kd.R_lower ho0 (below_size HB.out)); have n1_ := Aside0.mk (blk_below (g := gb770) (o := .cells #[.string (⟨#[]⟩ : ByteArray), .slice none 0 0, .slice none 0 0] 64 (0, 0)) (by (with_reducible repeat (first | refine blk_drewN ?_ _ | refine blk_drew ?_ | refine blk_alloc ?_ _)); exact BK770.out) hb); have n2_ := Aside0.mk (below_step HB.out hb); clear BK770; clear HB; have HO774 := n0_; have BK770 := n1_; have HB := n2_; clear n0_ n1_ n2_; (try clear hb); (try clear hk); (try clear ho0); have hcz30_0 : w29.cell? ⟨gb770, 0, none⟩ = some (.string (⟨#[]⟩ : ByteArray)) := (blk_cell BK770.out 0).trans rfl; have hcz30_1 : w29.cell? ⟨gb770, 1, none⟩ = some (.slice none 0 0) := (blk_cell BK770.out 1).trans rfl; have hcz30_2 : w29.cell? ⟨gb770, 2, none⟩ = some (.slice none 0 0) := (blk_cell BK770.out 2).trans rfl; have hfz30_0 := blk_frozen BK770.out 0; have hfz30_1 := blk_frozen BK770.out 1; have hfz30_2 := blk_frozen BK770.out 2))
  refine bodyPost_ret (results_ct rfl _ _ gb770 64 #[.string (⟨#[]⟩ : ByteArray), .slice none 0 0, .slice none 0 0] (0, 0) _ rfl (by (with_reducible repeat (first | refine blk_drewN ?_ _ | refine blk_drew ?_ | refine blk_alloc ?_ _)); refine blk_put (cs := #[.string (⟨#[]⟩ : ByteArray), .slice none 0 0, .slice none 0 0]) ?_ 2 _ rfl; (with_reducible repeat (first | refine blk_drewN ?_ _ | refine blk_drew ?_ | refine blk_alloc ?_ _)); refine blk_put (cs := #[.string (⟨#[]⟩ : ByteArray), .slice none 0 0, .slice none 0 0]) ?_ 1 _ rfl; (with_reducible repeat (first | refine blk_drewN ?_ _ | refine blk_drew ?_ | refine blk_alloc ?_ _)); refine blk_put (cs := #[.string (⟨#[]⟩ : ByteArray), .slice none 0 0, .slice none 0 0]) ?_ 0 _ rfl; (with_reducible repeat (first | refine blk_drewN ?_ _ | refine blk_drew ?_ | refine blk_alloc ?_ _)); exact BK770.out) Try.underlying64 rfl (by kernel_rfl)) rfl ?_
  exact ⟨_, _, by rfl, by first | exact Kd.R_nil _ _ _ _ _ | exact Kd.N_nil _ _ _ _ _ | exact Kd.V_nil _ _ _ _ _ | exact Kd.Q_nil _ _ _ _ _ | exact Kd.S_nil _ _ _ _ _, by first | exact Kd.R_nil _ _ _ _ _ | exact Kd.N_nil _ _ _ _ _ | exact Kd.V_nil _ _ _ _ _ | exact Kd.Q_nil _ _ _ _ _ | exact Kd.S_nil _ _ _ _ _, by repeat (first | (with_reducible first | exact HB.out | apply below_alloc | apply pw_below_drewN | apply below_drew1 | refine below_set ?_ GE770.out) | exact HB.out)⟩
set_option maxHeartbeats 8000000 in
set_option maxRecDepth 100000 in
theorem foghornref20_Numbers.calls (k : Nat) (A0 : Option Addr) (c0 : Nat) (l0 : List Int) (A1 : Option Addr) (c1 : Nat) (l1 : List Int) (r : Bool) (w : World) (hr0 : Kd.C (Kd.int .i64) w A0 l0.length l0) (hc0 : l0.length ≤ c0) (hr1 : Kd.C (Kd.int .i64) w A1 l1.length l1) (hc1 : l1.length ≤ c1) (h : foghornref20_Numbers.f k l0 l1 = some r) :
  Calls Try.prog 52 #[.slice A0 l0.length c0, .slice A1 l1.length c1] w fun e w' => e = .returned (.bool r) ∧ Drawn0 w w' := by
 have HR0 := Aside0.mk hr0
 have HC0 := Aside0.mk hc0
 clear hr0 hc0
 have HR1 := Aside0.mk hr1
 have HC1 := Aside0.mk hc1
 clear hr1 hc1
 have H : (if (l0.length : Int) = (l1.length : Int) then (foghornref20_Numbers.l0 k l0 l1 0) else (some false)) = some r := h
 clear h
 by_cases c3 : (l0.length : Int) = (l1.length : Int)
 ·rw [if_pos c3] at H
  have c3b0 : ((l0.length : Int) == (l1.length : Int)) = true := beq_iff_eq.mpr c3
  have c3b1 : ((l0.length : Int) != (l1.length : Int)) = false := bne_eq_false_iff_eq.mpr c3
  have c3b2 : (l0.length == l1.length) = true := by first | simpa using c3 | (simp at c3 ⊢; omega)
  clear c3
  have H' := Aside0.mk H
  clear H
  go_enter Try.func52, Try.ntmps52
  go_wp2
  repeat (go_quiet (fail); try go_wp2)
  go_loopg [5] k (fun kq v5 w' => ∃ (x5_1 : Int), v5 = .int .i64 x5_1 ∧ Aside0 (foghornref20_Numbers.l0 kq l0 l1 x5_1 = some r) ∧ Aside0 (kq ≤ k) ∧ Drawn0 w w')
  case atStart => exact ⟨(0), (by rfl), H', ⟨Nat.le_refl _⟩, by repeat (first | exact Drawn0.refl _ | apply Drawn0.step)⟩
  case round =>
   clear H'
   try clear c1
   try clear c3
   try clear c3b0
   try clear c3b1
   try clear c3b2
   obtain ⟨x5_1, rfl, HA, HK1, ⟨m1, rfl⟩⟩ := hrel
   cases gk with
   | zero => exact absurd HA.out (by simp [foghornref20_Numbers.l0])
   | succ k1 =>
    have H := HA.out
    clear HA
    simp only [foghornref20_Numbers.l0] at H
    by_cases c4 : x5_1 < (l0.length : Int)
    ·rw [if_pos c4] at H
     have c4b0 : decide (x5_1 < (l0.length : Int)) = true := decide_eq_true c4
     clear c4
     by_cases c5 : 0 ≤ x5_1
     ·rw [if_pos c5] at H
      have c5b0 : decide (0 ≤ x5_1) = true := decide_eq_true c5
      clear c5
      by_cases c6 : x5_1 < (l1.length : Int)
      ·rw [if_pos c6] at H
       have c6b0 : decide (x5_1 < (l1.length : Int)) = true := decide_eq_true c6
       clear c6
       by_cases c7 : (rd l0 x5_1) = (rd l1 x5_1)
       ·rw [if_pos c7] at H
        have c7b0 : ((rd l0 x5_1) == (rd l1 x5_1)) = true := beq_iff_eq.mpr c7
        have c7b1 : ((rd l0 x5_1) != (rd l1 x5_1)) = false := bne_eq_false_iff_eq.mpr c7
        clear c7
        have H' := Aside0.mk H
        clear H
        have p812 : 0 ≤ (x5_1 : Int) := of_decide_eq_true (by assumption)
        have q812 : x5_1 < (l0.length : Int) := of_decide_eq_true (by assumption)
        obtain ⟨ad812, e812, hx812_0⟩ := Kd.at_int HR0.out x5_1 p812 q812
        cases e812
        replace p812 := eq_true p812
        replace q812 := eq_true q812
        have p813 : 0 ≤ (x5_1 : Int) := of_decide_eq_true (by assumption)
        have q813 : x5_1 < (l1.length : Int) := of_decide_eq_true (by assumption)
        obtain ⟨ad813, e813, hx813_0⟩ := Kd.at_int HR1.out x5_1 p813 q813
        cases e813
        replace p813 := eq_true p813
        replace q813 := eq_true q813
        go_wp2
        repeat (go_quiet (fail); try go_wp2)
        first | go_roundg k1 | (simp only [add_plain] at *; go_roundg k1)
        case measure => have := HK1.out; omega
        case rel => exact ⟨(wrap64 (x5_1 + 1)), (by rfl), H', ⟨by have := HK1.out; omega⟩, by repeat (first | exact Drawn0.refl _ | apply Drawn0.step)⟩
       ·rw [if_neg c7] at H
        have c7b0 : ((rd l0 x5_1) == (rd l1 x5_1)) = false := beq_eq_false_iff_ne.mpr c7
        have c7b1 : ((rd l0 x5_1) != (rd l1 x5_1)) = true := bne_iff_ne.mpr c7
        obtain rfl := Option.some.inj H
        have p812 : 0 ≤ (x5_1 : Int) := of_decide_eq_true (by assumption)
        have q812 : x5_1 < (l0.length : Int) := of_decide_eq_true (by assumption)
        obtain ⟨ad812, e812, hx812_0⟩ := Kd.at_int HR0.out x5_1 p812 q812
        cases e812
        replace p812 := eq_true p812
        replace q812 := eq_true q812
        have p813 : 0 ≤ (x5_1 : Int) := of_decide_eq_true (by assumption)
        have q813 : x5_1 < (l1.length : Int) := of_decide_eq_true (by assumption)
        obtain ⟨ad813, e813, hx813_0⟩ := Kd.at_int HR1.out x5_1 p813 q813
        cases e813
        replace p813 := eq_true p813
        replace q813 := eq_true q813
        go_wp2
        repeat (go_quiet (fail); try go_wp2)
        go_ret
        exact ⟨by rfl, by repeat (first | exact Drawn0.refl _ | apply Drawn0.step)⟩
      ·rw [if_neg c6] at H
       exact absurd H (by simp)
     ·rw [if_neg c5] at H
      exact absurd H (by simp)
    ·rw [if_neg c4] at H
     have c4b0 : decide (x5_1 < (l0.length : Int)) = false := decide_eq_false c4
     clear c4
     obtain rfl := Option.some.inj H
     go_wp2
     repeat (go_quiet (fail); try go_wp2)
     go_ret
     exact ⟨by rfl, by repeat (first | exact Drawn0.refl _ | apply Drawn0.step)⟩
 ·rw [if_neg c3] at H
  have c3b0 : ((l0.length : Int) == (l1.length : Int)) = false := beq_eq_false_iff_ne.mpr c3
  have c3b1 : ((l0.length : Int) != (l1.length : Int)) = true := bne_iff_ne.mpr c3
  have c3b2 : (l0.length == l1.length) = false := by first | simpa using c3 | (simp at c3 ⊢; omega)
  obtain rfl := Option.some.inj H
  go_enter Try.func52, Try.ntmps52
  go_wp2
  repeat (go_quiet (fail); try go_wp2)
  go_ret
  exact ⟨by rfl, by repeat (first | exact Drawn0.refl _ | apply Drawn0.step)⟩
--WALK
def kx64 : Kd S64 where
 sz := 3
 E := [3, 3]
 K := k64.K
 M := fun w base ok x cs => ∃ (P1 P2 : Nat → Prop) (v1 v2 : Value), cs = [.string x.f0, v1, v2] ∧ (Kd.int .i64).R 3 w base P1 v1 x.f1 ∧ (Kd.int .i64).R 3 w base P2 v2 x.f2 ∧ (∀ k, P1 k → ok k ∧ ¬ P2 k) ∧ ∀ k, P2 k → ok k
 K_len := k64.K_len
 K_one := k64.K_one
 K_below := k64.K_below
 K_of_M := by
  rintro w base ok x cs ⟨P1, P2, v1, v2, rfl, h1, h2, h3, h4⟩
  exact k64.K_of_M (k64_mkM w base ok x (Kd.R_mono h1 (fun k hk => (h3 k hk).1)) (Kd.R_mono h2 h4))
 M_mono := by
  rintro w base ok ok' x cs hok ⟨P1, P2, v1, v2, rfl, h1, h2, h3, h4⟩
  exact ⟨P1, P2, v1, v2, rfl, h1, h2, fun k hk => ⟨hok k (h3 k hk).1, (h3 k hk).2⟩, fun k hk => hok k (h4 k hk)⟩
 M_bound := by
  rintro w base ok x cs ⟨P1, P2, v1, v2, rfl, h1, h2, h3, h4⟩
  have hin : ∀ {P : Nat → Prop} {k : Nat}, (P k ∧ base ≤ k ∧ k < w.heap.size ∧ ∃ q, q ∈ 3 :: (Kd.int .i64).E ∧ ∃ cells, w.heap[k]? = some (.cells cells q (0, 0))) → base ≤ k ∧ k < w.heap.size ∧ ∃ q, q ∈ [3, 3] ∧ ∃ cells, w.heap[k]? = some (.cells cells q (0, 0)) := by
   rintro P k ⟨_, a, b, q, hq, c⟩
   exact ⟨a, b, q, List.mem_cons_of_mem _ hq, c⟩
  exact ⟨_, _, v1, v2, rfl, Kd.R_bound h1, Kd.R_bound h2, fun k hk => ⟨⟨(h3 k hk.1).1, hin hk⟩, fun h => (h3 k hk.1).2 h.1⟩, fun k hk => ⟨h4 k hk.1, hin hk⟩⟩
 M_move := by
  rintro w w1 base ok x cs hm ⟨P1, P2, v1, v2, rfl, h1, h2, h3, h4⟩
  exact ⟨P1, P2, v1, v2, rfl, Kd.R_move h1 (fun k hk => hm k (h3 k hk).1), Kd.R_move h2 (fun k hk => hm k (h4 k hk)), h3, h4⟩
 M_lower := by
  rintro w base base' ok x cs hb ⟨P1, P2, v1, v2, rfl, h1, h2, h3, h4⟩
  exact ⟨P1, P2, v1, v2, rfl, Kd.R_lower h1 hb, Kd.R_lower h2 hb, h3, h4⟩
theorem kx64_mkM {w : World} {base : Nat} {ok : Nat → Prop} (x : S64) {P1 P2 : Nat → Prop} {v1 v2 : Value} (h1 : (Kd.int .i64).R 3 w base P1 v1 x.f1) (h2 : (Kd.int .i64).R 3 w base P2 v2 x.f2) (h3 : ∀ k, P1 k → ok k ∧ ¬ P2 k) (h4 : ∀ k, P2 k → ok k) : kx64.M w base ok x [.string x.f0, v1, v2] := ⟨P1, P2, v1, v2, rfl, h1, h2, h3, h4⟩
theorem kx64_64 {w : World} {base : Nat} {ok : Nat → Prop} {x : S64} {cs : List Value} (h : kx64.M w base ok x cs) : k64.M w base ok x cs := by
 obtain ⟨P1, P2, v1, v2, rfl, h1, h2, h3, h4⟩ := h
 exact k64_mkM w base ok x (Kd.R_mono h1 (fun k hk => (h3 k hk).1)) (Kd.R_mono h2 h4)
theorem S_map_ {α β : Type} {d : Kd α} {d' : Kd β} (g : α → β) (hs : d'.sz = d.sz) (hM : ∀ {w base ok x cs}, d.M w base ok x cs → d'.M w base ok (g x) cs) {e : Nat} {w : World} {base : Nat} {ok : Nat → Prop} {v : Value} {xs : List α} (h : Kd.S d e w base ok v xs) : Kd.S d' e w base ok v (xs.map g) := by
 obtain ⟨f, h0, inner, ho, hr⟩ := h
 have hl : (xs.map g).zipIdx.length = xs.zipIdx.length := by rw [List.length_zipIdx, List.length_zipIdx, List.length_map]
 refine ⟨f, h0, inner, ?_, ?_, fun j p hj => ?_⟩
 ·rw [hl]
  show w.ownsRow base e d'.sz v _ inner
  rw [hs]
  exact ho
 ·rw [hl]
  show inner.length = _ * d'.sz
  rw [hs]
  exact hr.1
 ·rw [List.getElem?_zipIdx, List.getElem?_map] at hj
  obtain ⟨y, hy, rfl⟩ := Option.map_eq_some_iff.1 hj
  obtain ⟨x, hx, rfl⟩ := Option.map_eq_some_iff.1 hy
  have h1 := hr.2 j (x, j) (by rw [List.getElem?_zipIdx, hx, Nat.zero_add]; rfl)
  show d'.M _ _ _ (g x) ((inner.drop (j * d'.sz)).take d'.sz)
  rw [hs, show 0 + j = j from Nat.zero_add j]
  exact hM h1
set_option maxHeartbeats 8000000 in
set_option maxRecDepth 100000 in
theorem al_go (k : Nat) (A0 : Option Addr) (c0 : Nat) (l0 : List ByteArray) (a1 : Int) (A2 : Option Addr) (c2 : Nat) (l2 : List (List Int)) (r1 : List S64) (r2 : List Int) (r3 : Int) (w : World) (hr0 : Kd.C Kd.string w A0 l0.length l0) (hc0 : l0.length ≤ c0) (hr2 : Kd.C (Kd.slice 3 (Kd.int .i64)) w A2 l2.length l2) (hc2 : l2.length ≤ c2)
  (hchk : reed_Check.f (wrap64 (a1 + 1)) a1 = some 0) (hll : l0.length = l2.length) (hmax : l0.length ≤ 32768) (hrun : al_run k a1 l0 l2 0 [] [] = some (r1, r2, r3)) :
  Calls Try.prog 54 #[.slice A0 l0.length c0, .int .i64 a1, .slice A2 l2.length c2] w fun e w' => ∃ v0_ v1_ : Value, e = .returned (.tuple #[v0_, v1_, .int .i64 r3]) ∧ Kd.S kx64 64 w' w.heap.size (fun k_ => some k_ ≠ (v1_ : Value).ownBlock) v0_ r1 ∧ Kd.R (Kd.int .i64) 3 w' w.heap.size (fun _ => True) v1_ r2 ∧ Below w.heap.size w w' := by
 have HR0 := Aside0.mk hr0
 have HR2 := Aside0.mk hr2
 have HCK := Aside0.mk hchk
 have HLL := Aside0.mk hll
 have HMX := Aside0.mk hmax
 have HRN := Aside0.mk hrun
 have HB := Aside0.mk (Below.refl w.heap.size w)
 have hu64 := Try.underlying64
 have ht1 : ((l0.length : Int) != (l2.length : Int)) = false := bne_eq_false_iff_eq.2 (by omega)
 have ht2 : decide ((l0.length : Int) > 32768) = false := decide_eq_false (by omega)
 have ht3 : decide (32768 < (l0.length : Int)) = false := decide_eq_false (by omega)
 have ht4 : decide (32768 < l0.length) = false := decide_eq_false (by omega)
 clear hr0 hr2 hchk hll hmax hrun
 go_enter Try.func54, Try.ntmps54
 go_wp2_with (first
  | (go_at_call 34; (with_reducible refine (reed_Check.calls (wrap64 (a1 + 1)) a1 0 _ HCK.out).mono ?_); rintro e w1 ⟨rfl, ⟨nd, rfl⟩⟩; replace HB := Aside0.mk (pw_below_drewN HB.out nd)))
 have hgx : True := trivial
 clear ht1 ht2 ht3 ht4
 go_loopg [6, 7, 32] (l0.length + 1) (fun kq v6 v7 v32 w' => ∃ (i : Nat) (out : List S64) (ref : List Int) (okO okR : Nat → Prop), v32 = .int .i64 (i : Int) ∧ Aside0 (i + kq = l0.length + 1) ∧ Aside0 (out.length = i ∧ ref.length ≤ i ∧ i ≤ l0.length) ∧ Aside0 (al_run k a1 (l0.drop i) (l2.drop i) i out ref = some (r1, r2, r3)) ∧ Aside0 (Kd.S kx64 64 w' w.heap.size okO v6 out) ∧ Aside0 (Kd.R (Kd.int .i64) 3 w' w.heap.size okR v7 ref) ∧ Aside0 (∀ k_, okO k_ → ¬ okR k_) ∧ Aside0 (Below w.heap.size w w'))
 case atStart => exact ⟨0, [], [], fun _ => True, fun _ => False, rfl, ⟨by omega⟩, ⟨rfl, Nat.le_refl _, Nat.zero_le _⟩, HRN, ⟨Kd.S_nil _ _ _ _ _⟩, ⟨Kd.R_nil _ _ _ _ _⟩, ⟨fun _ _ h => h⟩, HB⟩
 case round =>
  clear HB HRN
  obtain ⟨i, out, ref, okO, okR, rfl, HI, HL, HRN, HO, HR, HD, HB⟩ := hrel
  cases gk with
  | zero => have := HI.out; have := HL.out; omega
  | succ k1 =>
  by_cases hi : i < l0.length
  ·have hlt : decide (i < l0.length) = true := decide_eq_true hi
   have hlt' : decide ((i : Int) < (l0.length : Int)) = true := decide_eq_true (by omega)
   have hi2 : i < l2.length := by have := HLL.out; omega
   obtain ⟨ad0, e0, hc0⟩ := Kd.at_string HR0.out (i : Int) (by omega) (by omega)
   obtain ⟨ad2, A, c, e2, hc2', hlc, hCl⟩ := at_L9 HR2.out (i : Int) (by omega) (by omega)
   subst e0 e2
   have hs : rdOf ByteArray.empty l0 (i : Int) = l0[i] := by unfold rdOf; rw [Int.toNat_natCast, List.getD_eq_getElem?_getD, List.getElem?_eq_getElem hi]; rfl
   have hl : rd_L9 l2 (i : Int) = l2[i] := by unfold rd_L9; rw [Int.toNat_natCast, List.getD_eq_getElem?_getD, List.getElem?_eq_getElem hi2]; rfl
   rw [hs, Int.toNat_natCast] at hc0
   rw [hl] at hc2' hlc hCl
   rw [Int.toNat_natCast] at hc2'
   obtain ⟨s, hsx⟩ : ∃ s, s = l0[i] := ⟨_, rfl⟩
   obtain ⟨l, hlx⟩ : ∃ l, l = l2[i] := ⟨_, rfl⟩
   rw [← hsx] at hc0
   rw [← hlx] at hc2' hlc hCl
   have HC0 := Aside0.mk (show ∀ W : World, Below w.heap.size w W → W.cell? (ad0.add i) = some (.string s) from fun W hb => (hb.cell (World.block_lt_of_cell? w _ hc0)).trans hc0)
   have HC2 := Aside0.mk (show ∀ W : World, Below w.heap.size w W → W.cell? (ad2.add i) = some (.slice A l.length c) from fun W hb => (hb.cell (World.block_lt_of_cell? w _ hc2')).trans hc2')
   have HLC := Aside0.mk hlc
   have HCL := Aside0.mk hCl
   have hR := HRN.out
   rw [List.drop_eq_getElem_cons hi, List.drop_eq_getElem_cons hi2, ← hsx, ← hlx, al_run] at hR
   obtain ⟨⟨m1, m2, m3, m4⟩, hM, hR⟩ := Option.bind_eq_some_iff.1 hR
   have HM := Aside0.mk hM
   have HR2' := Aside0.mk hR
   have hp0 : (0 ≤ (i : Int)) = True := eq_true (by omega)
   have hp1 : ((i : Int) < (l0.length : Int)) = True := eq_true (by omega)
   have hp2 : ((i : Int) < (l2.length : Int)) = True := eq_true (by omega)
   have hp3 : (i < l0.length) = True := eq_true hi
   have hp4 : (i < l2.length) = True := eq_true hi2
   have hx0 := HC0.out wr HB.out
   have hx2 := HC2.out wr HB.out
   clear hs hl hc0 hc2' hlc hCl hR hM hsx hlx hi hi2
   have HILT := Aside0.mk (show i < l0.length from of_decide_eq_true hlt)
   by_cases h1 : m4 = 1
   ·have hb1 : (m4 == 1) = true := beq_iff_eq.2 h1
    have hend := HR2'.out
    rw [if_pos (show (m1, m2, m3, m4).2.2.2 = 1 from h1)] at hend
    simp only [Option.some.injEq, Prod.mk.injEq] at hend
    obtain ⟨rfl, rfl, rfl⟩ := hend
    have hx1 : True := trivial
    go_wp2_with (first
     | (go_at_call 51; (with_reducible refine (mend_Mend.calls k s a1 _ _ l m1 m2 m3 m4 _ (Kd.C_below HCL.out HB.out) HLC.out HM.out).mono ?_); rintro e w1 ⟨v1, v2, rfl, ho1, ho2, hb⟩; have HW1 := Aside0.mk ho1; have HW2 := Aside0.mk ho2; have HB1 := Aside0.mk hb; clear ho1 ho2 hb)
     | ((with_reducible refine gate_dst (N := 11) rfl ?_); refine box_event ?hg (N := 11) ?hd (cs := #[.string (⟨#[]⟩ : ByteArray), .slice none 0 0, .slice none 0 0]) (t := 64) ?hr ?_; (case hd => rfl); (case hg => rfl); (case hr => first | (go_simp; done) | (go_simp; rfl)); intro g11 hg11 w2 hbox hb; have BK := Aside0.mk hbox; have G11 := Aside0.mk hg11; have HB2 := Aside0.mk hb; clear hbox hg11 hb; have hcz0 : w2.cell? ⟨g11, 0, none⟩ = some (.string (⟨#[]⟩ : ByteArray)) := (blk_cell BK.out 0).trans rfl; have hcz1 : w2.cell? ⟨g11, 1, none⟩ = some (.slice none 0 0) := (blk_cell BK.out 1).trans rfl; have hcz2 : w2.cell? ⟨g11, 2, none⟩ = some (.slice none 0 0) := (blk_cell BK.out 2).trans rfl; have hfz0 := blk_frozen BK.out 0; have hfz1 := blk_frozen BK.out 1; have hfz2 := blk_frozen BK.out 2; obtain ⟨Ao1, co1, eo1⟩ := Kd.R_slice HW1.out; subst eo1; obtain ⟨Ao2, co2, eo2⟩ := Kd.R_slice HW2.out; subst eo2))
    go_ret3
    exact ⟨_, _, (by first | rfl | rw [h1]), Kd.S_nil _ _ _ _ _, Kd.R_nil _ _ _ _ _, by have hb := HB2.out; have hg := G11.out; exact below_step HB.out (below_step HB1.out (below_set (below_set (below_set hb (Nat.le_of_eq hg.symm)) (Nat.le_of_eq hg.symm)) (Nat.le_of_eq hg.symm)))⟩
   have hb1 : (m4 == 1) = false := beq_eq_false_iff_ne.2 h1
   have hend := HR2'.out
   rw [if_neg (show ¬ (m1, m2, m3, m4).2.2.2 = 1 from h1)] at hend
   have HRN1 := Aside0.mk hend
   clear hend HR2' HRN
   go_upto_region 7 with (first
    | (go_at_call 51; (with_reducible refine (mend_Mend.calls k s a1 _ _ l m1 m2 m3 m4 _ (Kd.C_below HCL.out HB.out) HLC.out HM.out).mono ?_); rintro e w1 ⟨v1, v2, rfl, ho1, ho2, hb⟩; have HW1 := Aside0.mk ho1; have HW2 := Aside0.mk ho2; have HB1 := Aside0.mk hb; clear ho1 ho2 hb)
    | ((with_reducible refine gate_dst (N := 11) rfl ?_); refine box_event ?hg (N := 11) ?hd (cs := #[.string (⟨#[]⟩ : ByteArray), .slice none 0 0, .slice none 0 0]) (t := 64) ?hr ?_; (case hd => rfl); (case hg => rfl); (case hr => first | (go_simp; done) | (go_simp; rfl)); intro g11 hg11 w2 hbox hb; have BK := Aside0.mk hbox; have G11 := Aside0.mk hg11; have HB2 := Aside0.mk hb; clear hbox hg11 hb; have hcz0 : w2.cell? ⟨g11, 0, none⟩ = some (.string (⟨#[]⟩ : ByteArray)) := (blk_cell BK.out 0).trans rfl; have hcz1 : w2.cell? ⟨g11, 1, none⟩ = some (.slice none 0 0) := (blk_cell BK.out 1).trans rfl; have hcz2 : w2.cell? ⟨g11, 2, none⟩ = some (.slice none 0 0) := (blk_cell BK.out 2).trans rfl; have hfz0 := blk_frozen BK.out 0; have hfz1 := blk_frozen BK.out 1; have hfz2 := blk_frozen BK.out 2; obtain ⟨Ao1, co1, eo1⟩ := Kd.R_slice HW1.out; subst eo1; obtain ⟨Ao2, co2, eo2⟩ := Kd.R_slice HW2.out; subst eo2))
   have hb12 : Below w1.heap.size w1 (((w2.setCell ⟨g11, 0, none⟩ (.string m1)).setCell ⟨g11, 1, none⟩ (.slice Ao1 m2.length co1)).setCell ⟨g11, 2, none⟩ (.slice Ao2 m3.length co2)) := below_set (below_set (below_set HB2.out (Nat.le_of_eq G11.out.symm)) (Nat.le_of_eq G11.out.symm)) (Nat.le_of_eq G11.out.symm)
   have BK3 := Aside0.mk (blk_put (cs' := #[.string m1, .slice Ao1 m2.length co1, .slice Ao2 m3.length co2]) (blk_put (cs' := #[.string m1, .slice Ao1 m2.length co1, .slice none 0 0]) (blk_put (cs' := #[.string m1, .slice none 0 0, .slice none 0 0]) BK.out 0 (.string m1) rfl) 1 (.slice Ao1 m2.length co1) rfl) 2 (.slice Ao2 m3.length co2) rfl)
   have HB12 := Aside0.mk hb12
   clear hb12 BK HB2 hcz0 hcz1 hcz2 hfz0 hfz1 hfz2
   generalize (((w2.setCell ⟨g11, 0, none⟩ (.string m1)).setCell ⟨g11, 1, none⟩ (.slice Ao1 m2.length co1)).setCell ⟨g11, 2, none⟩ (.slice Ao2 m3.length co2)) = w3 at *
   have HB3 := Aside0.mk (below_step HB.out (below_step HB1.out HB12.out))
   have HN1 := Aside0.mk HB1.out.size
   have HN3 := Aside0.mk HB12.out.size
   have hN0 : w.heap.size ≤ wr.heap.size := HB.out.size
   have HV1 := Aside0.mk (Kd.R_mono (ok' := fun k_ => (wr.heap.size ≤ k_ ∧ k_ < w1.heap.size) ∧ some k_ ≠ (Value.slice Ao2 m3.length co2).ownBlock) (Kd.R_below (Kd.R_bound HW1.out) HB12.out) (fun _ h_ => ⟨⟨h_.2.1, h_.2.2.1⟩, h_.1⟩))
   have HV2 := Aside0.mk (Kd.R_mono (ok' := fun k_ => (wr.heap.size ≤ k_ ∧ k_ < w1.heap.size) ∧ some k_ = (Value.slice Ao2 m3.length co2).ownBlock) (Kd.R_below (Kd.R_bound (Kd.R_tight rfl HW2.out)) HB12.out) (fun _ h_ => ⟨⟨h_.2.1, h_.2.2.1⟩, h_.1⟩))
   have HO3 := Aside0.mk (Kd.S_below (Kd.S_old HO.out HB1.out) HB12.out)
   have HR3 := Aside0.mk (Kd.R_below (Kd.R_old HR.out HB1.out) HB12.out)
   have HLO := Aside0.mk (Kd.S_lt HO.out)
   have HLR := Aside0.mk (Kd.R_lt HR.out)
   have HKR := Aside0.mk HR.out.1
   have HKO := Aside0.mk (Kd.S_R HO.out).1
   clear HW1 HW2 HO HR
   by_cases h9 : m4 = 9
   ·have hb9 : (m4 == 9) = true := beq_iff_eq.2 h9
    have HRN2 := Aside0.mk (show al_run k a1 (l0.drop (i + 1)) (l2.drop (i + 1)) (i + 1) (out ++ [⟨m1, m2, m3⟩]) (ref ++ [(i : Int)]) = some (r1, r2, r3) from by have h_ := HRN1.out; unfold al_step at h_; rw [if_pos h9] at h_; exact h_)
    go_upto_region 12 with (first
     | ((with_reducible refine gate_dst (N := 56) rfl ?_); refine Kd.R_append (Kd.int .i64) (w0 := w) w.heap.size rfl (.tmp 53) (.tmp 55) 60 3 (.int .i64 0) 8 rfl Try.underlying60 info3 rfl (by decide) (by omega) u7 ref (i : Int) [.int .i64 (i : Int)] (fun k_ => (okR k_ ∧ k_ < wr.heap.size) ∨ w3.heap.size ≤ k_) (fun _ => False) rfl (by first | (go_simp; done) | (go_simp; rfl)) rfl (fun _ hk => hk.elim) (fun k_ hk => .inr hk) (Kd.R_mono HR3.out (fun _ hk => .inl hk)) HB3.out HB3.out.size (by have := HL.out; have := HMX.out; omega) ?_; intro v7 w4 ho hb hg hat; have HN4 := Aside0.mk hg.size; have HB4 := Aside0.mk hb; have HR4 := Aside0.mk (Kd.R_mono (ok' := fun k_ => (okR k_ ∧ k_ < wr.heap.size) ∨ (w1.heap.size ≤ k_ ∧ k_ < w4.heap.size)) (Kd.R_bound ho) (fun k_ hk => by have := HN3.out; rcases hk.1 with h_ | h_; exact .inl h_; exact .inr ⟨by omega, hk.2.2.1⟩)); have HO4 := Aside0.mk (Kd.S_grown HO3.out hg (fun k_ hk e_ => HD.out k_ hk.1 (HKR.out k_ e_.symm))); have HV1b := Aside0.mk (Kd.R_grown HV1.out hg (fun k_ hk e_ => by have := HLR.out k_ e_.symm; omega)); have HV2b := Aside0.mk (Kd.R_grown HV2.out hg (fun k_ hk e_ => by have := HLR.out k_ e_.symm; omega)); have BK4 := Aside0.mk (blk_grown BK3.out hg (fun e_ => by have := HLR.out g11 e_.symm; have := HN1.out; have := G11.out; omega)); have hcy0 : w4.cell? ⟨g11, 0, none⟩ = some (.string m1) := (blk_cell BK4.out 0).trans rfl; have hcy1 : w4.cell? ⟨g11, 1, none⟩ = some (.slice Ao1 m2.length co1) := (blk_cell BK4.out 1).trans rfl; have hcy2 : w4.cell? ⟨g11, 2, none⟩ = some (.slice Ao2 m3.length co2) := (blk_cell BK4.out 2).trans rfl; clear ho hb hg hat HB3 HR3 HO3 HV1 HV2 BK3))
    go_wp2_with (first
     | ((with_reducible refine gate_dst (N := 60) rfl ?_); refine Kd.S_append kx64 (w0 := w) w.heap.size rfl (.tmp 57) (.tmp 59) 71 64 (.agg #[(.string ⟨#[]⟩), (.slice none 0 0), (.slice none 0 0)]) 64 rfl Try.underlying71 info64 rfl (by decide) (by omega) u6 out (⟨m1, m2, m3⟩ : S64) [.string m1, .slice Ao1 m2.length co1, .slice Ao2 m3.length co2] (fun k_ => (okO k_ ∧ k_ < wr.heap.size) ∨ (wr.heap.size ≤ k_ ∧ k_ < w1.heap.size) ∨ w4.heap.size ≤ k_) (fun k_ => wr.heap.size ≤ k_ ∧ k_ < w1.heap.size) rfl (by first | (go_simp; done) | (go_simp; rfl)) (kx64_mkM (⟨m1, m2, m3⟩ : S64) (Kd.R_lower HV1b.out hN0) (Kd.R_lower HV2b.out hN0) (fun k_ hk => ⟨hk.1, fun h_ => hk.2 h_.2⟩) (fun k_ hk => hk.1)) (fun k_ hk => ⟨.inr (.inl hk), fun e_ => by have := HLO.out k_ e_.symm; omega⟩) (fun k_ hk => .inr (.inr hk)) (Kd.S_mono HO4.out (fun k_ hk => ⟨.inl hk, fun h_ => by have := hk.2; omega⟩)) HB4.out HB4.out.size (by have := HL.out; have := HMX.out; omega) ?_; intro v6 w5 ho hb hg hat; have HO5 := Aside0.mk ho; have HB5 := Aside0.mk hb; have HR5 := Aside0.mk (Kd.R_grown HR4.out hg (fun k_ hk e_ => by have h1 := HLO.out k_ e_.symm; have h2 := HKO.out k_ e_.symm; rcases hk with hk | hk; exact HD.out k_ h2 hk.1; have := HN1.out; omega)); clear ho hb hg hat))
    go_roundg k1
    case measure => omega
    case rel =>
     have hw : wrap64 ((i : Int) + 1) = ((i + 1 : Nat) : Int) := by have := HL.out; have := HMX.out; unfold wrap64; omega
     exact ⟨i + 1, out ++ [⟨m1, m2, m3⟩], ref ++ [(i : Int)], _, _, (by first | rfl | exact congrArg (fun y => Value.int .i64 y) hw), ⟨by have := HI.out; omega⟩, ⟨by rw [List.length_append, List.length_singleton, HL.out.1], by have := HL.out; rw [List.length_append, List.length_singleton]; omega, by have := HILT.out; omega⟩, HRN2, HO5, HR5, ⟨fun k_ h1 h2 => by have := HN1.out; have := HN3.out; have := HN4.out; rcases h1 with h1 | h1 | h1 <;> rcases h2 with h2 | h2 <;> first | exact HD.out k_ h1.1 h2.1 | omega⟩, HB5⟩
   ·have hb9 : (m4 == 9) = false := beq_eq_false_iff_ne.2 h9
    have HRN2 := Aside0.mk (show al_run k a1 (l0.drop (i + 1)) (l2.drop (i + 1)) (i + 1) (out ++ [⟨m1, m2, m3⟩]) ref = some (r1, r2, r3) from by have h_ := HRN1.out; unfold al_step at h_; rw [if_neg h9] at h_; exact h_)
    have HN4 := Aside0.mk (Nat.le_refl w3.heap.size)
    have HB4 := HB3
    have HO4 := HO3
    have HV1b := HV1
    have HV2b := HV2
    have HR4 := Aside0.mk (Kd.R_mono (ok' := fun k_ => (okR k_ ∧ k_ < wr.heap.size) ∨ (w1.heap.size ≤ k_ ∧ k_ < w3.heap.size)) HR3.out (fun _ hk => .inl hk))
    have hcy0 : w3.cell? ⟨g11, 0, none⟩ = some (.string m1) := (blk_cell BK3.out 0).trans rfl
    have hcy1 : w3.cell? ⟨g11, 1, none⟩ = some (.slice Ao1 m2.length co1) := (blk_cell BK3.out 1).trans rfl
    have hcy2 : w3.cell? ⟨g11, 2, none⟩ = some (.slice Ao2 m3.length co2) := (blk_cell BK3.out 2).trans rfl
    go_wp2_with (first
     | ((with_reducible refine gate_dst (N := 60) rfl ?_); refine Kd.S_append kx64 (w0 := w) w.heap.size rfl (.tmp 57) (.tmp 59) 71 64 (.agg #[(.string ⟨#[]⟩), (.slice none 0 0), (.slice none 0 0)]) 64 rfl Try.underlying71 info64 rfl (by decide) (by omega) u6 out (⟨m1, m2, m3⟩ : S64) [.string m1, .slice Ao1 m2.length co1, .slice Ao2 m3.length co2] (fun k_ => (okO k_ ∧ k_ < wr.heap.size) ∨ (wr.heap.size ≤ k_ ∧ k_ < w1.heap.size) ∨ w3.heap.size ≤ k_) (fun k_ => wr.heap.size ≤ k_ ∧ k_ < w1.heap.size) rfl (by first | (go_simp; done) | (go_simp; rfl)) (kx64_mkM (⟨m1, m2, m3⟩ : S64) (Kd.R_lower HV1b.out hN0) (Kd.R_lower HV2b.out hN0) (fun k_ hk => ⟨hk.1, fun h_ => hk.2 h_.2⟩) (fun k_ hk => hk.1)) (fun k_ hk => ⟨.inr (.inl hk), fun e_ => by have := HLO.out k_ e_.symm; omega⟩) (fun k_ hk => .inr (.inr hk)) (Kd.S_mono HO4.out (fun k_ hk => ⟨.inl hk, fun h_ => by have := hk.2; omega⟩)) HB4.out HB4.out.size (by have := HL.out; have := HMX.out; omega) ?_; intro v6 w5 ho hb hg hat; have HO5 := Aside0.mk ho; have HB5 := Aside0.mk hb; have HR5 := Aside0.mk (Kd.R_grown HR4.out hg (fun k_ hk e_ => by have h1 := HLO.out k_ e_.symm; have h2 := HKO.out k_ e_.symm; rcases hk with hk | hk; exact HD.out k_ h2 hk.1; have := HN1.out; omega)); clear ho hb hg hat))
    go_roundg k1
    case measure => omega
    case rel =>
     have hw : wrap64 ((i : Int) + 1) = ((i + 1 : Nat) : Int) := by have := HL.out; have := HMX.out; unfold wrap64; omega
     exact ⟨i + 1, out ++ [⟨m1, m2, m3⟩], ref, _, _, (by first | rfl | exact congrArg (fun y => Value.int .i64 y) hw), ⟨by have := HI.out; omega⟩, ⟨by rw [List.length_append, List.length_singleton, HL.out.1], by have := HL.out; omega, by have := HILT.out; omega⟩, HRN2, HO5, HR5, ⟨fun k_ h1 h2 => by have := HN1.out; have := HN3.out; have := HN4.out; rcases h1 with h1 | h1 | h1 <;> rcases h2 with h2 | h2 <;> first | exact HD.out k_ h1.1 h2.1 | omega⟩, HB5⟩
  ·have hlt : decide (i < l0.length) = false := decide_eq_false hi
   have hlt' : decide ((i : Int) < (l0.length : Int)) = false := decide_eq_false (by omega)
   have hend := HRN.out
   rw [List.drop_eq_nil_of_le (by omega), al_run] at hend
   simp only [Option.some.injEq, Prod.mk.injEq] at hend
   obtain ⟨rfl, rfl, rfl⟩ := hend
   clear hi
   go_wp2
   go_ret3
   exact ⟨_, _, (by first | rfl | (simp [go_sem]; done)), Kd.S_mono HO.out (fun k_ hk e_ => HD.out k_ hk (HR.out.1 k_ e_.symm)), Kd.R_mono HR.out (fun _ _ => trivial), HB.out⟩
set_option maxHeartbeats 8000000 in
set_option maxRecDepth 100000 in
theorem al_no (k : Nat) (A0 : Option Addr) (c0 : Nat) (l0 : List ByteArray) (a1 : Int) (A2 : Option Addr) (c2 : Nat) (l2 : List (List Int)) (t : Int) (w : World)
  (hchk : reed_Check.f (wrap64 (a1 + 1)) a1 = some t) (hno : ¬ (t = 0 ∧ l0.length = l2.length ∧ l0.length ≤ 32768)) :
  Calls Try.prog 54 #[.slice A0 l0.length c0, .int .i64 a1, .slice A2 l2.length c2] w fun e w' => ∃ v0_ v1_ : Value, e = .returned (.tuple #[v0_, v1_, .int .i64 1]) ∧ Kd.S kx64 64 w' w.heap.size (fun k_ => some k_ ≠ (v1_ : Value).ownBlock) v0_ [] ∧ Kd.R (Kd.int .i64) 3 w' w.heap.size (fun _ => True) v1_ [] ∧ Below w.heap.size w w' := by
 have HCK := Aside0.mk hchk
 clear hchk
 go_enter Try.func54, Try.ntmps54
 by_cases h0 : t = 0
 ·have hb0 : (t != 0) = false := bne_eq_false_iff_eq.2 h0
  by_cases h1 : l0.length = l2.length
  ·have ht1 : ((l0.length : Int) != (l2.length : Int)) = false := bne_eq_false_iff_eq.2 (by omega)
   have h2 : ¬ l0.length ≤ 32768 := fun h => hno ⟨h0, h1, h⟩
   have ht2 : decide ((l0.length : Int) > 32768) = true := decide_eq_true (by omega)
   have ht3 : decide (32768 < (l0.length : Int)) = true := decide_eq_true (by omega)
   have ht4 : decide (32768 < l0.length) = true := decide_eq_true (by omega)
   clear h0 h1 hno
   go_wp2_with (first
    | (go_at_call 34; (with_reducible refine (reed_Check.calls (wrap64 (a1 + 1)) a1 t _ HCK.out).mono ?_); rintro e w1 ⟨rfl, ⟨nd, rfl⟩⟩))
   go_ret3
   exact ⟨_, _, (by first | rfl | (simp [go_sem]; done)), Kd.S_nil _ _ _ _ _, Kd.R_nil _ _ _ _ _, pw_below_drewN (Below.refl _ _) _⟩
  ·have ht1 : ((l0.length : Int) != (l2.length : Int)) = true := bne_iff_ne.2 (by omega)
   clear h0 h1 hno
   go_wp2_with (first
    | (go_at_call 34; (with_reducible refine (reed_Check.calls (wrap64 (a1 + 1)) a1 t _ HCK.out).mono ?_); rintro e w1 ⟨rfl, ⟨nd, rfl⟩⟩))
   go_ret3
   exact ⟨_, _, (by first | rfl | (simp [go_sem]; done)), Kd.S_nil _ _ _ _ _, Kd.R_nil _ _ _ _ _, pw_below_drewN (Below.refl _ _) _⟩
 ·have hb0 : (t != 0) = true := bne_iff_ne.2 h0
  clear h0 hno
  go_wp2_with (first
   | (go_at_call 34; (with_reducible refine (reed_Check.calls (wrap64 (a1 + 1)) a1 t _ HCK.out).mono ?_); rintro e w1 ⟨rfl, ⟨nd, rfl⟩⟩))
  go_ret3
  exact ⟨_, _, (by first | rfl | (simp [go_sem]; done)), Kd.S_nil _ _ _ _ _, Kd.R_nil _ _ _ _ _, pw_below_drewN (Below.refl _ _) _⟩
theorem mend_All.own (k : Nat) (A0 : Option Addr) (c0 : Nat) (l0 : List ByteArray) (a1 : Int) (A2 : Option Addr) (c2 : Nat) (l2 : List (List Int)) (r1 : List S64) (r2 : List Int) (r3 : Int) (w : World) (hr0 : Kd.C Kd.string w A0 l0.length l0) (hc0 : l0.length ≤ c0) (hr2 : Kd.C (Kd.slice 3 (Kd.int .i64)) w A2 l2.length l2) (hc2 : l2.length ≤ c2) (h : mend_All.f k l0 a1 l2 = some (r1, r2, r3)) :
  Calls Try.prog 54 #[.slice A0 l0.length c0, .int .i64 a1, .slice A2 l2.length c2] w fun e w' => ∃ v0_ v1_ : Value, e = .returned (.tuple #[v0_, v1_, .int .i64 r3]) ∧ Kd.S kx64 64 w' w.heap.size (fun k_ => some k_ ≠ (v1_ : Value).ownBlock) v0_ r1 ∧ Kd.R (Kd.int .i64) 3 w' w.heap.size (fun _ => True) v1_ r2 ∧ Below w.heap.size w w' := by
 unfold mend_All.f at h
 obtain ⟨t, ht, h⟩ := Option.bind_eq_some_iff.1 h
 split at h
 ·rename_i hc
  obtain ⟨rfl, h1, h2⟩ := hc
  exact al_go k A0 c0 l0 a1 A2 c2 l2 r1 r2 r3 w hr0 hc0 hr2 hc2 ht h1 h2 h
 ·rename_i hc
  have h' := Option.some.inj h
  simp only [Prod.mk.injEq] at h'
  obtain ⟨rfl, rfl, rfl⟩ := h'
  exact al_no k A0 c0 l0 a1 A2 c2 l2 t w ht hc
theorem mend_All.calls (k : Nat) (A0 : Option Addr) (c0 : Nat) (l0 : List ByteArray) (a1 : Int) (A2 : Option Addr) (c2 : Nat) (l2 : List (List Int)) (r1 : List S64) (r2 : List Int) (r3 : Int) (w : World) (hr0 : Kd.C Kd.string w A0 l0.length l0) (hc0 : l0.length ≤ c0) (hr2 : Kd.C (Kd.slice 3 (Kd.int .i64)) w A2 l2.length l2) (hc2 : l2.length ≤ c2) (h : mend_All.f k l0 a1 l2 = some (r1, r2, r3)) :
  Calls Try.prog 54 #[.slice A0 l0.length c0, .int .i64 a1, .slice A2 l2.length c2] w fun e w' => ∃ v0_ v1_ : Value, e = .returned (.tuple #[v0_, v1_, .int .i64 r3]) ∧ Kd.S k64 64 w' w.heap.size (fun k_ => some k_ ≠ (v1_ : Value).ownBlock) v0_ r1 ∧ Kd.R (Kd.int .i64) 3 w' w.heap.size (fun _ => True) v1_ r2 ∧ Below w.heap.size w w' := by
 refine (mend_All.own k A0 c0 l0 a1 A2 c2 l2 r1 r2 r3 w hr0 hc0 hr2 hc2 h).mono ?_
 rintro e w' ⟨v0, v1, rfl, h1, h2, h3⟩
 refine ⟨v0, v1, rfl, ?_, h2, h3⟩
 have h4 := S_map_ (d := kx64) (d' := k64) (fun x => x) rfl (fun h_ => kx64_64 h_) h1
 rwa [List.map_id'] at h4
set_option maxHeartbeats 8000000 in
set_option maxRecDepth 100000 in
theorem foghornref19_At.calls (k : Nat) (a0 : ByteArray) (a1 : Int) (r : Int) (w : World) (h : foghornref19_At.f k a0 a1 = some r) :
  Calls Try.prog 69 #[.string a0, .int .u8 a1] w fun e w' => e = .returned (.int .u8 r) ∧ Drawn0 w w' := by
 have H : (foghornref19_At.l0 k a0 a1 0 1 (wrap64 ((a0.size : Int) - 1))) = some r := h
 clear h
 have H' := Aside0.mk H
 clear H
 go_enter Try.func69, Try.ntmps69
 go_wp2
 go_loopg [5, 6, 7] k (fun kq v5 v6 v7 w' => ∃ (x5_1 : Int) (x6_1 : Int) (x7_1 : Int), v5 = .int .u8 x5_1 ∧ v6 = .int .u8 x6_1 ∧ v7 = .int .i64 x7_1 ∧ Aside0 (foghornref19_At.l0 kq a0 a1 x5_1 x6_1 x7_1 = some r) ∧ Aside0 (kq ≤ k) ∧ Drawn0 w w')
 case atStart => exact ⟨(0), (1), (wrap64 ((a0.size : Int) - 1)), (by rfl), (by rfl), (by rfl), H', ⟨Nat.le_refl _⟩, by repeat (first | exact Drawn0.refl _ | apply Drawn0.step)⟩
 case round =>
  clear H'
  obtain ⟨x5_1, x6_1, x7_1, rfl, rfl, rfl, HA, HK1, ⟨m1, rfl⟩⟩ := hrel
  cases gk with
  | zero => exact absurd HA.out (by simp [foghornref19_At.l0])
  | succ k1 =>
   have H := HA.out
   clear HA
   simp only [foghornref19_At.l0] at H
   by_cases c3 : x7_1 ≥ 0
   ·rw [if_pos c3] at H
    have c3b0 : decide (0 ≤ x7_1) = true := decide_eq_true c3
    clear c3
    by_cases c4 : 0 ≤ x7_1
    ·rw [if_pos c4] at H
     have c4b0 : decide (0 ≤ x7_1) = true := decide_eq_true c4
     clear c4
     by_cases c5 : x7_1 < (a0.size : Int)
     ·rw [if_pos c5] at H
      have c5b0 : decide (x7_1 < (a0.size : Int)) = true := decide_eq_true c5
      clear c5
      replace H := Option.bind_eq_some_iff.mp H
      obtain ⟨t279, A70, H⟩ := H
      replace H : ((foghornref19_Times.f k1 x6_1 a1).bind fun t280 => (foghornref19_At.l0 k1 a0 a1 (Go.bits .xor .u8 x5_1 t279) t280 (wrap64 (x7_1 - 1)))) = some r := H
      have A7 := Aside0.mk A70
      clear A70
      replace H := Option.bind_eq_some_iff.mp H
      obtain ⟨t280, A80, H⟩ := H
      replace H : (foghornref19_At.l0 k1 a0 a1 (Go.bits .xor .u8 x5_1 t279) t280 (wrap64 (x7_1 - 1))) = some r := H
      have A8 := Aside0.mk A80
      clear A80
      have H' := Aside0.mk H
      clear H
      have p6 : 0 ≤ (x7_1 : Int) := of_decide_eq_true (by assumption)
      have q6 : x7_1 < (a0.size : Int) := of_decide_eq_true (by assumption)
      have hx6 := bt_at a0 x7_1
      replace p6 := eq_true p6
      replace q6 := eq_true q6
      go_wp2_with (first | ((with_reducible refine gate_callee (f := 68) rfl ?_); refine goesL_ (some 20) rfl rfl Try.func68 (by kernel_rfl) rfl #[.int .u8 (bt a0 x7_1), .int .u8 x6_1] rfl (by (try simp only [List.map_toArray, List.map_cons, List.map_nil]); first | done | rfl | (simp only [List.length_drop, List.length_take]; rfl)) ?_; (with_reducible refine (foghornref19_Times.calls k1 (bt a0 x7_1) x6_1 t279 _ A7.out).mono ?_); rintro e w' ⟨rfl, ⟨nd, rfl⟩⟩; refine ⟨_, rfl, ?_⟩) | ((with_reducible refine gate_callee (f := 68) rfl ?_); refine goesL_ (some 24) rfl rfl Try.func68 (by kernel_rfl) rfl #[.int .u8 x6_1, .int .u8 a1] rfl (by (try simp only [List.map_toArray, List.map_cons, List.map_nil]); first | done | rfl | (simp only [List.length_drop, List.length_take]; rfl)) ?_; (with_reducible refine (foghornref19_Times.calls k1 x6_1 a1 t280 _ A8.out).mono ?_); rintro e w' ⟨rfl, ⟨nd, rfl⟩⟩; refine ⟨_, rfl, ?_⟩))
      first | go_roundg k1 | (simp only [add_plain] at *; go_roundg k1)
      case measure => have := HK1.out; omega
      case rel => exact ⟨(Go.bits .xor .u8 x5_1 t279), (t280), (wrap64 (x7_1 - 1)), (by rfl), (by rfl), (by rfl), H', ⟨by have := HK1.out; omega⟩, by repeat (first | exact Drawn0.refl _ | apply Drawn0.step)⟩
     ·rw [if_neg c5] at H
      exact absurd H (by simp)
    ·rw [if_neg c4] at H
     exact absurd H (by simp)
   ·rw [if_neg c3] at H
    have c3b0 : decide (0 ≤ x7_1) = false := decide_eq_false c3
    clear c3
    obtain rfl := Option.some.inj H
    go_wp2
    go_ret
    exact ⟨by rfl, by repeat (first | exact Drawn0.refl _ | apply Drawn0.step)⟩
set_option maxHeartbeats 8000000 in
set_option maxRecDepth 100000 in
theorem foghornref19_Syndromes.calls (k : Nat) (a0 : ByteArray) (a1 : Int) (r1 : List Int) (r2 : Int) (w : World) (h : foghornref19_Syndromes.f k a0 a1 = some (r1, r2)) :
  Calls Try.prog 25 #[.string a0, .int .i64 a1] w fun e w' => ∃ v0_ : Value, e = .returned (.tuple #[v0_, .int .i64 r2]) ∧ Kd.R (Kd.int .u8) 5 w' w.heap.size (fun _ => True) v0_ r1 ∧ Below w.heap.size w w' := by
 have HB := Aside0.mk (Below.refl w.heap.size w)
 have H : ((foghornref19_Check.f (a0.size : Int) a1).bind fun t281 => (if t281 = 0 then (foghornref19_Syndromes.l0 k a0 a1 ([] : List Int) 0) else (some (([] : List Int), 1)))) = some (r1, r2) := h
 clear h
 replace H := Option.bind_eq_some_iff.mp H
 obtain ⟨t281, A30, H⟩ := H
 replace H : (if t281 = 0 then (foghornref19_Syndromes.l0 k a0 a1 ([] : List Int) 0) else (some (([] : List Int), 1))) = some (r1, r2) := H
 have A3 := Aside0.mk A30
 clear A30
 by_cases c4 : t281 = 0
 ·rw [if_pos c4] at H
  have c4b0 : (t281 == 0) = true := beq_iff_eq.mpr c4
  have c4b1 : (t281 != 0) = false := bne_eq_false_iff_eq.mpr c4
  clear c4
  have H' := Aside0.mk H
  clear H
  go_enter Try.func25, Try.ntmps25
  go_wp2_with (first | ((with_reducible refine gate_callee (f := 66) rfl ?_); refine goesL_ (some 11) rfl rfl Try.func66 (by kernel_rfl) rfl #[.int .i64 (a0.size : Int), .int .i64 a1] rfl (by (try simp only [List.map_toArray, List.map_cons, List.map_nil]); first | done | rfl | (simp only [List.length_drop, List.length_take]; rfl)) ?_; (with_reducible refine (foghornref19_Check.calls (a0.size : Int) a1 t281 _ A3.out).mono ?_); rintro e w' ⟨rfl, ⟨nd, rfl⟩⟩; refine ⟨_, rfl, ?_⟩))
  go_loopg [6, 7] k (fun kq v6 v7 w' => ∃ (x6_1 : List Int) (x7_1 : Int), v7 = .int .i64 x7_1 ∧ Aside0 (foghornref19_Syndromes.l0 kq a0 a1 x6_1 x7_1 = some (r1, r2)) ∧ Aside0 (kq ≤ k) ∧ Aside0 (Kd.R (Kd.int .u8) 5 w' w.heap.size (fun _ => True) v6 x6_1) ∧ Aside0 (Below w.heap.size w w'))
  case atStart => exact ⟨(([] : List Int)), (0), (by rfl), H', ⟨Nat.le_refl _⟩, ⟨by first | exact Kd.R_nil _ _ _ _ _ | exact Kd.N_nil _ _ _ _ _ | exact Kd.V_nil _ _ _ _ _ | exact Kd.Q_nil _ _ _ _ _ | exact Kd.S_nil _ _ _ _ _⟩, ⟨by repeat (first | (with_reducible first | exact HB.out | apply below_alloc | apply pw_below_drewN | apply below_drew1) | exact HB.out)⟩⟩
  case round =>
   clear H'
   try clear c4
   try clear c4b0
   try clear c4b1
   obtain ⟨x6_1, x7_1, rfl, HA, HK1, HO_6, HB⟩ := hrel
   cases gk with
   | zero => exact absurd HA.out (by simp [foghornref19_Syndromes.l0])
   | succ k1 =>
    have H := HA.out
    clear HA
    simp only [foghornref19_Syndromes.l0] at H
    by_cases c5 : x7_1 < a1
    ·rw [if_pos c5] at H
     have c5b0 : decide (x7_1 < a1) = true := decide_eq_true c5
     clear c5
     replace H := Option.bind_eq_some_iff.mp H
     obtain ⟨t282, A60, H⟩ := H
     replace H : ((foghornref19_At.f k1 a0 t282).bind fun t283 => (if x6_1.length < 140737488355328 then (foghornref19_Syndromes.l0 k1 a0 a1 (x6_1 ++ [t283]) (wrap64 (x7_1 + 1))) else (none))) = some (r1, r2) := H
     have A6 := Aside0.mk A60
     clear A60
     replace H := Option.bind_eq_some_iff.mp H
     obtain ⟨t283, A70, H⟩ := H
     replace H : (if x6_1.length < 140737488355328 then (foghornref19_Syndromes.l0 k1 a0 a1 (x6_1 ++ [t283]) (wrap64 (x7_1 + 1))) else (none)) = some (r1, r2) := H
     have A7 := Aside0.mk A70
     clear A70
     by_cases c8 : x6_1.length < 140737488355328
     ·rw [if_pos c8] at H
      have LMc8 := Aside0.mk c8
      clear c8
      obtain ⟨y284, hy284⟩ : ∃ y_ : List Int, y_ = (x6_1 ++ [t283]) := ⟨_, rfl⟩
      replace H : (foghornref19_Syndromes.l0 k1 a0 a1 y284 (wrap64 (x7_1 + 1))) = some (r1, r2) := by first | (rw [hy284]; exact H) | exact H
      have Ny284 := Aside0.mk hy284
      clear hy284
      have H' := Aside0.mk H
      clear H
      go_wp2_with (first | ((with_reducible refine gate_callee (f := 70) rfl ?_); refine goesL_ (some 21) rfl rfl Try.func70 (by kernel_rfl) rfl #[.int .i64 x7_1] rfl (by (try simp only [List.map_toArray, List.map_cons, List.map_nil]); first | done | rfl | (simp only [List.length_drop, List.length_take]; rfl)) ?_; (with_reducible refine (foghornref19_Power.calls k1 x7_1 t282 _ A6.out).mono ?_); rintro e w' ⟨rfl, ⟨nd, rfl⟩⟩; refine ⟨_, rfl, ?_⟩) | ((with_reducible refine gate_callee (f := 69) rfl ?_); refine goesL_ (some 22) rfl rfl Try.func69 (by kernel_rfl) rfl #[.string a0, .int .u8 t282] rfl (by (try simp only [List.map_toArray, List.map_cons, List.map_nil]); first | done | rfl | (simp only [List.length_drop, List.length_take]; rfl)) ?_; (with_reducible refine (foghornref19_At.calls k1 a0 t282 t283 _ A7.out).mono ?_); rintro e w' ⟨rfl, ⟨nd, rfl⟩⟩; refine ⟨_, rfl, ?_⟩) | ((with_reducible refine gate_builtin (b := .append) (xs := #[.tmp 18, .tmp 23]) rfl ?_); at_builtin; refine Kd.R_append (Kd.int .u8) (w0 := w) w.heap.size rfl (.tmp 18) (.tmp 23) 29 5 (.int .u8 0) 1 rfl Try.underlying29 info5 rfl (by decide) (by omega) u6 x6_1 t283 [.int .u8 t283] (fun _ => True) (fun _ => False) rfl rfl ?aP (fun _ hk => hk.elim) ?aF ?aO ?aB ?aS ?aL ?_; (case aP => exact rfl); (case aB => exact (by repeat (first | (with_reducible first | exact HB.out | apply below_alloc | apply pw_below_drewN | apply below_drew1) | exact HB.out))); (case aF => exact (fun _ _ => trivial)); (case aO => exact (by (with_reducible repeat (first | apply Kd.R_alloc | apply Kd.R_drewN | apply Kd.R_drew)); exact HO_6.out)); (case aS => exact (below_size (by repeat (first | (with_reducible first | exact HB.out | apply below_alloc | apply pw_below_drewN | apply below_drew1) | exact HB.out)))); (case aL => have := LMc8.out; omega); intro v285 w9 ho hb hg hat; rw [← Ny284.out] at ho; have n0_ := Aside0.mk (hb); have n1_ := Aside0.mk (ho); clear HB; clear HO_6; have HB := n0_; have HO286 := n1_; clear n0_ n1_; clear ho hb hg hat))
      first | go_roundg k1 | (simp only [add_plain] at *; go_roundg k1)
      case measure => have := HK1.out; omega
      case rel => exact ⟨(y284), (wrap64 (x7_1 + 1)), (by rfl), H', ⟨by have := HK1.out; omega⟩, ⟨by (with_reducible repeat (first | apply Kd.R_alloc | apply Kd.R_drewN | apply Kd.R_drew)); exact HO286.out⟩, ⟨HB.out⟩⟩
     ·rw [if_neg c8] at H
      exact absurd H (by simp)
    ·rw [if_neg c5] at H
     have c5b0 : decide (x7_1 < a1) = false := decide_eq_false c5
     clear c5
     simp only [Option.some.injEq, Prod.mk.injEq] at H
     obtain ⟨rfl, rfl⟩ := H
     go_wp2
     go_ret2
     exact ⟨_, by rfl, by (with_reducible repeat (first | apply Kd.R_alloc | apply Kd.R_drewN | apply Kd.R_drew)); exact HO_6.out, HB.out⟩
 ·rw [if_neg c4] at H
  have c4b0 : (t281 == 0) = false := beq_eq_false_iff_ne.mpr c4
  have c4b1 : (t281 != 0) = true := bne_iff_ne.mpr c4
  simp only [Option.some.injEq, Prod.mk.injEq] at H
  obtain ⟨rfl, rfl⟩ := H
  go_enter Try.func25, Try.ntmps25
  go_wp2_with (first | ((with_reducible refine gate_callee (f := 66) rfl ?_); refine goesL_ (some 11) rfl rfl Try.func66 (by kernel_rfl) rfl #[.int .i64 (a0.size : Int), .int .i64 a1] rfl (by (try simp only [List.map_toArray, List.map_cons, List.map_nil]); first | done | rfl | (simp only [List.length_drop, List.length_take]; rfl)) ?_; (with_reducible refine (foghornref19_Check.calls (a0.size : Int) a1 t281 _ A3.out).mono ?_); rintro e w' ⟨rfl, ⟨nd, rfl⟩⟩; refine ⟨_, rfl, ?_⟩))
  go_ret2
  exact ⟨_, by rfl, by first | exact Kd.R_nil _ _ _ _ _ | exact Kd.N_nil _ _ _ _ _ | exact Kd.V_nil _ _ _ _ _ | exact Kd.Q_nil _ _ _ _ _ | exact Kd.S_nil _ _ _ _ _, by repeat (first | (with_reducible first | exact HB.out | apply below_alloc | apply pw_below_drewN | apply below_drew1) | exact HB.out)⟩
set_option maxHeartbeats 8000000 in
set_option maxRecDepth 100000 in
theorem foghornref19_Whole.calls (k : Nat) (a0 : ByteArray) (a1 : Int) (r1 : Bool) (r2 : Int) (w : World) (h : foghornref19_Whole.f k a0 a1 = some (r1, r2)) :
  Calls Try.prog 26 #[.string a0, .int .i64 a1] w fun e w' => e = .returned (.tuple #[.bool r1, .int .i64 r2]) ∧ Below w.heap.size w w' := by
 have HB := Aside0.mk (Below.refl w.heap.size w)
 have H : ((foghornref19_Syndromes.f k a0 a1).bind fun bt287 => (if bt287.2 = 0 then (foghornref19_Whole.l0 k bt287.1 0) else (some (false, bt287.2)))) = some (r1, r2) := h
 clear h
 replace H := Option.bind_eq_some_iff.mp H
 obtain ⟨⟨t287, t288⟩, A30, H⟩ := H
 replace H : (if t288 = 0 then (foghornref19_Whole.l0 k t287 0) else (some (false, t288))) = some (r1, r2) := H
 have A3 := Aside0.mk A30
 clear A30
 by_cases c4 : t288 = 0
 ·rw [if_pos c4] at H
  have c4b0 : (t288 == 0) = true := beq_iff_eq.mpr c4
  have c4b1 : (t288 != 0) = false := bne_eq_false_iff_eq.mpr c4
  clear c4
  have H' := Aside0.mk H
  clear H
  go_enter Try.func26, Try.ntmps26
  go_wp2_with (first | ((with_reducible refine gate_callee (f := 25) rfl ?_); refine goesL_ (some 12) rfl rfl Try.func25 (by kernel_rfl) rfl #[.string a0, .int .i64 a1] rfl (by (try simp only [List.map_toArray, List.map_cons, List.map_nil]); first | done | rfl | (simp only [List.length_drop, List.length_take]; rfl)) ?_; (with_reducible refine (foghornref19_Syndromes.calls k a0 a1 t287 t288 _ A3.out).mono ?_); rintro e w5 ⟨v289, rfl, ho0, hb⟩; refine ⟨_, rfl, ?_⟩; have n0_ := Aside0.mk (Kd.R_lower ho0 (below_size HB.out)); have n1_ := Aside0.mk (below_step HB.out hb); clear HB; have HO290 := n0_; have HB := n1_; clear n0_ n1_; (try clear hb); (try clear ho0)))
  go_loopg [8] k (fun kq v8 w' => ∃ (x8_1 : Int), v8 = .int .i64 x8_1 ∧ Aside0 (foghornref19_Whole.l0 kq t287 x8_1 = some (r1, r2)) ∧ Aside0 (kq ≤ k) ∧ Aside0 (Kd.R (Kd.int .u8) 5 w' w.heap.size (fun _ => True) v289 t287) ∧ Aside0 (Below w.heap.size w w'))
  case atStart => exact ⟨(0), (by rfl), H', ⟨Nat.le_refl _⟩, ⟨by (with_reducible repeat (first | apply Kd.R_alloc | apply Kd.R_drewN | apply Kd.R_drew)); exact HO290.out⟩, ⟨HB.out⟩⟩
  case round =>
   clear H'
   try clear c4
   try clear c4b0
   try clear c4b1
   obtain ⟨x8_1, rfl, HA, HK1, HO_6, HB⟩ := hrel
   cases gk with
   | zero => exact absurd HA.out (by simp [foghornref19_Whole.l0])
   | succ k1 =>
    have H := HA.out
    clear HA
    simp only [foghornref19_Whole.l0] at H
    by_cases c6 : x8_1 < (t287.length : Int)
    ·rw [if_pos c6] at H
     have c6b0 : decide (x8_1 < (t287.length : Int)) = true := decide_eq_true c6
     clear c6
     by_cases c7 : 0 ≤ x8_1
     ·rw [if_pos c7] at H
      have c7b0 : decide (0 ≤ x8_1) = true := decide_eq_true c7
      clear c7
      by_cases c8 : (rd t287 x8_1) = 0
      ·rw [if_pos c8] at H
       have c8b0 : ((rd t287 x8_1) == 0) = true := beq_iff_eq.mpr c8
       have c8b1 : ((rd t287 x8_1) != 0) = false := bne_eq_false_iff_eq.mpr c8
       clear c8
       have H' := Aside0.mk H
       clear H
       obtain ⟨Ao9, co9, eo9⟩ := Kd.R_slice HO_6.out
       subst eo9
       have p291 : 0 ≤ (x8_1 : Int) := of_decide_eq_true (by assumption)
       have q291 : x8_1 < (t287.length : Int) := of_decide_eq_true (by assumption)
       obtain ⟨ad291, e291, hx291_0⟩ := Kd.at_int (Kd.R_reads' HO_6.out).2.2 x8_1 p291 q291
       cases e291
       replace p291 := eq_true p291
       replace q291 := eq_true q291
       go_wp2
       first | go_roundg k1 | (simp only [add_plain] at *; go_roundg k1)
       case measure => have := HK1.out; omega
       case rel => exact ⟨(wrap64 (x8_1 + 1)), (by rfl), H', ⟨by have := HK1.out; omega⟩, ⟨by (with_reducible repeat (first | apply Kd.R_alloc | apply Kd.R_drewN | apply Kd.R_drew)); exact HO_6.out⟩, ⟨HB.out⟩⟩
      ·rw [if_neg c8] at H
       have c8b0 : ((rd t287 x8_1) == 0) = false := beq_eq_false_iff_ne.mpr c8
       have c8b1 : ((rd t287 x8_1) != 0) = true := bne_iff_ne.mpr c8
       simp only [Option.some.injEq, Prod.mk.injEq] at H
       obtain ⟨rfl, rfl⟩ := H
       obtain ⟨Ao10, co10, eo10⟩ := Kd.R_slice HO_6.out
       subst eo10
       have p291 : 0 ≤ (x8_1 : Int) := of_decide_eq_true (by assumption)
       have q291 : x8_1 < (t287.length : Int) := of_decide_eq_true (by assumption)
       obtain ⟨ad291, e291, hx291_0⟩ := Kd.at_int (Kd.R_reads' HO_6.out).2.2 x8_1 p291 q291
       cases e291
       replace p291 := eq_true p291
       replace q291 := eq_true q291
       go_wp2
       go_ret2
       exact ⟨by rfl, HB.out⟩
     ·rw [if_neg c7] at H
      exact absurd H (by simp)
    ·rw [if_neg c6] at H
     have c6b0 : decide (x8_1 < (t287.length : Int)) = false := decide_eq_false c6
     clear c6
     simp only [Option.some.injEq, Prod.mk.injEq] at H
     obtain ⟨rfl, rfl⟩ := H
     obtain ⟨Ao11, co11, eo11⟩ := Kd.R_slice HO_6.out
     subst eo11
     go_wp2
     go_ret2
     exact ⟨by rfl, HB.out⟩
 ·rw [if_neg c4] at H
  have c4b0 : (t288 == 0) = false := beq_eq_false_iff_ne.mpr c4
  have c4b1 : (t288 != 0) = true := bne_iff_ne.mpr c4
  simp only [Option.some.injEq, Prod.mk.injEq] at H
  obtain ⟨rfl, rfl⟩ := H
  go_enter Try.func26, Try.ntmps26
  go_wp2_with (first | ((with_reducible refine gate_callee (f := 25) rfl ?_); refine goesL_ (some 12) rfl rfl Try.func25 (by kernel_rfl) rfl #[.string a0, .int .i64 a1] rfl (by (try simp only [List.map_toArray, List.map_cons, List.map_nil]); first | done | rfl | (simp only [List.length_drop, List.length_take]; rfl)) ?_; (with_reducible refine (foghornref19_Syndromes.calls k a0 a1 t287 t288 _ A3.out).mono ?_); rintro e w12 ⟨v289, rfl, ho0, hb⟩; refine ⟨_, rfl, ?_⟩; have n0_ := Aside0.mk (Kd.R_lower ho0 (below_size HB.out)); have n1_ := Aside0.mk (below_step HB.out hb); clear HB; have HO290 := n0_; have HB := n1_; clear n0_ n1_; (try clear hb); (try clear ho0)))
  go_ret2
  exact ⟨by rfl, HB.out⟩
set_option maxHeartbeats 8000000 in
set_option maxRecDepth 100000 in
theorem foghornref20_places.calls (k : Nat) (A0 : Option Addr) (c0 : Nat) (l0 : List Int) (a1 : Int) (r1 : List Bool) (r2 : Bool) (w : World) (hr0 : Kd.C (Kd.int .i64) w A0 l0.length l0) (hc0 : l0.length ≤ c0) (h : foghornref20_places.f k l0 a1 = some (r1, r2)) :
  Calls Try.prog 97 #[.slice A0 l0.length c0, .int .i64 a1] w fun e w' => ∃ v0_ : Value, e = .returned (.tuple #[v0_, .bool r2]) ∧ Kd.R Kd.bool 4 w' w.heap.size (fun _ => True) v0_ r1 ∧ Below w.heap.size w w' := by
 have HR0 := Aside0.mk hr0
 have HC0 := Aside0.mk hc0
 clear hr0 hc0
 have HB := Aside0.mk (Below.refl w.heap.size w)
 have H : (if 0 ≤ a1 then (if (a1 : Int).toNat ≤ 281474976710656 then (foghornref20_places.l0 k l0 a1 (List.replicate (a1 : Int).toNat false) 0) else (none)) else (none)) = some (r1, r2) := h
 clear h
 by_cases c3 : 0 ≤ a1
 ·rw [if_pos c3] at H
  have c3b0 := eq_true c3
  have c3b1 : decide (0 ≤ a1) = true := decide_eq_true c3
  clear c3
  by_cases c4 : (a1 : Int).toNat ≤ 281474976710656
  ·rw [if_pos c4] at H
   have c4b0 := eq_true c4
   have c4b1 : decide ((a1 : Int).toNat ≤ 281474976710656) = true := decide_eq_true c4
   clear c4
   obtain ⟨y978, hy978⟩ : ∃ y_ : List Bool, y_ = (List.replicate (a1 : Int).toNat false) := ⟨_, rfl⟩
   replace H : (foghornref20_places.l0 k l0 a1 y978 0) = some (r1, r2) := by first | (rw [hy978]; exact H) | exact H
   have Ny978 := Aside0.mk hy978
   clear hy978
   have H' := Aside0.mk H
   clear H
   go_enter Try.func97, Try.ntmps97
   go_wp2_with (first | ((with_reducible refine gate_dst (N := 9) rfl ?_); refine Kd.R_make Kd.bool _ 4 rfl (N := 9) rfl 114 _ _ rfl a1 rfl rfl Try.underlying114 (.bool false) 1 info4 rfl (by decide) (by omega) false (ok := fun _ => True) (okp := fun _ => True) rfl (fun _ hk => hk) trivial (of_decide_eq_true (by assumption)) (Nat.le_trans (Nat.mul_le_mul_right _ (of_decide_eq_true (by assumption) : a1.toNat ≤ 281474976710656)) (by omega)) (Below.refl _ _) (Nat.le_refl _) ?_; intro v979 w5 ho6 hb hg_ hnew_; clear hg_ hnew_; (first | rw [← Ny978.out] at ho6 | (simp only [Int.reduceToNat] at ho6; rw [← Ny978.out] at ho6)); have n0_ := Aside0.mk (Kd.R_lower ho6 (below_size HB.out)); have n1_ := Aside0.mk (below_step HB.out hb); clear HB; have HO980 := n0_; have HB := n1_; clear n0_ n1_; clear hb ho6))
   go_loopg [7] k (fun kq v7 w' => ∃ (x6_1 : List Bool) (x7_1 : Int), v7 = .int .i64 x7_1 ∧ Aside0 (foghornref20_places.l0 kq l0 a1 x6_1 x7_1 = some (r1, r2)) ∧ Aside0 (kq ≤ k) ∧ Aside0 (Kd.R Kd.bool 4 w' w.heap.size (fun _ => True) v979 x6_1) ∧ Aside0 (Below w.heap.size w w'))
   case atStart => exact ⟨(y978), (0), (by rfl), H', ⟨Nat.le_refl _⟩, ⟨by (with_reducible repeat (first | apply Kd.R_alloc | apply Kd.R_drewN | apply Kd.R_drew)); exact HO980.out⟩, ⟨HB.out⟩⟩
   case round =>
    clear H'
    try clear c3
    try clear c3b0
    try clear c3b1
    try clear c4
    try clear c4b0
    try clear c4b1
    obtain ⟨x6_1, x7_1, rfl, HA, HK1, HO_6, HB⟩ := hrel
    cases gk with
    | zero => exact absurd HA.out (by simp [foghornref20_places.l0])
    | succ k1 =>
     have H := HA.out
     clear HA
     simp only [foghornref20_places.l0] at H
     by_cases c7 : x7_1 < (l0.length : Int)
     ·rw [if_pos c7] at H
      have c7b0 : decide (x7_1 < (l0.length : Int)) = true := decide_eq_true c7
      clear c7
      by_cases c8 : 0 ≤ x7_1
      ·rw [if_pos c8] at H
       have c8b0 : decide (0 ≤ x7_1) = true := decide_eq_true c8
       clear c8
       by_cases c9 : (rd l0 x7_1) < 0
       ·rw [if_pos c9] at H
        have c9b0 : decide ((rd l0 x7_1) < 0) = true := decide_eq_true c9
        clear c9
        simp only [Option.some.injEq, Prod.mk.injEq] at H
        obtain ⟨rfl, rfl⟩ := H
        have p981 : 0 ≤ (x7_1 : Int) := of_decide_eq_true (by assumption)
        have q981 : x7_1 < (l0.length : Int) := of_decide_eq_true (by assumption)
        obtain ⟨ad981, e981, hx981_0⟩ := Kd.at_int HR0.out x7_1 p981 q981
        cases e981
        replace hx981_0 := (HB.out.cell (World.block_lt_of_cell? w _ hx981_0)).trans hx981_0
        replace p981 := eq_true p981
        replace q981 := eq_true q981
        go_wp2
        go_ret2
        exact ⟨_, by rfl, by first | exact Kd.R_nil _ _ _ _ _ | exact Kd.N_nil _ _ _ _ _ | exact Kd.V_nil _ _ _ _ _ | exact Kd.Q_nil _ _ _ _ _ | exact Kd.S_nil _ _ _ _ _, HB.out⟩
       ·rw [if_neg c9] at H
        have c9b0 : decide ((rd l0 x7_1) < 0) = false := decide_eq_false c9
        clear c9
        by_cases c10 : (rd l0 x7_1) ≥ a1
        ·rw [if_pos c10] at H
         have c10b0 : decide (a1 ≤ (rd l0 x7_1)) = true := decide_eq_true c10
         clear c10
         simp only [Option.some.injEq, Prod.mk.injEq] at H
         obtain ⟨rfl, rfl⟩ := H
         have p981 : 0 ≤ (x7_1 : Int) := of_decide_eq_true (by assumption)
         have q981 : x7_1 < (l0.length : Int) := of_decide_eq_true (by assumption)
         obtain ⟨ad981, e981, hx981_0⟩ := Kd.at_int HR0.out x7_1 p981 q981
         cases e981
         replace hx981_0 := (HB.out.cell (World.block_lt_of_cell? w _ hx981_0)).trans hx981_0
         replace p981 := eq_true p981
         replace q981 := eq_true q981
         have p982 : 0 ≤ (x7_1 : Int) := of_decide_eq_true (by assumption)
         have q982 : x7_1 < (l0.length : Int) := of_decide_eq_true (by assumption)
         obtain ⟨ad982, e982, hx982_0⟩ := Kd.at_int HR0.out x7_1 p982 q982
         obtain rfl : ad981 = ad982 := (by injection e982)
         replace hx982_0 := (HB.out.cell (World.block_lt_of_cell? w _ hx982_0)).trans hx982_0
         replace p982 := eq_true p982
         replace q982 := eq_true q982
         go_wp2
         go_ret2
         exact ⟨_, by rfl, by first | exact Kd.R_nil _ _ _ _ _ | exact Kd.N_nil _ _ _ _ _ | exact Kd.V_nil _ _ _ _ _ | exact Kd.Q_nil _ _ _ _ _ | exact Kd.S_nil _ _ _ _ _, HB.out⟩
        ·rw [if_neg c10] at H
         have c10b0 : decide (a1 ≤ (rd l0 x7_1)) = false := decide_eq_false c10
         clear c10
         by_cases c11 : 0 ≤ (rd l0 x7_1)
         ·rw [if_pos c11] at H
          have c11b0 : decide (0 ≤ (rd l0 x7_1)) = true := decide_eq_true c11
          clear c11
          by_cases c12 : (rd l0 x7_1) < (x6_1.length : Int)
          ·rw [if_pos c12] at H
           have c12b0 : decide ((rd l0 x7_1) < (x6_1.length : Int)) = true := decide_eq_true c12
           clear c12
           obtain ⟨bq13, hbq13⟩ : ∃ b_ : Bool, b_ = (rdOf false x6_1 (rd l0 x7_1)) := ⟨_, rfl⟩
           replace H : (if bq13 = true then (some (([] : List Bool), false)) else (foghornref20_places.l0 k1 l0 a1 (x6_1.set ((rd l0 x7_1) : Int).toNat true) (wrap64 (x7_1 + 1)))) = some (r1, r2) := by rw [← hbq13] at H; exact H
           have Nbq13 := Aside0.mk hbq13
           clear hbq13
           by_cases c14 : bq13 = true
           ·subst c14
            have H1 : (some (([] : List Bool), false)) = some (r1, r2) := by rw [if_pos rfl] at H; exact H
            clear H
            have H := H1
            clear H1
            simp only [Option.some.injEq, Prod.mk.injEq] at H
            obtain ⟨rfl, rfl⟩ := H
            have p981 : 0 ≤ (x7_1 : Int) := of_decide_eq_true (by assumption)
            have q981 : x7_1 < (l0.length : Int) := of_decide_eq_true (by assumption)
            obtain ⟨ad981, e981, hx981_0⟩ := Kd.at_int HR0.out x7_1 p981 q981
            cases e981
            replace hx981_0 := (HB.out.cell (World.block_lt_of_cell? w _ hx981_0)).trans hx981_0
            replace p981 := eq_true p981
            replace q981 := eq_true q981
            have p982 : 0 ≤ (x7_1 : Int) := of_decide_eq_true (by assumption)
            have q982 : x7_1 < (l0.length : Int) := of_decide_eq_true (by assumption)
            obtain ⟨ad982, e982, hx982_0⟩ := Kd.at_int HR0.out x7_1 p982 q982
            obtain rfl : ad981 = ad982 := (by injection e982)
            replace hx982_0 := (HB.out.cell (World.block_lt_of_cell? w _ hx982_0)).trans hx982_0
            replace p982 := eq_true p982
            replace q982 := eq_true q982
            have p983 : 0 ≤ (x7_1 : Int) := of_decide_eq_true (by assumption)
            have q983 : x7_1 < (l0.length : Int) := of_decide_eq_true (by assumption)
            obtain ⟨ad983, e983, hx983_0⟩ := Kd.at_int HR0.out x7_1 p983 q983
            obtain rfl : ad981 = ad983 := (by injection e983)
            replace hx983_0 := (HB.out.cell (World.block_lt_of_cell? w _ hx983_0)).trans hx983_0
            replace p983 := eq_true p983
            replace q983 := eq_true q983
            obtain ⟨Ao15, co15, eo15⟩ := Kd.R_slice HO_6.out
            subst eo15
            have p984 : 0 ≤ ((rd l0 x7_1) : Int) := of_decide_eq_true (by assumption)
            have q984 : (rd l0 x7_1) < (x6_1.length : Int) := of_decide_eq_true (by assumption)
            obtain ⟨ad984, e984, hx984_0⟩ := Kd.at_bool (Kd.R_reads' HO_6.out).2.2 (rd l0 x7_1) p984 q984
            (try rw [← Nbq13.out] at hx984_0)
            cases e984
            replace p984 := eq_true p984
            replace q984 := eq_true q984
            go_wp2
            go_ret2
            exact ⟨_, by rfl, by first | exact Kd.R_nil _ _ _ _ _ | exact Kd.N_nil _ _ _ _ _ | exact Kd.V_nil _ _ _ _ _ | exact Kd.Q_nil _ _ _ _ _ | exact Kd.S_nil _ _ _ _ _, HB.out⟩
           ·replace c14 := Bool.eq_false_iff.mpr c14
            subst c14
            have H1 : (foghornref20_places.l0 k1 l0 a1 (x6_1.set ((rd l0 x7_1) : Int).toNat true) (wrap64 (x7_1 + 1))) = some (r1, r2) := by rw [if_neg (show ¬ (false = true) by decide)] at H; exact H
            clear H
            have H := H1
            clear H1
            obtain ⟨y986, hy986⟩ : ∃ y_ : List Bool, y_ = (x6_1.set ((rd l0 x7_1) : Int).toNat true) := ⟨_, rfl⟩
            replace H : (foghornref20_places.l0 k1 l0 a1 y986 (wrap64 (x7_1 + 1))) = some (r1, r2) := by first | (rw [hy986]; exact H) | exact H
            have Ny986 := Aside0.mk hy986
            clear hy986
            have H' := Aside0.mk H
            clear H
            have p981 : 0 ≤ (x7_1 : Int) := of_decide_eq_true (by assumption)
            have q981 : x7_1 < (l0.length : Int) := of_decide_eq_true (by assumption)
            obtain ⟨ad981, e981, hx981_0⟩ := Kd.at_int HR0.out x7_1 p981 q981
            cases e981
            replace hx981_0 := (HB.out.cell (World.block_lt_of_cell? w _ hx981_0)).trans hx981_0
            replace p981 := eq_true p981
            replace q981 := eq_true q981
            have p982 : 0 ≤ (x7_1 : Int) := of_decide_eq_true (by assumption)
            have q982 : x7_1 < (l0.length : Int) := of_decide_eq_true (by assumption)
            obtain ⟨ad982, e982, hx982_0⟩ := Kd.at_int HR0.out x7_1 p982 q982
            obtain rfl : ad981 = ad982 := (by injection e982)
            replace hx982_0 := (HB.out.cell (World.block_lt_of_cell? w _ hx982_0)).trans hx982_0
            replace p982 := eq_true p982
            replace q982 := eq_true q982
            have p983 : 0 ≤ (x7_1 : Int) := of_decide_eq_true (by assumption)
            have q983 : x7_1 < (l0.length : Int) := of_decide_eq_true (by assumption)
            obtain ⟨ad983, e983, hx983_0⟩ := Kd.at_int HR0.out x7_1 p983 q983
            obtain rfl : ad981 = ad983 := (by injection e983)
            replace hx983_0 := (HB.out.cell (World.block_lt_of_cell? w _ hx983_0)).trans hx983_0
            replace p983 := eq_true p983
            replace q983 := eq_true q983
            obtain ⟨Ao17, co17, eo17⟩ := Kd.R_slice HO_6.out
            subst eo17
            have p984 : 0 ≤ ((rd l0 x7_1) : Int) := of_decide_eq_true (by assumption)
            have q984 : (rd l0 x7_1) < (x6_1.length : Int) := of_decide_eq_true (by assumption)
            obtain ⟨ad984, e984, hx984_0⟩ := Kd.at_bool (Kd.R_reads' HO_6.out).2.2 (rd l0 x7_1) p984 q984
            (try rw [← Nbq13.out] at hx984_0)
            cases e984
            replace p984 := eq_true p984
            replace q984 := eq_true q984
            have p985 : 0 ≤ (x7_1 : Int) := of_decide_eq_true (by assumption)
            have q985 : x7_1 < (l0.length : Int) := of_decide_eq_true (by assumption)
            obtain ⟨ad985, e985, hx985_0⟩ := Kd.at_int HR0.out x7_1 p985 q985
            obtain rfl : ad981 = ad985 := (by injection e985)
            replace hx985_0 := (HB.out.cell (World.block_lt_of_cell? w _ hx985_0)).trans hx985_0
            replace p985 := eq_true p985
            replace q985 := eq_true q985
            have p16 : 0 ≤ ((rd l0 x7_1) : Int) := of_decide_eq_true (by assumption)
            have q16 : ((rd l0 x7_1) : Int) < ((x6_1.length : Int) : Int) := of_decide_eq_true (by assumption)
            obtain ⟨go16, co16, eo16, gb16, gl16, cl16, HG16⟩ := Kd.R_form HO_6.out (by omega)
            (first | cases eo16 | (injection eo16 with ea_ en_ ec_; (first | subst ea_ | (injection ea_ with ea_; subst ea_)); subst ec_; clear en_))
            have GB16 := Aside0.mk gb16
            have GG16 := Aside0.mk HG16
            clear gb16 gl16 HG16
            (first | simp only [add_plain] at hx984_0 | skip)
            obtain ⟨hx16_0, hf16_0⟩ := Kd.R_celln false HO_6.out ((rd l0 x7_1) : Int) p16 q16
            replace p16 := eq_true p16
            replace q16 := eq_true q16
            have HP18 := Kd.R_putg HO_6.out ((rd l0 x7_1) : Int) true
            go_wp2_with (first | ((with_reducible refine gate_store (t := 4) (p := 43) rfl ?_); refine store_event (t := 4) (p := 43) (v := ?vo_w19) (w1 := (wr.setCell ⟨go16, ((rd l0 x7_1) : Int).toNat, none⟩ (.bool true))) ?hg ?ho ?hn ?hr ?_; (case ho => rfl); (case hg => rfl); (case hn => rfl); (case hr => first | (go_simp; done) | (go_simp; rfl)); intro w19 hw; have hg : wr.grownBy w19 (some go16) := (by rw [hw]; exact HP18.2); have hp_ : Kd.R Kd.bool 4 w19 w.heap.size (fun _ => True) (.slice (some ⟨go16, 0, none⟩) x6_1.length co17) y986 := (by rw [hw, Ny986.out]; exact HP18.1); clear HP18; have n0_ := Aside0.mk (hp_); have n1_ := Aside0.mk ((by rw [hw]; exact below_set HB.out GB16.out : Below w.heap.size w w19)); clear HO_6; clear HB; have HO_6 := n0_; have HB := n1_; clear n0_ n1_; clear hg hw hp_))
            first | go_roundg k1 | (simp only [add_plain] at *; go_roundg k1)
            case measure => have := HK1.out; omega
            case rel => exact ⟨(y986), (wrap64 (x7_1 + 1)), (by rfl), H', ⟨by have := HK1.out; omega⟩, ⟨by (with_reducible repeat (first | apply Kd.R_alloc | apply Kd.R_drewN | apply Kd.R_drew)); exact HO_6.out⟩, ⟨HB.out⟩⟩
          ·rw [if_neg c12] at H
           exact absurd H (by simp)
         ·rw [if_neg c11] at H
          exact absurd H (by simp)
      ·rw [if_neg c8] at H
       exact absurd H (by simp)
     ·rw [if_neg c7] at H
      have c7b0 : decide (x7_1 < (l0.length : Int)) = false := decide_eq_false c7
      clear c7
      simp only [Option.some.injEq, Prod.mk.injEq] at H
      obtain ⟨rfl, rfl⟩ := H
      go_wp2
      go_ret2
      exact ⟨_, by rfl, by (with_reducible repeat (first | apply Kd.R_alloc | apply Kd.R_drewN | apply Kd.R_drew)); exact HO_6.out, HB.out⟩
  ·rw [if_neg c4] at H
   exact absurd H (by simp)
 ·rw [if_neg c3] at H
  exact absurd H (by simp)
end Go.Proofs.Ytncoakokdajibaa.Q
