-- Printed by myprint.py (ours) over the kit's printer, out of the translation.
import Derived.Shelf.Strings.Builder1
import Derived.Test.YtncoakokdajibaaMendNamesK0
import Derived.Test.YtncoakokdajibaaMendNamesF0
import Derived.Test.YtncoakokdajibaaMendNamesQ0
import Derived.Test.YtncoakokdajibaaMendNamesQ1
import Derived.Test.YtncoakokdajibaaMendNamesQ2
namespace Go.Proofs.Ytncoakokdajibaa.Q
open Go.RowKit Go.Proofs.YtncoakokdajibaaW.PrintWords Go.Proofs.YtncoakokdajibaaW.PrintLast Go.Proofs.YtncoakokdajibaaW.PrintMore
attribute [local go_sem] ArrW.ptrOf_slice unary_neg_float unary_neg_complex run_store_float run_store_complex max2_int min2_int max_two min_two max_three min_three max_four min_four   -- for this text's walks alone
set_option linter.unusedVariables false
set_option linter.unusedSimpArgs false

/-! ### mend_Mend: function 51 -/
set_option maxHeartbeats 8000000 in
set_option maxRecDepth 100000 in
theorem mend_Mend.calls (k : Nat) (a0 : ByteArray) (a1 : Int) (A2 : Option Addr) (c2 : Nat) (l2 : List Int) (r1 : ByteArray) (r2 : List Int) (r3 : List Int) (r4 : Int) (w : World) (hr2 : Kd.C (Kd.int .i64) w A2 l2.length l2) (hc2 : l2.length ≤ c2) (h : mend_Mend.f k a0 a1 l2 = some (r1, r2, r3, r4)) :
  Calls Try.prog 51 #[.string a0, .int .i64 a1, .slice A2 l2.length c2] w fun e w' => ∃ v1_ v2_ : Value, e = .returned (.tuple #[.agg #[.string r1, v1_, v2_], .int .i64 r4]) ∧ Kd.R (Kd.int .i64) 3 w' w.heap.size (fun k_ => some k_ ≠ (v2_ : Value).ownBlock) v1_ r2 ∧ Kd.R (Kd.int .i64) 3 w' w.heap.size (fun k_ => some k_ ≠ (v1_ : Value).ownBlock) v2_ r3 ∧ Below w.heap.size w w' := by
 have hu64 := Try.underlying64
 have HR2 := Aside0.mk hr2
 have HC2 := Aside0.mk hc2
 clear hr2 hc2
 have HB := Aside0.mk (Below.refl w.heap.size w)
 have H : ((mend_check.f k a0 a1 l2).bind fun bt771 => (if bt771.2 = 0 then (if (l2.length : Int) > a1 then (some ((⟨#[]⟩ : ByteArray), ([] : List Int), ([] : List Int), 9)) else ((mend_mend.f k a0 a1 bt771.1 l2).bind fun bt775 => (if bt775.2 = true then ((mend_unlike.f k a0 bt775.1 bt771.1).bind fun t777 => ((mend_rising.f k bt771.1).bind fun t780 => (some (bt775.1, t777, t780, 0)))) else (some ((⟨#[]⟩ : ByteArray), ([] : List Int), ([] : List Int), 9))))) else (some ((⟨#[]⟩ : ByteArray), ([] : List Int), ([] : List Int), bt771.2)))) = some (r1, r2, r3, r4) := h
 clear h
 replace H := Option.bind_eq_some_iff.mp H
 obtain ⟨⟨t771, t772⟩, A40, H⟩ := H
 replace H : (if t772 = 0 then (if (l2.length : Int) > a1 then (some ((⟨#[]⟩ : ByteArray), ([] : List Int), ([] : List Int), 9)) else ((mend_mend.f k a0 a1 t771 l2).bind fun bt775 => (if bt775.2 = true then ((mend_unlike.f k a0 bt775.1 t771).bind fun t777 => ((mend_rising.f k t771).bind fun t780 => (some (bt775.1, t777, t780, 0)))) else (some ((⟨#[]⟩ : ByteArray), ([] : List Int), ([] : List Int), 9))))) else (some ((⟨#[]⟩ : ByteArray), ([] : List Int), ([] : List Int), t772))) = some (r1, r2, r3, r4) := H
 have A4 := Aside0.mk A40
 clear A40
 by_cases c5 : t772 = 0
 ·rw [if_pos c5] at H
  have c5b0 : (t772 == 0) = true := beq_iff_eq.mpr c5
  have c5b1 : (t772 != 0) = false := bne_eq_false_iff_eq.mpr c5
  clear c5
  by_cases c6 : (l2.length : Int) > a1
  ·rw [if_pos c6] at H
   have c6b0 : decide (a1 < (l2.length : Int)) = true := decide_eq_true c6
   clear c6
   simp only [Option.some.injEq, Prod.mk.injEq] at H
   obtain ⟨rfl, rfl, rfl, rfl⟩ := H
   go_enter Try.func51, Try.ntmps51
   go_wp2_with (first | ((with_reducible refine gate_dst (N := 6) rfl ?_); refine box_event ?hg (N := 6) ?hd (cs := #[.string (⟨#[]⟩ : ByteArray), .slice none 0 0, .slice none 0 0]) (t := 64) ?hr ?_; (case hd => rfl); (case hg => rfl); (case hr => first | (go_simp; done) | (go_simp; rfl)); intro gb770 hg w7 hbox hb; have n0_ := Aside0.mk (below_step (by repeat (first | (with_reducible first | exact HB.out | apply below_alloc | apply pw_below_drewN | apply below_drew1) | exact HB.out)) hb); have n1_ := Aside0.mk (hbox); have n2_ := Aside0.mk ((by rw [hg]; exact (below_size (by repeat (first | (with_reducible first | exact HB.out | apply below_alloc | apply pw_below_drewN | apply below_drew1) | exact HB.out))) : w.heap.size ≤ gb770)); have n3_ := Aside0.mk ((by rw [hg]; exact (below_size (by repeat (first | (with_reducible first | exact HB.out | apply below_alloc | apply pw_below_drewN | apply below_drew1) | exact HB.out))) : w.heap.size ≤ gb770)); clear HB; have HB := n0_; have BK770 := n1_; have GW770 := n2_; have GE770 := n3_; clear n0_ n1_ n2_ n3_; clear hb hbox hg) | ((with_reducible refine gate_callee (f := 86) rfl ?_); refine goesL_ (some 16) rfl rfl Try.func86 (by kernel_rfl) rfl #[.string a0, .int .i64 a1, .slice A2 l2.length c2] rfl (by (try simp only [List.map_toArray, List.map_cons, List.map_nil]); first | done | rfl | (simp only [List.length_drop, List.length_take]; rfl)) ?_; (with_reducible refine (mend_check.calls k a0 a1 _ _ l2 t771 t772 _ ?side1 ?side2 A4.out).mono ?_); (case side1 => repeat (first | exact (Kd.C_below HR2.out HB.out) | (with_reducible refine Kd.C_alloc ?_ _) | (with_reducible refine Kd.C_drewN ?_ _) | (with_reducible refine Kd.C_drew ?_))); (case side2 => exact HC2.out); rintro e w8 ⟨v773, rfl, ho0, hb⟩; refine ⟨_, rfl, ?_⟩; have n0_ := Aside0.mk (Kd.R_lower ho0 (below_size (by repeat (first | (with_reducible first | exact HB.out | apply below_alloc | apply pw_below_drewN | apply below_drew1 | refine below_set ?_ GE770.out) | exact HB.out)))); have n1_ := Aside0.mk (blk_below (g := gb770) (o := .cells #[.string (⟨#[]⟩ : ByteArray), .slice none 0 0, .slice none 0 0] 64 (0, 0)) (by (with_reducible repeat (first | refine blk_drewN ?_ _ | refine blk_drew ?_ | refine blk_alloc ?_ _)); exact BK770.out) hb); have n2_ := Aside0.mk (below_step (by repeat (first | (with_reducible first | exact HB.out | apply below_alloc | apply pw_below_drewN | apply below_drew1 | refine below_set ?_ GE770.out) | exact HB.out)) hb); clear BK770; clear HB; have HO774 := n0_; have BK770 := n1_; have HB := n2_; clear n0_ n1_ n2_; (try clear hb); (try clear hb2); (try clear hk); (try clear hi); (try clear ho0); have hcz9_0 : w8.cell? ⟨gb770, 0, none⟩ = some (.string (⟨#[]⟩ : ByteArray)) := (blk_cell BK770.out 0).trans rfl; have hcz9_1 : w8.cell? ⟨gb770, 1, none⟩ = some (.slice none 0 0) := (blk_cell BK770.out 1).trans rfl; have hcz9_2 : w8.cell? ⟨gb770, 2, none⟩ = some (.slice none 0 0) := (blk_cell BK770.out 2).trans rfl; have hfz9_0 := blk_frozen BK770.out 0; have hfz9_1 := blk_frozen BK770.out 1; have hfz9_2 := blk_frozen BK770.out 2))
   refine bodyPost_ret (results_ct rfl _ _ gb770 64 #[.string (⟨#[]⟩ : ByteArray), .slice none 0 0, .slice none 0 0] (0, 0) _ rfl (by (with_reducible repeat (first | refine blk_drewN ?_ _ | refine blk_drew ?_ | refine blk_alloc ?_ _)); refine blk_put (cs := #[.string (⟨#[]⟩ : ByteArray), .slice none 0 0, .slice none 0 0]) ?_ 2 _ rfl; (with_reducible repeat (first | refine blk_drewN ?_ _ | refine blk_drew ?_ | refine blk_alloc ?_ _)); refine blk_put (cs := #[.string (⟨#[]⟩ : ByteArray), .slice none 0 0, .slice none 0 0]) ?_ 1 _ rfl; (with_reducible repeat (first | refine blk_drewN ?_ _ | refine blk_drew ?_ | refine blk_alloc ?_ _)); refine blk_put (cs := #[.string (⟨#[]⟩ : ByteArray), .slice none 0 0, .slice none 0 0]) ?_ 0 _ rfl; (with_reducible repeat (first | refine blk_drewN ?_ _ | refine blk_drew ?_ | refine blk_alloc ?_ _)); exact BK770.out) Try.underlying64 rfl (by kernel_rfl)) rfl ?_
   exact ⟨_, _, by first | rfl | (simp [errW_none, errW_some] <;> rfl) | (simp [*, errW_none, errW_some] <;> rfl), by first | exact Kd.R_nil _ _ _ _ _ | exact Kd.N_nil _ _ _ _ _ | exact Kd.V_nil _ _ _ _ _ | exact Kd.Q_nil _ _ _ _ _ | exact Kd.S_nil _ _ _ _ _, by first | exact Kd.R_nil _ _ _ _ _ | exact Kd.N_nil _ _ _ _ _ | exact Kd.V_nil _ _ _ _ _ | exact Kd.Q_nil _ _ _ _ _ | exact Kd.S_nil _ _ _ _ _, by repeat (first | (with_reducible first | exact HB.out | apply below_alloc | apply pw_below_drewN | apply below_drew1 | refine below_set ?_ GE770.out) | exact HB.out)⟩
  ·rw [if_neg c6] at H
   have c6b0 : decide (a1 < (l2.length : Int)) = false := decide_eq_false c6
   clear c6
   replace H := Option.bind_eq_some_iff.mp H
   obtain ⟨⟨t775, t776⟩, A100, H⟩ := H
   replace H : (if t776 = true then ((mend_unlike.f k a0 t775 t771).bind fun t777 => ((mend_rising.f k t771).bind fun t780 => (some (t775, t777, t780, 0)))) else (some ((⟨#[]⟩ : ByteArray), ([] : List Int), ([] : List Int), 9))) = some (r1, r2, r3, r4) := H
   have A10 := Aside0.mk A100
   clear A100
   by_cases c11 : t776 = true
   ·subst c11
    have H1 : ((mend_unlike.f k a0 t775 t771).bind fun t777 => ((mend_rising.f k t771).bind fun t780 => (some (t775, t777, t780, 0)))) = some (r1, r2, r3, r4) := by rw [if_pos rfl] at H; exact H
    clear H
    have H := H1
    clear H1
    replace H := Option.bind_eq_some_iff.mp H
    obtain ⟨t777, A120, H⟩ := H
    replace H : ((mend_rising.f k t771).bind fun t780 => (some (t775, t777, t780, 0))) = some (r1, r2, r3, r4) := H
    have A12 := Aside0.mk A120
    clear A120
    replace H := Option.bind_eq_some_iff.mp H
    obtain ⟨t780, A130, H⟩ := H
    replace H : (some (t775, t777, t780, 0)) = some (r1, r2, r3, r4) := H
    have A13 := Aside0.mk A130
    clear A130
    simp only [Option.some.injEq, Prod.mk.injEq] at H
    obtain ⟨rfl, rfl, rfl, rfl⟩ := H
    go_enter Try.func51, Try.ntmps51
    go_wp2_with (first | ((with_reducible refine gate_dst (N := 6) rfl ?_); refine box_event ?hg (N := 6) ?hd (cs := #[.string (⟨#[]⟩ : ByteArray), .slice none 0 0, .slice none 0 0]) (t := 64) ?hr ?_; (case hd => rfl); (case hg => rfl); (case hr => first | (go_simp; done) | (go_simp; rfl)); intro gb770 hg w14 hbox hb; have n0_ := Aside0.mk (below_step (by repeat (first | (with_reducible first | exact HB.out | apply below_alloc | apply pw_below_drewN | apply below_drew1) | exact HB.out)) hb); have n1_ := Aside0.mk (hbox); have n2_ := Aside0.mk ((by rw [hg]; exact (below_size (by repeat (first | (with_reducible first | exact HB.out | apply below_alloc | apply pw_below_drewN | apply below_drew1) | exact HB.out))) : w.heap.size ≤ gb770)); have n3_ := Aside0.mk ((by rw [hg]; exact (below_size (by repeat (first | (with_reducible first | exact HB.out | apply below_alloc | apply pw_below_drewN | apply below_drew1) | exact HB.out))) : w.heap.size ≤ gb770)); clear HB; have HB := n0_; have BK770 := n1_; have GW770 := n2_; have GE770 := n3_; clear n0_ n1_ n2_ n3_; clear hb hbox hg) | ((with_reducible refine gate_callee (f := 86) rfl ?_); refine goesL_ (some 16) rfl rfl Try.func86 (by kernel_rfl) rfl #[.string a0, .int .i64 a1, .slice A2 l2.length c2] rfl (by (try simp only [List.map_toArray, List.map_cons, List.map_nil]); first | done | rfl | (simp only [List.length_drop, List.length_take]; rfl)) ?_; (with_reducible refine (mend_check.calls k a0 a1 _ _ l2 t771 t772 _ ?side1 ?side2 A4.out).mono ?_); (case side1 => repeat (first | exact (Kd.C_below HR2.out HB.out) | (with_reducible refine Kd.C_alloc ?_ _) | (with_reducible refine Kd.C_drewN ?_ _) | (with_reducible refine Kd.C_drew ?_))); (case side2 => exact HC2.out); rintro e w15 ⟨v773, rfl, ho0, hb⟩; refine ⟨_, rfl, ?_⟩; have n0_ := Aside0.mk (Kd.R_lower ho0 (below_size (by repeat (first | (with_reducible first | exact HB.out | apply below_alloc | apply pw_below_drewN | apply below_drew1 | refine below_set ?_ GE770.out) | exact HB.out)))); have n1_ := Aside0.mk (blk_below (g := gb770) (o := .cells #[.string (⟨#[]⟩ : ByteArray), .slice none 0 0, .slice none 0 0] 64 (0, 0)) (by (with_reducible repeat (first | refine blk_drewN ?_ _ | refine blk_drew ?_ | refine blk_alloc ?_ _)); exact BK770.out) hb); have n2_ := Aside0.mk (below_step (by repeat (first | (with_reducible first | exact HB.out | apply below_alloc | apply pw_below_drewN | apply below_drew1 | refine below_set ?_ GE770.out) | exact HB.out)) hb); clear BK770; clear HB; have HO774 := n0_; have BK770 := n1_; have HB := n2_; clear n0_ n1_ n2_; (try clear hb); (try clear hb2); (try clear hk); (try clear hi); (try clear ho0); obtain ⟨Ao16, co16, eo16⟩ := Kd.R_slice HO774.out; subst eo16) | ((with_reducible refine gate_callee (f := 87) rfl ?_); refine goesL_ (some 33) rfl rfl Try.func87 (by kernel_rfl) rfl #[.string a0, .int .i64 a1, .slice Ao16 t771.length co16, .slice A2 l2.length c2] rfl (by (try simp only [List.map_toArray, List.map_cons, List.map_nil]); first | done | rfl | (simp only [List.length_drop, List.length_take]; rfl)) ?_; (with_reducible refine (mend_mend.calls k a0 a1 _ _ t771 _ _ l2 t775 true _ ?side1 ?side2 ?side3 ?side4 A10.out).mono ?_); (case side1 => repeat (first | exact (Kd.R_reads' HO774.out).2.2 | (with_reducible refine Kd.C_alloc ?_ _) | (with_reducible refine Kd.C_drewN ?_ _) | (with_reducible refine Kd.C_drew ?_))); (case side2 => exact (Kd.R_reads' HO774.out).2.1); (case side3 => repeat (first | exact (Kd.C_below HR2.out HB.out) | (with_reducible refine Kd.C_alloc ?_ _) | (with_reducible refine Kd.C_drewN ?_ _) | (with_reducible refine Kd.C_drew ?_))); (case side4 => exact HC2.out); rintro e w17 ⟨rfl, hb⟩; refine ⟨_, rfl, ?_⟩; have n0_ := Aside0.mk (Kd.R_below (by (with_reducible repeat (first | apply Kd.R_alloc | apply Kd.R_drewN | apply Kd.R_drew)); exact HO774.out) hb); have n1_ := Aside0.mk (blk_below (g := gb770) (o := .cells #[.string (⟨#[]⟩ : ByteArray), .slice none 0 0, .slice none 0 0] 64 (0, 0)) (by (with_reducible repeat (first | refine blk_drewN ?_ _ | refine blk_drew ?_ | refine blk_alloc ?_ _)); exact BK770.out) hb); have n2_ := Aside0.mk (below_step (by repeat (first | (with_reducible first | exact HB.out | apply below_alloc | apply pw_below_drewN | apply below_drew1 | refine below_set ?_ GE770.out) | exact HB.out)) hb); clear HO774; clear BK770; clear HB; have HO774 := n0_; have BK770 := n1_; have HB := n2_; clear n0_ n1_ n2_; (try clear hb); (try clear hb2); (try clear hk); (try clear hi)) | ((with_reducible refine gate_callee (f := 88) rfl ?_); refine goesL_ (some 43) rfl rfl Try.func88 (by kernel_rfl) rfl #[.string a0, .string t775, .slice Ao16 t771.length co16] rfl (by (try simp only [List.map_toArray, List.map_cons, List.map_nil]); first | done | rfl | (simp only [List.length_drop, List.length_take]; rfl)) ?_; (with_reducible refine (mend_unlike.calls k a0 t775 _ _ t771 t777 _ ?side1 ?side2 A12.out).mono ?_); (case side1 => repeat (first | exact (Kd.R_reads' HO774.out).2.2 | (with_reducible refine Kd.C_alloc ?_ _) | (with_reducible refine Kd.C_drewN ?_ _) | (with_reducible refine Kd.C_drew ?_))); (case side2 => exact (Kd.R_reads' HO774.out).2.1); rintro e w18 ⟨v778, rfl, ho0, hb⟩; refine ⟨_, rfl, ?_⟩; have n0_ := Aside0.mk (Kd.R_below (by (with_reducible repeat (first | apply Kd.R_alloc | apply Kd.R_drewN | apply Kd.R_drew)); exact HO774.out) hb); have n1_ := Aside0.mk (Kd.R_lower ho0 (below_size (by repeat (first | (with_reducible first | exact HB.out | apply below_alloc | apply pw_below_drewN | apply below_drew1 | refine below_set ?_ GE770.out) | exact HB.out)))); have n2_ := Aside0.mk (blk_below (g := gb770) (o := .cells #[.string (⟨#[]⟩ : ByteArray), .slice none 0 0, .slice none 0 0] 64 (0, 0)) (by (with_reducible repeat (first | refine blk_drewN ?_ _ | refine blk_drew ?_ | refine blk_alloc ?_ _)); exact BK770.out) hb); have n3_ := Aside0.mk (below_step (by repeat (first | (with_reducible first | exact HB.out | apply below_alloc | apply pw_below_drewN | apply below_drew1 | refine below_set ?_ GE770.out) | exact HB.out)) hb); clear HO774; clear BK770; clear HB; have HO774 := n0_; have HO779 := n1_; have BK770 := n2_; have HB := n3_; clear n0_ n1_ n2_ n3_; (try clear hb); (try clear hb2); (try clear hk); (try clear hi); (try clear ho0)) | ((with_reducible refine gate_callee (f := 89) rfl ?_); refine goesL_ (some 45) rfl rfl Try.func89 (by kernel_rfl) rfl #[.slice Ao16 t771.length co16] rfl (by (try simp only [List.map_toArray, List.map_cons, List.map_nil]); first | done | rfl | (simp only [List.length_drop, List.length_take]; rfl)) ?_; (with_reducible refine (mend_rising.calls k _ _ t771 t780 _ ?side1 ?side2 A13.out).mono ?_); (case side1 => repeat (first | exact (Kd.R_reads' HO774.out).2.2 | (with_reducible refine Kd.C_alloc ?_ _) | (with_reducible refine Kd.C_drewN ?_ _) | (with_reducible refine Kd.C_drew ?_))); (case side2 => exact (Kd.R_reads' HO774.out).2.1); rintro e w19 ⟨v781, rfl, ho0, hb⟩; refine ⟨_, rfl, ?_⟩; have n0_ := Aside0.mk (Kd.R_below (by (with_reducible repeat (first | apply Kd.R_alloc | apply Kd.R_drewN | apply Kd.R_drew)); exact HO774.out) hb); have n1_ := Aside0.mk (Kd.R_elder' (by (with_reducible repeat (first | apply Kd.R_alloc | apply Kd.R_drewN | apply Kd.R_drew)); exact HO779.out) (Kd.R_base ho0) hb); have n2_ := Aside0.mk (Kd.R_lower (Kd.R_new' ho0 (Kd.R_lt (by (with_reducible repeat (first | apply Kd.R_alloc | apply Kd.R_drewN | apply Kd.R_drew)); exact HO779.out))) (below_size (by repeat (first | (with_reducible first | exact HB.out | apply below_alloc | apply pw_below_drewN | apply below_drew1 | refine below_set ?_ GE770.out) | exact HB.out)))); have n3_ := Aside0.mk (blk_below (g := gb770) (o := .cells #[.string (⟨#[]⟩ : ByteArray), .slice none 0 0, .slice none 0 0] 64 (0, 0)) (by (with_reducible repeat (first | refine blk_drewN ?_ _ | refine blk_drew ?_ | refine blk_alloc ?_ _)); exact BK770.out) hb); have n4_ := Aside0.mk (below_step (by repeat (first | (with_reducible first | exact HB.out | apply below_alloc | apply pw_below_drewN | apply below_drew1 | refine below_set ?_ GE770.out) | exact HB.out)) hb); clear HO774; clear HO779; clear BK770; clear HB; have HO774 := n0_; have HO779 := n1_; have HO782 := n2_; have BK770 := n3_; have HB := n4_; clear n0_ n1_ n2_ n3_ n4_; (try clear hb); (try clear hb2); (try clear hk); (try clear hi); (try clear ho0); obtain ⟨Ao20, co20, eo20⟩ := Kd.R_slice HO782.out; subst eo20; obtain ⟨Ao21, co21, eo21⟩ := Kd.R_slice HO779.out; subst eo21; have hcz22_0 : w19.cell? ⟨gb770, 0, none⟩ = some (.string (⟨#[]⟩ : ByteArray)) := (blk_cell BK770.out 0).trans rfl; have hcz22_1 : w19.cell? ⟨gb770, 1, none⟩ = some (.slice none 0 0) := (blk_cell BK770.out 1).trans rfl; have hcz22_2 : w19.cell? ⟨gb770, 2, none⟩ = some (.slice none 0 0) := (blk_cell BK770.out 2).trans rfl; have hfz22_0 := blk_frozen BK770.out 0; have hfz22_1 := blk_frozen BK770.out 1; have hfz22_2 := blk_frozen BK770.out 2))
    refine bodyPost_ret (results_ct rfl _ _ gb770 64 #[.string t775, .slice Ao21 t777.length co21, .slice Ao20 t780.length co20] (0, 0) _ rfl (by (with_reducible repeat (first | refine blk_drewN ?_ _ | refine blk_drew ?_ | refine blk_alloc ?_ _)); refine blk_put (cs := #[.string t775, .slice Ao21 t777.length co21, .slice none 0 0]) ?_ 2 _ rfl; (with_reducible repeat (first | refine blk_drewN ?_ _ | refine blk_drew ?_ | refine blk_alloc ?_ _)); refine blk_put (cs := #[.string t775, .slice none 0 0, .slice none 0 0]) ?_ 1 _ rfl; (with_reducible repeat (first | refine blk_drewN ?_ _ | refine blk_drew ?_ | refine blk_alloc ?_ _)); refine blk_put (cs := #[.string (⟨#[]⟩ : ByteArray), .slice none 0 0, .slice none 0 0]) ?_ 0 _ rfl; (with_reducible repeat (first | refine blk_drewN ?_ _ | refine blk_drew ?_ | refine blk_alloc ?_ _)); exact BK770.out) Try.underlying64 rfl (by kernel_rfl)) rfl ?_
    exact ⟨_, _, by first | rfl | (simp [errW_none, errW_some] <;> rfl) | (simp [*, errW_none, errW_some] <;> rfl), by (with_reducible repeat (first | apply Kd.R_alloc | apply Kd.R_drewN | apply Kd.R_drew)); exact Kd.R_mono (Kd.R_far (p := ⟨gb770, 2, none⟩) (Kd.R_far (p := ⟨gb770, 1, none⟩) (Kd.R_far (p := ⟨gb770, 0, none⟩) (Kd.R_types HO779.out BK770.out (by decide)) (fun _ hk => hk.2) (.string t775)) (fun _ hk => hk.2) (.slice Ao21 t777.length co21)) (fun _ hk => hk.2) (.slice Ao20 t780.length co20)) (fun _ hk => hk.1.2), by (with_reducible repeat (first | apply Kd.R_alloc | apply Kd.R_drewN | apply Kd.R_drew)); exact Kd.R_mono (Kd.R_far (p := ⟨gb770, 2, none⟩) (Kd.R_far (p := ⟨gb770, 1, none⟩) (Kd.R_far (p := ⟨gb770, 0, none⟩) (Kd.R_types HO782.out BK770.out (by decide)) (fun _ hk => hk.2) (.string t775)) (fun _ hk => hk.2) (.slice Ao21 t777.length co21)) (fun _ hk => hk.2) (.slice Ao20 t780.length co20)) (fun _ hk => hk.1.2), by repeat (first | (with_reducible first | exact HB.out | apply below_alloc | apply pw_below_drewN | apply below_drew1 | refine below_set ?_ GE770.out) | exact HB.out)⟩
   ·replace c11 := Bool.eq_false_iff.mpr c11
    subst c11
    have H1 : (some ((⟨#[]⟩ : ByteArray), ([] : List Int), ([] : List Int), 9)) = some (r1, r2, r3, r4) := by rw [if_neg (show ¬ (false = true) by decide)] at H; exact H
    clear H
    have H := H1
    clear H1
    simp only [Option.some.injEq, Prod.mk.injEq] at H
    obtain ⟨rfl, rfl, rfl, rfl⟩ := H
    go_enter Try.func51, Try.ntmps51
    go_wp2_with (first | ((with_reducible refine gate_dst (N := 6) rfl ?_); refine box_event ?hg (N := 6) ?hd (cs := #[.string (⟨#[]⟩ : ByteArray), .slice none 0 0, .slice none 0 0]) (t := 64) ?hr ?_; (case hd => rfl); (case hg => rfl); (case hr => first | (go_simp; done) | (go_simp; rfl)); intro gb770 hg w23 hbox hb; have n0_ := Aside0.mk (below_step (by repeat (first | (with_reducible first | exact HB.out | apply below_alloc | apply pw_below_drewN | apply below_drew1) | exact HB.out)) hb); have n1_ := Aside0.mk (hbox); have n2_ := Aside0.mk ((by rw [hg]; exact (below_size (by repeat (first | (with_reducible first | exact HB.out | apply below_alloc | apply pw_below_drewN | apply below_drew1) | exact HB.out))) : w.heap.size ≤ gb770)); have n3_ := Aside0.mk ((by rw [hg]; exact (below_size (by repeat (first | (with_reducible first | exact HB.out | apply below_alloc | apply pw_below_drewN | apply below_drew1) | exact HB.out))) : w.heap.size ≤ gb770)); clear HB; have HB := n0_; have BK770 := n1_; have GW770 := n2_; have GE770 := n3_; clear n0_ n1_ n2_ n3_; clear hb hbox hg) | ((with_reducible refine gate_callee (f := 86) rfl ?_); refine goesL_ (some 16) rfl rfl Try.func86 (by kernel_rfl) rfl #[.string a0, .int .i64 a1, .slice A2 l2.length c2] rfl (by (try simp only [List.map_toArray, List.map_cons, List.map_nil]); first | done | rfl | (simp only [List.length_drop, List.length_take]; rfl)) ?_; (with_reducible refine (mend_check.calls k a0 a1 _ _ l2 t771 t772 _ ?side1 ?side2 A4.out).mono ?_); (case side1 => repeat (first | exact (Kd.C_below HR2.out HB.out) | (with_reducible refine Kd.C_alloc ?_ _) | (with_reducible refine Kd.C_drewN ?_ _) | (with_reducible refine Kd.C_drew ?_))); (case side2 => exact HC2.out); rintro e w24 ⟨v773, rfl, ho0, hb⟩; refine ⟨_, rfl, ?_⟩; have n0_ := Aside0.mk (Kd.R_lower ho0 (below_size (by repeat (first | (with_reducible first | exact HB.out | apply below_alloc | apply pw_below_drewN | apply below_drew1 | refine below_set ?_ GE770.out) | exact HB.out)))); have n1_ := Aside0.mk (blk_below (g := gb770) (o := .cells #[.string (⟨#[]⟩ : ByteArray), .slice none 0 0, .slice none 0 0] 64 (0, 0)) (by (with_reducible repeat (first | refine blk_drewN ?_ _ | refine blk_drew ?_ | refine blk_alloc ?_ _)); exact BK770.out) hb); have n2_ := Aside0.mk (below_step (by repeat (first | (with_reducible first | exact HB.out | apply below_alloc | apply pw_below_drewN | apply below_drew1 | refine below_set ?_ GE770.out) | exact HB.out)) hb); clear BK770; clear HB; have HO774 := n0_; have BK770 := n1_; have HB := n2_; clear n0_ n1_ n2_; (try clear hb); (try clear hb2); (try clear hk); (try clear hi); (try clear ho0); obtain ⟨Ao25, co25, eo25⟩ := Kd.R_slice HO774.out; subst eo25) | ((with_reducible refine gate_callee (f := 87) rfl ?_); refine goesL_ (some 33) rfl rfl Try.func87 (by kernel_rfl) rfl #[.string a0, .int .i64 a1, .slice Ao25 t771.length co25, .slice A2 l2.length c2] rfl (by (try simp only [List.map_toArray, List.map_cons, List.map_nil]); first | done | rfl | (simp only [List.length_drop, List.length_take]; rfl)) ?_; (with_reducible refine (mend_mend.calls k a0 a1 _ _ t771 _ _ l2 t775 false _ ?side1 ?side2 ?side3 ?side4 A10.out).mono ?_); (case side1 => repeat (first | exact (Kd.R_reads' HO774.out).2.2 | (with_reducible refine Kd.C_alloc ?_ _) | (with_reducible refine Kd.C_drewN ?_ _) | (with_reducible refine Kd.C_drew ?_))); (case side2 => exact (Kd.R_reads' HO774.out).2.1); (case side3 => repeat (first | exact (Kd.C_below HR2.out HB.out) | (with_reducible refine Kd.C_alloc ?_ _) | (with_reducible refine Kd.C_drewN ?_ _) | (with_reducible refine Kd.C_drew ?_))); (case side4 => exact HC2.out); rintro e w26 ⟨rfl, hb⟩; refine ⟨_, rfl, ?_⟩; have n0_ := Aside0.mk (Kd.R_below (by (with_reducible repeat (first | apply Kd.R_alloc | apply Kd.R_drewN | apply Kd.R_drew)); exact HO774.out) hb); have n1_ := Aside0.mk (blk_below (g := gb770) (o := .cells #[.string (⟨#[]⟩ : ByteArray), .slice none 0 0, .slice none 0 0] 64 (0, 0)) (by (with_reducible repeat (first | refine blk_drewN ?_ _ | refine blk_drew ?_ | refine blk_alloc ?_ _)); exact BK770.out) hb); have n2_ := Aside0.mk (below_step (by repeat (first | (with_reducible first | exact HB.out | apply below_alloc | apply pw_below_drewN | apply below_drew1 | refine below_set ?_ GE770.out) | exact HB.out)) hb); clear HO774; clear BK770; clear HB; have HO774 := n0_; have BK770 := n1_; have HB := n2_; clear n0_ n1_ n2_; (try clear hb); (try clear hb2); (try clear hk); (try clear hi); have hcz27_0 : w26.cell? ⟨gb770, 0, none⟩ = some (.string (⟨#[]⟩ : ByteArray)) := (blk_cell BK770.out 0).trans rfl; have hcz27_1 : w26.cell? ⟨gb770, 1, none⟩ = some (.slice none 0 0) := (blk_cell BK770.out 1).trans rfl; have hcz27_2 : w26.cell? ⟨gb770, 2, none⟩ = some (.slice none 0 0) := (blk_cell BK770.out 2).trans rfl; have hfz27_0 := blk_frozen BK770.out 0; have hfz27_1 := blk_frozen BK770.out 1; have hfz27_2 := blk_frozen BK770.out 2))
    refine bodyPost_ret (results_ct rfl _ _ gb770 64 #[.string (⟨#[]⟩ : ByteArray), .slice none 0 0, .slice none 0 0] (0, 0) _ rfl (by (with_reducible repeat (first | refine blk_drewN ?_ _ | refine blk_drew ?_ | refine blk_alloc ?_ _)); refine blk_put (cs := #[.string (⟨#[]⟩ : ByteArray), .slice none 0 0, .slice none 0 0]) ?_ 2 _ rfl; (with_reducible repeat (first | refine blk_drewN ?_ _ | refine blk_drew ?_ | refine blk_alloc ?_ _)); refine blk_put (cs := #[.string (⟨#[]⟩ : ByteArray), .slice none 0 0, .slice none 0 0]) ?_ 1 _ rfl; (with_reducible repeat (first | refine blk_drewN ?_ _ | refine blk_drew ?_ | refine blk_alloc ?_ _)); refine blk_put (cs := #[.string (⟨#[]⟩ : ByteArray), .slice none 0 0, .slice none 0 0]) ?_ 0 _ rfl; (with_reducible repeat (first | refine blk_drewN ?_ _ | refine blk_drew ?_ | refine blk_alloc ?_ _)); exact BK770.out) Try.underlying64 rfl (by kernel_rfl)) rfl ?_
    exact ⟨_, _, by first | rfl | (simp [errW_none, errW_some] <;> rfl) | (simp [*, errW_none, errW_some] <;> rfl), by first | exact Kd.R_nil _ _ _ _ _ | exact Kd.N_nil _ _ _ _ _ | exact Kd.V_nil _ _ _ _ _ | exact Kd.Q_nil _ _ _ _ _ | exact Kd.S_nil _ _ _ _ _, by first | exact Kd.R_nil _ _ _ _ _ | exact Kd.N_nil _ _ _ _ _ | exact Kd.V_nil _ _ _ _ _ | exact Kd.Q_nil _ _ _ _ _ | exact Kd.S_nil _ _ _ _ _, by repeat (first | (with_reducible first | exact HB.out | apply below_alloc | apply pw_below_drewN | apply below_drew1 | refine below_set ?_ GE770.out) | exact HB.out)⟩
 ·rw [if_neg c5] at H
  have c5b0 : (t772 == 0) = false := beq_eq_false_iff_ne.mpr c5
  have c5b1 : (t772 != 0) = true := bne_iff_ne.mpr c5
  simp only [Option.some.injEq, Prod.mk.injEq] at H
  obtain ⟨rfl, rfl, rfl, rfl⟩ := H
  go_enter Try.func51, Try.ntmps51
  go_wp2_with (first | ((with_reducible refine gate_dst (N := 6) rfl ?_); refine box_event ?hg (N := 6) ?hd (cs := #[.string (⟨#[]⟩ : ByteArray), .slice none 0 0, .slice none 0 0]) (t := 64) ?hr ?_; (case hd => rfl); (case hg => rfl); (case hr => first | (go_simp; done) | (go_simp; rfl)); intro gb770 hg w28 hbox hb; have n0_ := Aside0.mk (below_step (by repeat (first | (with_reducible first | exact HB.out | apply below_alloc | apply pw_below_drewN | apply below_drew1) | exact HB.out)) hb); have n1_ := Aside0.mk (hbox); have n2_ := Aside0.mk ((by rw [hg]; exact (below_size (by repeat (first | (with_reducible first | exact HB.out | apply below_alloc | apply pw_below_drewN | apply below_drew1) | exact HB.out))) : w.heap.size ≤ gb770)); have n3_ := Aside0.mk ((by rw [hg]; exact (below_size (by repeat (first | (with_reducible first | exact HB.out | apply below_alloc | apply pw_below_drewN | apply below_drew1) | exact HB.out))) : w.heap.size ≤ gb770)); clear HB; have HB := n0_; have BK770 := n1_; have GW770 := n2_; have GE770 := n3_; clear n0_ n1_ n2_ n3_; clear hb hbox hg) | ((with_reducible refine gate_callee (f := 86) rfl ?_); refine goesL_ (some 16) rfl rfl Try.func86 (by kernel_rfl) rfl #[.string a0, .int .i64 a1, .slice A2 l2.length c2] rfl (by (try simp only [List.map_toArray, List.map_cons, List.map_nil]); first | done | rfl | (simp only [List.length_drop, List.length_take]; rfl)) ?_; (with_reducible refine (mend_check.calls k a0 a1 _ _ l2 t771 t772 _ ?side1 ?side2 A4.out).mono ?_); (case side1 => repeat (first | exact (Kd.C_below HR2.out HB.out) | (with_reducible refine Kd.C_alloc ?_ _) | (with_reducible refine Kd.C_drewN ?_ _) | (with_reducible refine Kd.C_drew ?_))); (case side2 => exact HC2.out); rintro e w29 ⟨v773, rfl, ho0, hb⟩; refine ⟨_, rfl, ?_⟩; have n0_ := Aside0.mk (Kd.R_lower ho0 (below_size (by repeat (first | (with_reducible first | exact HB.out | apply below_alloc | apply pw_below_drewN | apply below_drew1 | refine below_set ?_ GE770.out) | exact HB.out)))); have n1_ := Aside0.mk (blk_below (g := gb770) (o := .cells #[.string (⟨#[]⟩ : ByteArray), .slice none 0 0, .slice none 0 0] 64 (0, 0)) (by (with_reducible repeat (first | refine blk_drewN ?_ _ | refine blk_drew ?_ | refine blk_alloc ?_ _)); exact BK770.out) hb); have n2_ := Aside0.mk (below_step (by repeat (first | (with_reducible first | exact HB.out | apply below_alloc | apply pw_below_drewN | apply below_drew1 | refine below_set ?_ GE770.out) | exact HB.out)) hb); clear BK770; clear HB; have HO774 := n0_; have BK770 := n1_; have HB := n2_; clear n0_ n1_ n2_; (try clear hb); (try clear hb2); (try clear hk); (try clear hi); (try clear ho0); have hcz30_0 : w29.cell? ⟨gb770, 0, none⟩ = some (.string (⟨#[]⟩ : ByteArray)) := (blk_cell BK770.out 0).trans rfl; have hcz30_1 : w29.cell? ⟨gb770, 1, none⟩ = some (.slice none 0 0) := (blk_cell BK770.out 1).trans rfl; have hcz30_2 : w29.cell? ⟨gb770, 2, none⟩ = some (.slice none 0 0) := (blk_cell BK770.out 2).trans rfl; have hfz30_0 := blk_frozen BK770.out 0; have hfz30_1 := blk_frozen BK770.out 1; have hfz30_2 := blk_frozen BK770.out 2))
  refine bodyPost_ret (results_ct rfl _ _ gb770 64 #[.string (⟨#[]⟩ : ByteArray), .slice none 0 0, .slice none 0 0] (0, 0) _ rfl (by (with_reducible repeat (first | refine blk_drewN ?_ _ | refine blk_drew ?_ | refine blk_alloc ?_ _)); refine blk_put (cs := #[.string (⟨#[]⟩ : ByteArray), .slice none 0 0, .slice none 0 0]) ?_ 2 _ rfl; (with_reducible repeat (first | refine blk_drewN ?_ _ | refine blk_drew ?_ | refine blk_alloc ?_ _)); refine blk_put (cs := #[.string (⟨#[]⟩ : ByteArray), .slice none 0 0, .slice none 0 0]) ?_ 1 _ rfl; (with_reducible repeat (first | refine blk_drewN ?_ _ | refine blk_drew ?_ | refine blk_alloc ?_ _)); refine blk_put (cs := #[.string (⟨#[]⟩ : ByteArray), .slice none 0 0, .slice none 0 0]) ?_ 0 _ rfl; (with_reducible repeat (first | refine blk_drewN ?_ _ | refine blk_drew ?_ | refine blk_alloc ?_ _)); exact BK770.out) Try.underlying64 rfl (by kernel_rfl)) rfl ?_
  exact ⟨_, _, by first | rfl | (simp [errW_none, errW_some] <;> rfl) | (simp [*, errW_none, errW_some] <;> rfl), by first | exact Kd.R_nil _ _ _ _ _ | exact Kd.N_nil _ _ _ _ _ | exact Kd.V_nil _ _ _ _ _ | exact Kd.Q_nil _ _ _ _ _ | exact Kd.S_nil _ _ _ _ _, by first | exact Kd.R_nil _ _ _ _ _ | exact Kd.N_nil _ _ _ _ _ | exact Kd.V_nil _ _ _ _ _ | exact Kd.Q_nil _ _ _ _ _ | exact Kd.S_nil _ _ _ _ _, by repeat (first | (with_reducible first | exact HB.out | apply below_alloc | apply pw_below_drewN | apply below_drew1 | refine below_set ?_ GE770.out) | exact HB.out)⟩

/-! ### mend_All: function 54 -/
--WALK
theorem al_ref_le {k : Nat} {r : Int} : ∀ (i : Nat) (out : List S64) (ref : List Int) (m : ByteArray × List Int × List Int × Int), ref.length ≤ i → (al_step i out ref m).2.length ≤ i + 1 := by
 intro i out ref m h
 unfold al_step
 dsimp only
 split
 ·rw [List.length_append, List.length_singleton]; omega
 ·omega
set_option maxHeartbeats 8000000 in
set_option maxRecDepth 100000 in
theorem al_go (k : Nat) (A0 : Option Addr) (c0 : Nat) (l0 : List ByteArray) (a1 : Int) (A2 : Option Addr) (c2 : Nat) (l2 : List (List Int)) (r1 : List S64) (r2 : List Int) (r3 : Int) (w : World) (hr0 : Kd.C Kd.string w A0 l0.length l0) (hc0 : l0.length ≤ c0) (hr2 : Kd.C (Kd.slice 3 (Kd.int .i64)) w A2 l2.length l2) (hc2 : l2.length ≤ c2)
  (hchk : reed_Check.f (wrap64 (a1 + 1)) a1 = some 0) (hll : l0.length = l2.length) (hmax : l0.length ≤ 32768) (hrun : al_run k a1 l0 l2 0 [] [] = some (r1, r2, r3)) :
  Calls Try.prog 54 #[.slice A0 l0.length c0, .int .i64 a1, .slice A2 l2.length c2] w fun e w' => ∃ v0_ v1_ : Value, e = .returned (.tuple #[v0_, v1_, .int .i64 r3]) ∧ Kd.S k64 64 w' w.heap.size (fun k_ => some k_ ≠ (v1_ : Value).ownBlock) v0_ r1 ∧ Kd.R (Kd.int .i64) 3 w' w.heap.size (fun _ => True) v1_ r2 ∧ Below w.heap.size w w' := by
 have HR0 := Aside0.mk hr0
 have HR2 := Aside0.mk hr2
 have HCK := Aside0.mk hchk
 have HLL := Aside0.mk hll
 have HMX := Aside0.mk hmax
 have HRN := Aside0.mk hrun
 have HB := Aside0.mk (Below.refl w.heap.size w)
 have hu64 := Try.underlying64
 have ht1 : ((l0.length : Int) != (l2.length : Int)) = false := bne_eq_false_iff_eq.2 (by omega)
 have ht2 : decide ((l0.length : Int) > 32768) = false := decide_eq_false (by omega)
 have ht3 : decide (32768 < (l0.length : Int)) = false := decide_eq_false (by omega)
 have ht4 : decide (32768 < l0.length) = false := decide_eq_false (by omega)
 clear hr0 hr2 hchk hll hmax hrun
 go_enter Try.func54, Try.ntmps54
 go_wp2_with (first
  | (go_at_call 34; (with_reducible refine (reed_Check.calls (wrap64 (a1 + 1)) a1 0 _ HCK.out).mono ?_); rintro e w1 ⟨rfl, ⟨nd, rfl⟩⟩; replace HB := Aside0.mk (pw_below_drewN HB.out nd)))
 have hgx : True := trivial
 clear ht1 ht2 ht3 ht4
 go_loopg [6, 7, 32] (l0.length + 1) (fun kq v6 v7 v32 w' => ∃ (i : Nat) (out : List S64) (ref : List Int) (okO okR : Nat → Prop), v32 = .int .i64 (i : Int) ∧ Aside0 (i + kq = l0.length + 1) ∧ Aside0 (out.length = i ∧ ref.length ≤ i ∧ i ≤ l0.length) ∧ Aside0 (al_run k a1 (l0.drop i) (l2.drop i) i out ref = some (r1, r2, r3)) ∧ Aside0 (Kd.S k64 64 w' w.heap.size okO v6 out) ∧ Aside0 (Kd.R (Kd.int .i64) 3 w' w.heap.size okR v7 ref) ∧ Aside0 (∀ k_, okO k_ → ¬ okR k_) ∧ Aside0 (Below w.heap.size w w'))
 case atStart => exact ⟨0, [], [], fun _ => True, fun _ => False, rfl, ⟨by omega⟩, ⟨rfl, Nat.le_refl _, Nat.zero_le _⟩, HRN, ⟨Kd.S_nil _ _ _ _ _⟩, ⟨Kd.R_nil _ _ _ _ _⟩, ⟨fun _ _ h => h⟩, HB⟩
 case round =>
  clear HB HRN
  obtain ⟨i, out, ref, okO, okR, rfl, HI, HL, HRN, HO, HR, HD, HB⟩ := hrel
  cases gk with
  | zero => have := HI.out; have := HL.out; omega
  | succ k1 =>
  by_cases hi : i < l0.length
  ·have hlt : decide (i < l0.length) = true := decide_eq_true hi
   have hlt' : decide ((i : Int) < (l0.length : Int)) = true := decide_eq_true (by omega)
   have hi2 : i < l2.length := by have := HLL.out; omega
   obtain ⟨ad0, e0, hc0⟩ := Kd.at_string HR0.out (i : Int) (by omega) (by omega)
   obtain ⟨ad2, A, c, e2, hc2', hlc, hCl⟩ := at_L9 HR2.out (i : Int) (by omega) (by omega)
   subst e0 e2
   have hs : rdOf ByteArray.empty l0 (i : Int) = l0[i] := by unfold rdOf; rw [Int.toNat_natCast, List.getD_eq_getElem?_getD, List.getElem?_eq_getElem hi]; rfl
   have hl : rd_L9 l2 (i : Int) = l2[i] := by unfold rd_L9; rw [Int.toNat_natCast, List.getD_eq_getElem?_getD, List.getElem?_eq_getElem hi2]; rfl
   rw [hs, Int.toNat_natCast] at hc0
   rw [hl] at hc2' hlc hCl
   rw [Int.toNat_natCast] at hc2'
   obtain ⟨s, hsx⟩ : ∃ s, s = l0[i] := ⟨_, rfl⟩
   obtain ⟨l, hlx⟩ : ∃ l, l = l2[i] := ⟨_, rfl⟩
   rw [← hsx] at hc0
   rw [← hlx] at hc2' hlc hCl
   have HC0 := Aside0.mk (show ∀ W : World, Below w.heap.size w W → W.cell? (ad0.add i) = some (.string s) from fun W hb => (hb.cell (World.block_lt_of_cell? w _ hc0)).trans hc0)
   have HC2 := Aside0.mk (show ∀ W : World, Below w.heap.size w W → W.cell? (ad2.add i) = some (.slice A l.length c) from fun W hb => (hb.cell (World.block_lt_of_cell? w _ hc2')).trans hc2')
   have HLC := Aside0.mk hlc
   have HCL := Aside0.mk hCl
   have hR := HRN.out
   rw [List.drop_eq_getElem_cons hi, List.drop_eq_getElem_cons hi2, ← hsx, ← hlx, al_run] at hR
   obtain ⟨⟨m1, m2, m3, m4⟩, hM, hR⟩ := Option.bind_eq_some_iff.1 hR
   have HM := Aside0.mk hM
   have HR2' := Aside0.mk hR
   have hp0 : (0 ≤ (i : Int)) = True := eq_true (by omega)
   have hp1 : ((i : Int) < (l0.length : Int)) = True := eq_true (by omega)
   have hp2 : ((i : Int) < (l2.length : Int)) = True := eq_true (by omega)
   have hp3 : (i < l0.length) = True := eq_true hi
   have hp4 : (i < l2.length) = True := eq_true hi2
   have hx0 := HC0.out wr HB.out
   have hx2 := HC2.out wr HB.out
   clear hs hl hc0 hc2' hlc hCl hR hM hsx hlx hi hi2
   have HILT := Aside0.mk (show i < l0.length from of_decide_eq_true hlt)
   by_cases h1 : m4 = 1
   ·have hb1 : (m4 == 1) = true := beq_iff_eq.2 h1
    have hend := HR2'.out
    rw [if_pos (show (m1, m2, m3, m4).2.2.2 = 1 from h1)] at hend
    simp only [Option.some.injEq, Prod.mk.injEq] at hend
    obtain ⟨rfl, rfl, rfl⟩ := hend
    have hx1 : True := trivial
    go_wp2_with (first
     | (go_at_call 51; (with_reducible refine (mend_Mend.calls k s a1 _ _ l m1 m2 m3 m4 _ (Kd.C_below HCL.out HB.out) HLC.out HM.out).mono ?_); rintro e w1 ⟨v1, v2, rfl, ho1, ho2, hb⟩; have HW1 := Aside0.mk ho1; have HW2 := Aside0.mk ho2; have HB1 := Aside0.mk hb; clear ho1 ho2 hb)
     | ((with_reducible refine gate_dst (N := 11) rfl ?_); refine box_event ?hg (N := 11) ?hd (cs := #[.string (⟨#[]⟩ : ByteArray), .slice none 0 0, .slice none 0 0]) (t := 64) ?hr ?_; (case hd => rfl); (case hg => rfl); (case hr => first | (go_simp; done) | (go_simp; rfl)); intro g11 hg11 w2 hbox hb; have BK := Aside0.mk hbox; have G11 := Aside0.mk hg11; have HB2 := Aside0.mk hb; clear hbox hg11 hb; have hcz0 : w2.cell? ⟨g11, 0, none⟩ = some (.string (⟨#[]⟩ : ByteArray)) := (blk_cell BK.out 0).trans rfl; have hcz1 : w2.cell? ⟨g11, 1, none⟩ = some (.slice none 0 0) := (blk_cell BK.out 1).trans rfl; have hcz2 : w2.cell? ⟨g11, 2, none⟩ = some (.slice none 0 0) := (blk_cell BK.out 2).trans rfl; have hfz0 := blk_frozen BK.out 0; have hfz1 := blk_frozen BK.out 1; have hfz2 := blk_frozen BK.out 2; obtain ⟨Ao1, co1, eo1⟩ := Kd.R_slice HW1.out; subst eo1; obtain ⟨Ao2, co2, eo2⟩ := Kd.R_slice HW2.out; subst eo2))
    go_ret3
    exact ⟨_, _, (by first | rfl | rw [h1]), Kd.S_nil _ _ _ _ _, Kd.R_nil _ _ _ _ _, by have hb := HB2.out; have hg := G11.out; exact below_step HB.out (below_step HB1.out (below_set (below_set (below_set hb (Nat.le_of_eq hg.symm)) (Nat.le_of_eq hg.symm)) (Nat.le_of_eq hg.symm)))⟩
   have hb1 : (m4 == 1) = false := beq_eq_false_iff_ne.2 h1
   have hend := HR2'.out
   rw [if_neg (show ¬ (m1, m2, m3, m4).2.2.2 = 1 from h1)] at hend
   have HRN1 := Aside0.mk hend
   clear hend HR2' HRN
   go_upto_region 7 with (first
    | (go_at_call 51; (with_reducible refine (mend_Mend.calls k s a1 _ _ l m1 m2 m3 m4 _ (Kd.C_below HCL.out HB.out) HLC.out HM.out).mono ?_); rintro e w1 ⟨v1, v2, rfl, ho1, ho2, hb⟩; have HW1 := Aside0.mk ho1; have HW2 := Aside0.mk ho2; have HB1 := Aside0.mk hb; clear ho1 ho2 hb)
    | ((with_reducible refine gate_dst (N := 11) rfl ?_); refine box_event ?hg (N := 11) ?hd (cs := #[.string (⟨#[]⟩ : ByteArray), .slice none 0 0, .slice none 0 0]) (t := 64) ?hr ?_; (case hd => rfl); (case hg => rfl); (case hr => first | (go_simp; done) | (go_simp; rfl)); intro g11 hg11 w2 hbox hb; have BK := Aside0.mk hbox; have G11 := Aside0.mk hg11; have HB2 := Aside0.mk hb; clear hbox hg11 hb; have hcz0 : w2.cell? ⟨g11, 0, none⟩ = some (.string (⟨#[]⟩ : ByteArray)) := (blk_cell BK.out 0).trans rfl; have hcz1 : w2.cell? ⟨g11, 1, none⟩ = some (.slice none 0 0) := (blk_cell BK.out 1).trans rfl; have hcz2 : w2.cell? ⟨g11, 2, none⟩ = some (.slice none 0 0) := (blk_cell BK.out 2).trans rfl; have hfz0 := blk_frozen BK.out 0; have hfz1 := blk_frozen BK.out 1; have hfz2 := blk_frozen BK.out 2; obtain ⟨Ao1, co1, eo1⟩ := Kd.R_slice HW1.out; subst eo1; obtain ⟨Ao2, co2, eo2⟩ := Kd.R_slice HW2.out; subst eo2))
   have hb12 : Below w1.heap.size w1 (((w2.setCell ⟨g11, 0, none⟩ (.string m1)).setCell ⟨g11, 1, none⟩ (.slice Ao1 m2.length co1)).setCell ⟨g11, 2, none⟩ (.slice Ao2 m3.length co2)) := below_set (below_set (below_set HB2.out (Nat.le_of_eq G11.out.symm)) (Nat.le_of_eq G11.out.symm)) (Nat.le_of_eq G11.out.symm)
   have BK3 := Aside0.mk (blk_put (cs' := #[.string m1, .slice Ao1 m2.length co1, .slice Ao2 m3.length co2]) (blk_put (cs' := #[.string m1, .slice Ao1 m2.length co1, .slice none 0 0]) (blk_put (cs' := #[.string m1, .slice none 0 0, .slice none 0 0]) BK.out 0 (.string m1) rfl) 1 (.slice Ao1 m2.length co1) rfl) 2 (.slice Ao2 m3.length co2) rfl)
   have HB12 := Aside0.mk hb12
   clear hb12 BK HB2 hcz0 hcz1 hcz2 hfz0 hfz1 hfz2
   generalize (((w2.setCell ⟨g11, 0, none⟩ (.string m1)).setCell ⟨g11, 1, none⟩ (.slice Ao1 m2.length co1)).setCell ⟨g11, 2, none⟩ (.slice Ao2 m3.length co2)) = w3 at *
   have HB3 := Aside0.mk (below_step HB.out (below_step HB1.out HB12.out))
   have HN1 := Aside0.mk HB1.out.size
   have HN3 := Aside0.mk HB12.out.size
   have hN0 : w.heap.size ≤ wr.heap.size := HB.out.size
   have HV1 := Aside0.mk (Kd.R_mono (ok' := fun k_ => wr.heap.size ≤ k_ ∧ k_ < w1.heap.size) (Kd.R_below (Kd.R_bound HW1.out) HB12.out) (fun _ h_ => ⟨h_.2.1, h_.2.2.1⟩))
   have HV2 := Aside0.mk (Kd.R_mono (ok' := fun k_ => wr.heap.size ≤ k_ ∧ k_ < w1.heap.size) (Kd.R_below (Kd.R_bound HW2.out) HB12.out) (fun _ h_ => ⟨h_.2.1, h_.2.2.1⟩))
   have HO3 := Aside0.mk (Kd.S_below (Kd.S_old HO.out HB1.out) HB12.out)
   have HR3 := Aside0.mk (Kd.R_below (Kd.R_old HR.out HB1.out) HB12.out)
   have HLO := Aside0.mk (Kd.S_lt HO.out)
   have HLR := Aside0.mk (Kd.R_lt HR.out)
   have HKR := Aside0.mk HR.out.1
   have HKO := Aside0.mk (Kd.S_R HO.out).1
   clear HW1 HW2 HO HR
   by_cases h9 : m4 = 9
   ·have hb9 : (m4 == 9) = true := beq_iff_eq.2 h9
    have HRN2 := Aside0.mk (show al_run k a1 (l0.drop (i + 1)) (l2.drop (i + 1)) (i + 1) (out ++ [⟨m1, m2, m3⟩]) (ref ++ [(i : Int)]) = some (r1, r2, r3) from by have h_ := HRN1.out; unfold al_step at h_; rw [if_pos h9] at h_; exact h_)
    go_upto_region 12 with (first
     | ((with_reducible refine gate_dst (N := 56) rfl ?_); refine Kd.R_append (Kd.int .i64) (w0 := w) w.heap.size rfl (.tmp 53) (.tmp 55) 60 3 (.int .i64 0) 8 rfl Try.underlying60 info3 rfl (by decide) (by omega) u7 ref (i : Int) [.int .i64 (i : Int)] (fun k_ => (okR k_ ∧ k_ < wr.heap.size) ∨ w3.heap.size ≤ k_) (fun _ => False) rfl (by first | (go_simp; done) | (go_simp; rfl)) rfl (fun _ hk => hk.elim) (fun k_ hk => .inr hk) (Kd.R_mono HR3.out (fun _ hk => .inl hk)) HB3.out HB3.out.size (by have := HL.out; have := HMX.out; omega) ?_; intro v7 w4 ho hb hg hat; have HN4 := Aside0.mk hg.size; have HB4 := Aside0.mk hb; have HR4 := Aside0.mk (Kd.R_mono (ok' := fun k_ => (okR k_ ∧ k_ < wr.heap.size) ∨ (w1.heap.size ≤ k_ ∧ k_ < w4.heap.size)) (Kd.R_bound ho) (fun k_ hk => by have := HN3.out; rcases hk.1 with h_ | h_; exact .inl h_; exact .inr ⟨by omega, hk.2.2.1⟩)); have HO4 := Aside0.mk (Kd.S_grown HO3.out hg (fun k_ hk e_ => HD.out k_ hk.1 (HKR.out k_ e_.symm))); have HV1b := Aside0.mk (Kd.R_grown HV1.out hg (fun k_ hk e_ => by have := HLR.out k_ e_.symm; omega)); have HV2b := Aside0.mk (Kd.R_grown HV2.out hg (fun k_ hk e_ => by have := HLR.out k_ e_.symm; omega)); have BK4 := Aside0.mk (blk_grown BK3.out hg (fun e_ => by have := HLR.out g11 e_.symm; have := HN1.out; have := G11.out; omega)); have hcy0 : w4.cell? ⟨g11, 0, none⟩ = some (.string m1) := (blk_cell BK4.out 0).trans rfl; have hcy1 : w4.cell? ⟨g11, 1, none⟩ = some (.slice Ao1 m2.length co1) := (blk_cell BK4.out 1).trans rfl; have hcy2 : w4.cell? ⟨g11, 2, none⟩ = some (.slice Ao2 m3.length co2) := (blk_cell BK4.out 2).trans rfl; clear ho hb hg hat HB3 HR3 HO3 HV1 HV2 BK3))
    go_wp2_with (first
     | ((with_reducible refine gate_dst (N := 60) rfl ?_); refine Kd.S_append k64 (w0 := w) w.heap.size rfl (.tmp 57) (.tmp 59) 71 64 (.agg #[(.string ⟨#[]⟩), (.slice none 0 0), (.slice none 0 0)]) 64 rfl Try.underlying71 info64 rfl (by decide) (by omega) u6 out (⟨m1, m2, m3⟩ : S64) [.string m1, .slice Ao1 m2.length co1, .slice Ao2 m3.length co2] (fun k_ => (okO k_ ∧ k_ < wr.heap.size) ∨ (wr.heap.size ≤ k_ ∧ k_ < w1.heap.size) ∨ w4.heap.size ≤ k_) (fun k_ => wr.heap.size ≤ k_ ∧ k_ < w1.heap.size) rfl (by first | (go_simp; done) | (go_simp; rfl)) (k64_mkM _ _ _ (⟨m1, m2, m3⟩ : S64) (Kd.R_lower HV1b.out hN0) (Kd.R_lower HV2b.out hN0)) (fun k_ hk => ⟨.inr (.inl hk), fun e_ => by have := HLO.out k_ e_.symm; omega⟩) (fun k_ hk => .inr (.inr hk)) (Kd.S_mono HO4.out (fun k_ hk => ⟨.inl hk, fun h_ => by have := hk.2; omega⟩)) HB4.out HB4.out.size (by have := HL.out; have := HMX.out; omega) ?_; intro v6 w5 ho hb hg hat; have HO5 := Aside0.mk ho; have HB5 := Aside0.mk hb; have HR5 := Aside0.mk (Kd.R_grown HR4.out hg (fun k_ hk e_ => by have h1 := HLO.out k_ e_.symm; have h2 := HKO.out k_ e_.symm; rcases hk with hk | hk; exact HD.out k_ h2 hk.1; have := HN1.out; omega)); clear ho hb hg hat))
    go_roundg k1
    case measure => omega
    case rel =>
     have hw : wrap64 ((i : Int) + 1) = ((i + 1 : Nat) : Int) := by have := HL.out; have := HMX.out; unfold wrap64; omega
     exact ⟨i + 1, out ++ [⟨m1, m2, m3⟩], ref ++ [(i : Int)], _, _, (by first | rfl | exact congrArg (fun y => Value.int .i64 y) hw), ⟨by have := HI.out; omega⟩, ⟨by rw [List.length_append, List.length_singleton, HL.out.1], by have := HL.out; rw [List.length_append, List.length_singleton]; omega, by have := HILT.out; omega⟩, HRN2, HO5, HR5, ⟨fun k_ h1 h2 => by have := HN1.out; have := HN3.out; have := HN4.out; rcases h1 with h1 | h1 | h1 <;> rcases h2 with h2 | h2 <;> first | exact HD.out k_ h1.1 h2.1 | omega⟩, HB5⟩
   ·have hb9 : (m4 == 9) = false := beq_eq_false_iff_ne.2 h9
    have HRN2 := Aside0.mk (show al_run k a1 (l0.drop (i + 1)) (l2.drop (i + 1)) (i + 1) (out ++ [⟨m1, m2, m3⟩]) ref = some (r1, r2, r3) from by have h_ := HRN1.out; unfold al_step at h_; rw [if_neg h9] at h_; exact h_)
    have HN4 := Aside0.mk (Nat.le_refl w3.heap.size)
    have HB4 := HB3
    have HO4 := HO3
    have HV1b := HV1
    have HV2b := HV2
    have HR4 := Aside0.mk (Kd.R_mono (ok' := fun k_ => (okR k_ ∧ k_ < wr.heap.size) ∨ (w1.heap.size ≤ k_ ∧ k_ < w3.heap.size)) HR3.out (fun _ hk => .inl hk))
    have hcy0 : w3.cell? ⟨g11, 0, none⟩ = some (.string m1) := (blk_cell BK3.out 0).trans rfl
    have hcy1 : w3.cell? ⟨g11, 1, none⟩ = some (.slice Ao1 m2.length co1) := (blk_cell BK3.out 1).trans rfl
    have hcy2 : w3.cell? ⟨g11, 2, none⟩ = some (.slice Ao2 m3.length co2) := (blk_cell BK3.out 2).trans rfl
    go_wp2_with (first
     | ((with_reducible refine gate_dst (N := 60) rfl ?_); refine Kd.S_append k64 (w0 := w) w.heap.size rfl (.tmp 57) (.tmp 59) 71 64 (.agg #[(.string ⟨#[]⟩), (.slice none 0 0), (.slice none 0 0)]) 64 rfl Try.underlying71 info64 rfl (by decide) (by omega) u6 out (⟨m1, m2, m3⟩ : S64) [.string m1, .slice Ao1 m2.length co1, .slice Ao2 m3.length co2] (fun k_ => (okO k_ ∧ k_ < wr.heap.size) ∨ (wr.heap.size ≤ k_ ∧ k_ < w1.heap.size) ∨ w3.heap.size ≤ k_) (fun k_ => wr.heap.size ≤ k_ ∧ k_ < w1.heap.size) rfl (by first | (go_simp; done) | (go_simp; rfl)) (k64_mkM _ _ _ (⟨m1, m2, m3⟩ : S64) (Kd.R_lower HV1b.out hN0) (Kd.R_lower HV2b.out hN0)) (fun k_ hk => ⟨.inr (.inl hk), fun e_ => by have := HLO.out k_ e_.symm; omega⟩) (fun k_ hk => .inr (.inr hk)) (Kd.S_mono HO4.out (fun k_ hk => ⟨.inl hk, fun h_ => by have := hk.2; omega⟩)) HB4.out HB4.out.size (by have := HL.out; have := HMX.out; omega) ?_; intro v6 w5 ho hb hg hat; have HO5 := Aside0.mk ho; have HB5 := Aside0.mk hb; have HR5 := Aside0.mk (Kd.R_grown HR4.out hg (fun k_ hk e_ => by have h1 := HLO.out k_ e_.symm; have h2 := HKO.out k_ e_.symm; rcases hk with hk | hk; exact HD.out k_ h2 hk.1; have := HN1.out; omega)); clear ho hb hg hat))
    go_roundg k1
    case measure => omega
    case rel =>
     have hw : wrap64 ((i : Int) + 1) = ((i + 1 : Nat) : Int) := by have := HL.out; have := HMX.out; unfold wrap64; omega
     exact ⟨i + 1, out ++ [⟨m1, m2, m3⟩], ref, _, _, (by first | rfl | exact congrArg (fun y => Value.int .i64 y) hw), ⟨by have := HI.out; omega⟩, ⟨by rw [List.length_append, List.length_singleton, HL.out.1], by have := HL.out; omega, by have := HILT.out; omega⟩, HRN2, HO5, HR5, ⟨fun k_ h1 h2 => by have := HN1.out; have := HN3.out; have := HN4.out; rcases h1 with h1 | h1 | h1 <;> rcases h2 with h2 | h2 <;> first | exact HD.out k_ h1.1 h2.1 | omega⟩, HB5⟩
  ·have hlt : decide (i < l0.length) = false := decide_eq_false hi
   have hlt' : decide ((i : Int) < (l0.length : Int)) = false := decide_eq_false (by omega)
   have hend := HRN.out
   rw [List.drop_eq_nil_of_le (by omega), al_run] at hend
   simp only [Option.some.injEq, Prod.mk.injEq] at hend
   obtain ⟨rfl, rfl, rfl⟩ := hend
   clear hi
   go_wp2
   go_ret3
   exact ⟨_, _, (by first | rfl | (simp [go_sem]; done)), Kd.S_mono HO.out (fun k_ hk e_ => HD.out k_ hk (HR.out.1 k_ e_.symm)), Kd.R_mono HR.out (fun _ _ => trivial), HB.out⟩
set_option maxHeartbeats 8000000 in
set_option maxRecDepth 100000 in
theorem al_no (k : Nat) (A0 : Option Addr) (c0 : Nat) (l0 : List ByteArray) (a1 : Int) (A2 : Option Addr) (c2 : Nat) (l2 : List (List Int)) (t : Int) (w : World)
  (hchk : reed_Check.f (wrap64 (a1 + 1)) a1 = some t) (hno : ¬ (t = 0 ∧ l0.length = l2.length ∧ l0.length ≤ 32768)) :
  Calls Try.prog 54 #[.slice A0 l0.length c0, .int .i64 a1, .slice A2 l2.length c2] w fun e w' => ∃ v0_ v1_ : Value, e = .returned (.tuple #[v0_, v1_, .int .i64 1]) ∧ Kd.S k64 64 w' w.heap.size (fun k_ => some k_ ≠ (v1_ : Value).ownBlock) v0_ [] ∧ Kd.R (Kd.int .i64) 3 w' w.heap.size (fun _ => True) v1_ [] ∧ Below w.heap.size w w' := by
 have HCK := Aside0.mk hchk
 clear hchk
 go_enter Try.func54, Try.ntmps54
 by_cases h0 : t = 0
 ·have hb0 : (t != 0) = false := bne_eq_false_iff_eq.2 h0
  by_cases h1 : l0.length = l2.length
  ·have ht1 : ((l0.length : Int) != (l2.length : Int)) = false := bne_eq_false_iff_eq.2 (by omega)
   have h2 : ¬ l0.length ≤ 32768 := fun h => hno ⟨h0, h1, h⟩
   have ht2 : decide ((l0.length : Int) > 32768) = true := decide_eq_true (by omega)
   have ht3 : decide (32768 < (l0.length : Int)) = true := decide_eq_true (by omega)
   have ht4 : decide (32768 < l0.length) = true := decide_eq_true (by omega)
   clear h0 h1 hno
   go_wp2_with (first
    | (go_at_call 34; (with_reducible refine (reed_Check.calls (wrap64 (a1 + 1)) a1 t _ HCK.out).mono ?_); rintro e w1 ⟨rfl, ⟨nd, rfl⟩⟩))
   go_ret3
   exact ⟨_, _, (by first | rfl | (simp [go_sem]; done)), Kd.S_nil _ _ _ _ _, Kd.R_nil _ _ _ _ _, pw_below_drewN (Below.refl _ _) _⟩
  ·have ht1 : ((l0.length : Int) != (l2.length : Int)) = true := bne_iff_ne.2 (by omega)
   clear h0 h1 hno
   go_wp2_with (first
    | (go_at_call 34; (with_reducible refine (reed_Check.calls (wrap64 (a1 + 1)) a1 t _ HCK.out).mono ?_); rintro e w1 ⟨rfl, ⟨nd, rfl⟩⟩))
   go_ret3
   exact ⟨_, _, (by first | rfl | (simp [go_sem]; done)), Kd.S_nil _ _ _ _ _, Kd.R_nil _ _ _ _ _, pw_below_drewN (Below.refl _ _) _⟩
 ·have hb0 : (t != 0) = true := bne_iff_ne.2 h0
  clear h0 hno
  go_wp2_with (first
   | (go_at_call 34; (with_reducible refine (reed_Check.calls (wrap64 (a1 + 1)) a1 t _ HCK.out).mono ?_); rintro e w1 ⟨rfl, ⟨nd, rfl⟩⟩))
  go_ret3
  exact ⟨_, _, (by first | rfl | (simp [go_sem]; done)), Kd.S_nil _ _ _ _ _, Kd.R_nil _ _ _ _ _, pw_below_drewN (Below.refl _ _) _⟩
theorem mend_All.calls (k : Nat) (A0 : Option Addr) (c0 : Nat) (l0 : List ByteArray) (a1 : Int) (A2 : Option Addr) (c2 : Nat) (l2 : List (List Int)) (r1 : List S64) (r2 : List Int) (r3 : Int) (w : World) (hr0 : Kd.C Kd.string w A0 l0.length l0) (hc0 : l0.length ≤ c0) (hr2 : Kd.C (Kd.slice 3 (Kd.int .i64)) w A2 l2.length l2) (hc2 : l2.length ≤ c2) (h : mend_All.f k l0 a1 l2 = some (r1, r2, r3)) :
  Calls Try.prog 54 #[.slice A0 l0.length c0, .int .i64 a1, .slice A2 l2.length c2] w fun e w' => ∃ v0_ v1_ : Value, e = .returned (.tuple #[v0_, v1_, .int .i64 r3]) ∧ Kd.S k64 64 w' w.heap.size (fun k_ => some k_ ≠ (v1_ : Value).ownBlock) v0_ r1 ∧ Kd.R (Kd.int .i64) 3 w' w.heap.size (fun _ => True) v1_ r2 ∧ Below w.heap.size w w' := by
 unfold mend_All.f at h
 obtain ⟨t, ht, h⟩ := Option.bind_eq_some_iff.1 h
 split at h
 ·rename_i hc
  obtain ⟨rfl, h1, h2⟩ := hc
  exact al_go k A0 c0 l0 a1 A2 c2 l2 r1 r2 r3 w hr0 hc0 hr2 hc2 ht h1 h2 h
 ·rename_i hc
  have h' := Option.some.inj h
  simp only [Prod.mk.injEq] at h'
  obtain ⟨rfl, rfl, rfl⟩ := h'
  exact al_no k A0 c0 l0 a1 A2 c2 l2 t w ht hc

/-! ### mend_Locator: function 60 -/
set_option maxHeartbeats 8000000 in
set_option maxRecDepth 100000 in
theorem mend_Locator.calls (k : Nat) (A0 : Option Addr) (c0 : Nat) (l0 : List Int) (a1 : Int) (r1 : List Int) (r2 : Int) (w : World) (hr0 : Kd.C (Kd.int .i64) w A0 l0.length l0) (hc0 : l0.length ≤ c0) (h : mend_Locator.f k l0 a1 = some (r1, r2)) :
  Calls Try.prog 60 #[.slice A0 l0.length c0, .int .i64 a1] w fun e w' => ∃ v0_ : Value, e = .returned (.tuple #[v0_, .int .i64 r2]) ∧ Kd.R (Kd.int .u8) 5 w' w.heap.size (fun _ => True) v0_ r1 ∧ Below w.heap.size w w' := by
 have HR0 := Aside0.mk hr0
 have HC0 := Aside0.mk hc0
 clear hr0 hc0
 have HB := Aside0.mk (Below.refl w.heap.size w)
 have H : (if a1 < 1 then (mend_Locator.j0 k l0 a1 true) else (mend_Locator.j0 k l0 a1 (decide (a1 > 255)))) = some (r1, r2) := h
 clear h
 have HC3 := Aside0.mk H
 clear H
 go_enter Try.func60, Try.ntmps60
 go_upto_region 1 with (fail)
 go_cut [13] (fun v13 wc => ∃ (kq : Nat) (x13_2 : Bool), v13 = .bool x13_2 ∧ Aside0 (mend_Locator.j0 kq l0 a1 x13_2 = some (r1, r2)) ∧ Aside0 (kq ≤ k) ∧ Aside0 (Below w.heap.size w wc))
 case first =>
  have H := HC3.out
  clear HC3
  by_cases c4 : a1 < 1
  ·rw [if_pos c4] at H
   have c4b0 : decide (a1 < 1) = true := decide_eq_true c4
   clear c4
   (first | rw [c4b0] | (simp only [i64_w, i32_w]; rw [c4b0]) | skip)
   have H' := Aside0.mk H
   clear H
   go_wp2
   go_meet
   case rel => exact ⟨_, (true), (by first | rfl | (simp; done) | (simp [*]; done)), H', ⟨by first | omega | exact Nat.le_refl _⟩, ⟨by repeat (first | (with_reducible first | exact HB.out | apply below_alloc | apply pw_below_drewN | apply below_drew1) | exact HB.out)⟩⟩
  ·rw [if_neg c4] at H
   have c4b0 : decide (a1 < 1) = false := decide_eq_false c4
   clear c4
   (first | rw [c4b0] | (simp only [i64_w, i32_w]; rw [c4b0]) | skip)
   have H' := Aside0.mk H
   clear H
   go_wp2
   go_meet
   case rel => exact ⟨_, (decide (a1 > 255)), (by first | rfl | (simp; done) | (simp [*]; done)), H', ⟨by first | omega | exact Nat.le_refl _⟩, ⟨by repeat (first | (with_reducible first | exact HB.out | apply below_alloc | apply pw_below_drewN | apply below_drew1) | exact HB.out)⟩⟩
 case rest =>
  clear HC3
  try clear p2
  try clear c4
  try clear c4b0
  obtain ⟨kq, x13_2, rfl, HA, HJ2, HB⟩ := hcut
  cases kq with
  | zero => exact absurd HA.out (by simp [mend_Locator.j0])
  | succ kj2 =>
   have H := HA.out
   clear HA
   simp only [mend_Locator.j0] at H
   by_cases c5 : x13_2 = true
   ·subst c5
    have H1 : (some (([] : List Int), 1)) = some (r1, r2) := by rw [if_pos rfl] at H; exact H
    clear H
    have H := H1
    clear H1
    simp only [Option.some.injEq, Prod.mk.injEq] at H
    obtain ⟨rfl, rfl⟩ := H
    go_wp2
    go_ret2
    exact ⟨_, by first | rfl | (simp [errW_none, errW_some] <;> rfl) | (simp [*, errW_none, errW_some] <;> rfl), by first | exact Kd.R_nil _ _ _ _ _ | exact Kd.N_nil _ _ _ _ _ | exact Kd.V_nil _ _ _ _ _ | exact Kd.Q_nil _ _ _ _ _ | exact Kd.S_nil _ _ _ _ _, by repeat (first | (with_reducible first | exact HB.out | apply below_alloc | apply pw_below_drewN | apply below_drew1) | exact HB.out)⟩
   ·replace c5 := Bool.eq_false_iff.mpr c5
    subst c5
    have H1 : ((mend_marked.f kj2 l0 a1).bind fun bt1109 => (if bt1109.2 = true then ((mend_locator.f kj2 l0 a1).bind fun t1113 => (some (t1113, 0))) else (some (([] : List Int), 1)))) = some (r1, r2) := by rw [if_neg (show ¬ (false = true) by decide)] at H; exact H
    clear H
    have H := H1
    clear H1
    replace H := Option.bind_eq_some_iff.mp H
    obtain ⟨⟨t1109, t1110⟩, A60, H⟩ := H
    replace H : (if t1110 = true then ((mend_locator.f kj2 l0 a1).bind fun t1113 => (some (t1113, 0))) else (some (([] : List Int), 1))) = some (r1, r2) := H
    have A6 := Aside0.mk A60
    clear A60
    by_cases c7 : t1110 = true
    ·subst c7
     have H1 : ((mend_locator.f kj2 l0 a1).bind fun t1113 => (some (t1113, 0))) = some (r1, r2) := by rw [if_pos rfl] at H; exact H
     clear H
     have H := H1
     clear H1
     replace H := Option.bind_eq_some_iff.mp H
     obtain ⟨t1113, A80, H⟩ := H
     replace H : (some (t1113, 0)) = some (r1, r2) := H
     have A8 := Aside0.mk A80
     clear A80
     simp only [Option.some.injEq, Prod.mk.injEq] at H
     obtain ⟨rfl, rfl⟩ := H
     go_wp2_with (first | ((with_reducible refine gate_callee (f := 99) rfl ?_); refine goesL_ (some 17) rfl rfl Try.func99 (by kernel_rfl) rfl #[.slice A0 l0.length c0, .int .i64 a1] rfl (by (try simp only [List.map_toArray, List.map_cons, List.map_nil]); first | done | rfl | (simp only [List.length_drop, List.length_take]; rfl)) ?_; (with_reducible refine (mend_marked.calls kj2 _ _ l0 a1 t1109 true _ ?side1 ?side2 A6.out).mono ?_); (case side1 => repeat (first | exact (Kd.C_below HR0.out HB.out) | (with_reducible refine Kd.C_alloc ?_ _) | (with_reducible refine Kd.C_drewN ?_ _) | (with_reducible refine Kd.C_drew ?_))); (case side2 => exact HC0.out); rintro e w9 ⟨v1111, rfl, ho0, hb⟩; refine ⟨_, rfl, ?_⟩; have n0_ := Aside0.mk (Kd.R_lower ho0 (below_size (by repeat (first | (with_reducible first | exact HB.out | apply below_alloc | apply pw_below_drewN | apply below_drew1) | exact HB.out)))); have n1_ := Aside0.mk (below_step (by repeat (first | (with_reducible first | exact HB.out | apply below_alloc | apply pw_below_drewN | apply below_drew1) | exact HB.out)) hb); clear HB; have HO1112 := n0_; have HB := n1_; clear n0_ n1_; (try clear hb); (try clear hb2); (try clear hk); (try clear hi); (try clear ho0)) | ((with_reducible refine gate_callee (f := 100) rfl ?_); refine goesL_ (some 24) rfl rfl Try.func100 (by kernel_rfl) rfl #[.slice A0 l0.length c0, .int .i64 a1] rfl (by (try simp only [List.map_toArray, List.map_cons, List.map_nil]); first | done | rfl | (simp only [List.length_drop, List.length_take]; rfl)) ?_; (with_reducible refine (mend_locator.calls kj2 _ _ l0 a1 t1113 _ ?side1 ?side2 A8.out).mono ?_); (case side1 => repeat (first | exact (Kd.C_below HR0.out HB.out) | (with_reducible refine Kd.C_alloc ?_ _) | (with_reducible refine Kd.C_drewN ?_ _) | (with_reducible refine Kd.C_drew ?_))); (case side2 => exact HC0.out); rintro e w10 ⟨v1114, rfl, ho0, hb⟩; refine ⟨_, rfl, ?_⟩; have n0_ := Aside0.mk (Kd.R_below (by (with_reducible repeat (first | apply Kd.R_alloc | apply Kd.R_drewN | apply Kd.R_drew)); exact HO1112.out) hb); have n1_ := Aside0.mk (Kd.R_lower ho0 (below_size (by repeat (first | (with_reducible first | exact HB.out | apply below_alloc | apply pw_below_drewN | apply below_drew1) | exact HB.out)))); have n2_ := Aside0.mk (below_step (by repeat (first | (with_reducible first | exact HB.out | apply below_alloc | apply pw_below_drewN | apply below_drew1) | exact HB.out)) hb); clear HO1112; clear HB; have HO1112 := n0_; have HO1115 := n1_; have HB := n2_; clear n0_ n1_ n2_; (try clear hb); (try clear hb2); (try clear hk); (try clear hi); (try clear ho0)))
     go_ret2
     exact ⟨_, by first | rfl | (simp [errW_none, errW_some] <;> rfl) | (simp [*, errW_none, errW_some] <;> rfl), by (with_reducible repeat (first | apply Kd.R_alloc | apply Kd.R_drewN | apply Kd.R_drew)); exact HO1115.out, by repeat (first | (with_reducible first | exact HB.out | apply below_alloc | apply pw_below_drewN | apply below_drew1) | exact HB.out)⟩
    ·replace c7 := Bool.eq_false_iff.mpr c7
     subst c7
     have H1 : (some (([] : List Int), 1)) = some (r1, r2) := by rw [if_neg (show ¬ (false = true) by decide)] at H; exact H
     clear H
     have H := H1
     clear H1
     simp only [Option.some.injEq, Prod.mk.injEq] at H
     obtain ⟨rfl, rfl⟩ := H
     go_wp2_with (first | ((with_reducible refine gate_callee (f := 99) rfl ?_); refine goesL_ (some 17) rfl rfl Try.func99 (by kernel_rfl) rfl #[.slice A0 l0.length c0, .int .i64 a1] rfl (by (try simp only [List.map_toArray, List.map_cons, List.map_nil]); first | done | rfl | (simp only [List.length_drop, List.length_take]; rfl)) ?_; (with_reducible refine (mend_marked.calls kj2 _ _ l0 a1 t1109 false _ ?side1 ?side2 A6.out).mono ?_); (case side1 => repeat (first | exact (Kd.C_below HR0.out HB.out) | (with_reducible refine Kd.C_alloc ?_ _) | (with_reducible refine Kd.C_drewN ?_ _) | (with_reducible refine Kd.C_drew ?_))); (case side2 => exact HC0.out); rintro e w11 ⟨v1111, rfl, ho0, hb⟩; refine ⟨_, rfl, ?_⟩; have n0_ := Aside0.mk (Kd.R_lower ho0 (below_size (by repeat (first | (with_reducible first | exact HB.out | apply below_alloc | apply pw_below_drewN | apply below_drew1) | exact HB.out)))); have n1_ := Aside0.mk (below_step (by repeat (first | (with_reducible first | exact HB.out | apply below_alloc | apply pw_below_drewN | apply below_drew1) | exact HB.out)) hb); clear HB; have HO1112 := n0_; have HB := n1_; clear n0_ n1_; (try clear hb); (try clear hb2); (try clear hk); (try clear hi); (try clear ho0)))
     go_ret2
     exact ⟨_, by first | rfl | (simp [errW_none, errW_some] <;> rfl) | (simp [*, errW_none, errW_some] <;> rfl), by first | exact Kd.R_nil _ _ _ _ _ | exact Kd.N_nil _ _ _ _ _ | exact Kd.V_nil _ _ _ _ _ | exact Kd.Q_nil _ _ _ _ _ | exact Kd.S_nil _ _ _ _ _, by repeat (first | (with_reducible first | exact HB.out | apply below_alloc | apply pw_below_drewN | apply below_drew1) | exact HB.out)⟩

/-! ### mend_Message: function 63 -/
--WALK
def mmB_ren : Go.Shelf.Ren := ⟨fun x => if x = 166 then 75 else if x = 240 then 101 else if x = 276 then 113 else if x = 169 then 76 else x, fun x => if x = 0 then 0 else if x = 3 then 3 else if x = 4 then 4 else if x = 5 then 5 else if x = 9 then 9 else if x = 20 then 20 else if x = 37 then 29 else if x = 70 then 95 else if x = 72 then 97 else if x = 75 then 99 else if x = 80 then 102 else if x = 127 then 129 else if x = 164 then 144 else x, fun x => x⟩
set_option maxRecDepth 100000 in
theorem mmB_l166 : Go.Proofs.Lays.n166 Try.prog mmB_ren where
 mixed := by kernel_rfl
 f166 := by kernel_rfl
 f240 := by kernel_rfl
 f276 := by kernel_rfl
 t0 := by kernel_rfl
 a0 := fun w => by kernel_rfl
 z0 := fun w => by kernel_rfl
 v0 := fun w => by kernel_rfl
 t3 := by kernel_rfl
 a3 := fun w => by kernel_rfl
 z3 := fun w => by kernel_rfl
 v3 := fun w => by kernel_rfl
 t4 := by kernel_rfl
 a4 := fun w => by kernel_rfl
 z4 := fun w => by kernel_rfl
 v4 := fun w => by kernel_rfl
 t9 := by kernel_rfl
 a9 := fun w => by kernel_rfl
 z9 := fun w => by kernel_rfl
 v9 := fun w => by kernel_rfl
 t20 := by kernel_rfl
 a20 := fun w => by kernel_rfl
 z20 := fun w => by kernel_rfl
 v20 := fun w => by kernel_rfl
 t37 := by kernel_rfl
 a37 := fun w => by kernel_rfl
 z37 := fun w => by kernel_rfl
 v37 := fun w => by kernel_rfl
 t70 := by kernel_rfl
 a70 := fun w => by kernel_rfl
 z70 := fun w => by kernel_rfl
 v70 := fun w => by kernel_rfl
 t72 := by kernel_rfl
 a72 := fun w => by kernel_rfl
 z72 := fun w => by kernel_rfl
 v72 := fun w => by kernel_rfl
 t75 := by kernel_rfl
 a75 := fun w => by kernel_rfl
 z75 := fun w => by kernel_rfl
 v75 := fun w => by kernel_rfl
 t164 := by kernel_rfl
 a164 := fun w => by kernel_rfl
 z164 := fun w => by kernel_rfl
 v164 := fun w => by kernel_rfl
set_option maxRecDepth 100000 in
theorem mmB_l169 : Go.Proofs.Lays.n169 Try.prog mmB_ren where
 mixed := by kernel_rfl
 f169 := by kernel_rfl
 t0 := by kernel_rfl
 a0 := fun w => by kernel_rfl
 z0 := fun w => by kernel_rfl
 v0 := fun w => by kernel_rfl
 t3 := by kernel_rfl
 a3 := fun w => by kernel_rfl
 z3 := fun w => by kernel_rfl
 v3 := fun w => by kernel_rfl
 t9 := by kernel_rfl
 a9 := fun w => by kernel_rfl
 z9 := fun w => by kernel_rfl
 v9 := fun w => by kernel_rfl
 t37 := by kernel_rfl
 a37 := fun w => by kernel_rfl
 z37 := fun w => by kernel_rfl
 v37 := fun w => by kernel_rfl
 t70 := by kernel_rfl
 a70 := fun w => by kernel_rfl
 z70 := fun w => by kernel_rfl
 v70 := fun w => by kernel_rfl
 t72 := by kernel_rfl
 a72 := fun w => by kernel_rfl
 z72 := fun w => by kernel_rfl
 v72 := fun w => by kernel_rfl
 t127 := by kernel_rfl
 a127 := fun w => by kernel_rfl
 z127 := fun w => by kernel_rfl
 v127 := fun w => by kernel_rfl
set_option maxRecDepth 100000 in
theorem mmB_ex : Go.Proofs.Builder.Extra Try.prog mmB_ren where
 sizeBuilder := by kernel_rfl
 liesBuilder := by kernel_rfl
 t5 := by kernel_rfl
 a5 := fun w => by kernel_rfl
 z5 := fun w => by kernel_rfl
 v5 := fun w => by kernel_rfl
 infoByte := by kernel_rfl
 cellsByte := by kernel_rfl
 sizeByte := by kernel_rfl
 neB5 := by decide
theorem mmB_write (B b : Nat) (bs : List Value) (s : ByteArray) (w : World) (h : Lib.IsBuilder 97 5 B b bs w) (hlen : bs.length + s.size ≤ 140737488355328) (hBw : B ≤ w.heap.size) :
  Calls Try.prog 75 #[.pointer (some ⟨b, 0, none⟩), .string s] w fun e w' => e = .returned (.tuple #[.int .i64 s.size, .nilIface]) ∧ (Lib.BuilderAt 97 5 B b (.pointer (some ⟨b, 0, none⟩)) (bs ++ Lib.strCells s) w' ∧ Below B w w') :=
 Go.Proofs.Any.Builder_WriteString mmB_l166 mmB_ex B b bs s w h hlen hBw
theorem mmB_string (B b : Nat) (l : List UInt8) (w : World) (h : Lib.IsBuilder 97 5 B b (Lib.byteCells l) w) (hBw : B ≤ w.heap.size) :
  Calls Try.prog 76 #[.pointer (some ⟨b, 0, none⟩)] w fun e w' => e = .returned (.string ⟨l.toArray⟩) ∧ Below B w w' :=
 Go.Proofs.Any.Builder_String_any mmB_l169 mmB_ex B b l w h hBw

theorem mmB_isB_below {T e B b : Nat} {bs : List Value} {w w1 : World} (h : Lib.IsBuilder T e B b bs w) (hb : Below w.heap.size w w1) : Lib.IsBuilder T e B b bs w1 := by
 have key : ∀ p, Lib.BuilderAt T e B b p bs w → Lib.BuilderAt T e B b p bs w1 := fun p hp => by
  have hlt := hp.lt
  obtain ⟨hB, v, hh, hown, hne⟩ := hp
  refine ⟨hB, v, (hb.block b hlt).trans hh, ?_, hne⟩
  exact pw_own_below hown hb
 exact h.elim (fun p => .inl (key _ p)) (fun p => .inr (key _ p))
theorem mmB_strCells_eq (d : ByteArray) : Lib.strCells d = Lib.byteCells d.data.toList := rfl
theorem mmB_bld_new {w : World} {gb : Nat} (h : w.heap[gb]? = some (.cells #[.pointer none, .slice none 0 0] 97 (0, 0))) : Lib.IsBuilder 97 5 gb gb [] w :=
 .inl ⟨Nat.le_refl _, .slice none 0 0, h, ⟨rfl, .inl ⟨rfl, rfl⟩⟩, by simp [Value.ownBlock]⟩
set_option maxHeartbeats 8000000 in
set_option maxRecDepth 100000 in
theorem mm_go (k : Nat) (A0 : Option Addr) (c0 : Nat) (l0 : List ByteArray) (a1 : Int) (A2 : Option Addr) (c2 : Nat) (l2 : List (List Int)) (q1 : List S64) (q2 : List Int) (q3 : Int) (r1 : ByteArray) (r2 : Int) (w : World) (hr0 : Kd.C Kd.string w A0 l0.length l0) (hc0 : l0.length ≤ c0) (hr2 : Kd.C (Kd.slice 3 (Kd.int .i64)) w A2 l2.length l2) (hc2 : l2.length ≤ c2)
  (hlen : l0.length ≤ 140737488355328) (hall : mend_All.f k l0 a1 l2 = some (q1, q2, q3)) (hend : mm_end a1 l0 (q1, q2, q3) = some (r1, r2)) :
  Calls Try.prog 63 #[.slice A0 l0.length c0, .int .i64 a1, .slice A2 l2.length c2] w fun e w' => e = .returned (.tuple #[.string r1, .int .i64 r2]) ∧ Below w.heap.size w w' := by
 have HR0 := Aside0.mk hr0
 have HC0 := Aside0.mk hc0
 have HR2 := Aside0.mk hr2
 have HC2 := Aside0.mk hc2
 have HLEN := Aside0.mk hlen
 have HAL := Aside0.mk hall
 have HEN := Aside0.mk hend
 have hu64 := Try.underlying64
 clear hr0 hc0 hr2 hc2 hlen hall hend
 go_enter Try.func63, Try.ntmps63
 by_cases h0 : q3 = 0
 ·have hb0 : (q3 != 0) = false := bne_eq_false_iff_eq.2 h0
  have hen := HEN.out
  unfold mm_end at hen
  rw [if_pos (show (q1, q2, q3).2.2 = 0 from h0)] at hen
  have HEN2 := Aside0.mk hen
  clear hen HEN h0
  go_upto_region 5 with (first
   | (go_at_call 54; (with_reducible refine (mend_All.calls k _ _ l0 a1 _ _ l2 q1 q2 q3 _ HR0.out HC0.out HR2.out HC2.out HAL.out).mono ?_); rintro e w1 ⟨v0, v1, rfl, hO, hR, hb⟩; have HO := Aside0.mk (Kd.S_reads hO); have HR := Aside0.mk (Kd.R_reads hR); have HB := Aside0.mk hb; clear hO hR hb; obtain ⟨Ar, cr, rfl, hcr, hCr⟩ := HR.out; obtain ⟨Ao, co, rfl, hco, hCo⟩ := HO.out; have HCO := Aside0.mk hCo; have HLO := Aside0.mk hco; clear HO HR hcr hCr hCo hco))
  obtain ⟨Z, hZ⟩ : ∃ Z, Z = mm_size a1 l0 0 := ⟨_, rfl⟩
  rw [← hZ] at HEN2
  have HZ := Aside0.mk hZ.symm
  clear hZ
  go_wp2
  go_loopg [11, 30] (l0.length + 1) (fun kq v11 v30 w' => ∃ (i : Nat) (z : Int), v11 = .int .i64 z ∧ v30 = .int .i64 (i : Int) ∧ Aside0 (i + kq = l0.length + 1) ∧ Aside0 (i ≤ l0.length) ∧ Aside0 (mm_size a1 (l0.drop i) z = Z) ∧ Aside0 (Below w1.heap.size w1 w'))
  case atStart => exact ⟨0, 0, rfl, rfl, ⟨by omega⟩, ⟨Nat.zero_le _⟩, HZ, ⟨Below.refl _ _⟩⟩
  case round =>
   clear HZ
   obtain ⟨i, z, rfl, rfl, HI, HIL, HZ, HBW⟩ := hrel
   cases gk with
   | zero => have := HI.out; have := HIL.out; omega
   | succ k1 =>
   by_cases hi : i < l0.length
   ·have hlt : decide (i < l0.length) = true := decide_eq_true hi
    have hlt' : decide ((i : Int) < (l0.length : Int)) = true := decide_eq_true (by omega)
    obtain ⟨ad0, e0, hc0⟩ := Kd.at_string HR0.out (i : Int) (by omega) (by omega)
    subst e0
    have hs : rdOf ByteArray.empty l0 (i : Int) = l0[i] := by unfold rdOf; rw [Int.toNat_natCast, List.getD_eq_getElem?_getD, List.getElem?_eq_getElem hi]; rfl
    rw [hs, Int.toNat_natCast] at hc0
    obtain ⟨s, hsx⟩ : ∃ s, s = l0[i] := ⟨_, rfl⟩
    rw [← hsx] at hc0
    have hz := HZ.out
    rw [List.drop_eq_getElem_cons hi, ← hsx, mm_size] at hz
    have HZ2 := Aside0.mk hz
    have HILT := Aside0.mk hi
    have hx0 : wr.cell? (ad0.add i) = some (.string s) := ((below_step HB.out HBW.out).cell (World.block_lt_of_cell? w _ hc0)).trans hc0
    have hp0 : (0 ≤ (i : Int)) = True := eq_true (by omega)
    have hp1 : ((i : Int) < (l0.length : Int)) = True := eq_true (by omega)
    have hp3 : (i < l0.length) = True := eq_true hi
    clear hs hc0 hz hsx hi HZ
    go_wp2
    go_roundg k1
    case measure => omega
    case rel =>
     have hw : wrap64 ((i : Int) + 1) = ((i + 1 : Nat) : Int) := by have := HLEN.out; have := HILT.out; unfold wrap64; omega
     exact ⟨i + 1, _, rfl, (by first | rfl | exact congrArg (fun y => Value.int .i64 y) hw), ⟨by have := HI.out; omega⟩, ⟨HILT.out⟩, HZ2, HBW⟩
   ·have hlt : decide (i < l0.length) = false := decide_eq_false hi
    have hlt' : decide ((i : Int) < (l0.length : Int)) = false := decide_eq_false (by omega)
    have hz := HZ.out
    rw [List.drop_eq_nil_of_le (by omega), mm_size] at hz
    subst hz
    clear hi
    by_cases h1 : z > 32768
    ·have ht1 : decide (z > 32768) = true := decide_eq_true h1
     have ht2 : decide (32768 < z) = true := decide_eq_true h1
     have hen := HEN2.out
     rw [if_pos h1] at hen
     simp only [Option.some.injEq, Prod.mk.injEq] at hen
     obtain ⟨rfl, rfl⟩ := hen
     clear h1
     go_wp2
     go_ret2
     exact ⟨(by first | rfl | (simp [go_sem]; done)), below_step HB.out HBW.out⟩
    ·have ht1 : decide (z > 32768) = false := decide_eq_false h1
     have ht2 : decide (32768 < z) = false := decide_eq_false h1
     have hen := HEN2.out
     rw [if_neg h1] at hen
     clear h1 HEN2
     by_cases h2 : 0 < q2.length
     ·have ht3 : decide ((q2.length : Int) > 0) = true := decide_eq_true (by omega)
      have ht4 : decide (0 < q2.length) = true := decide_eq_true h2
      have ht5 : decide (0 < (q2.length : Int)) = true := decide_eq_true (by omega)
      rw [if_pos (show 0 < (q1, q2, q3).2.1.length from h2)] at hen
      simp only [Option.some.injEq, Prod.mk.injEq] at hen
      obtain ⟨rfl, rfl⟩ := hen
      clear h2
      go_wp2
      go_ret2
      exact ⟨(by first | rfl | (simp [go_sem]; done)), below_step HB.out HBW.out⟩
     ·have ht3 : decide ((q2.length : Int) > 0) = false := decide_eq_false (by omega)
      have ht4 : decide (0 < q2.length) = false := decide_eq_false h2
      have ht5 : decide (0 < (q2.length : Int)) = false := decide_eq_false (by omega)
      rw [if_neg (show ¬ 0 < (q1, q2, q3).2.1.length from h2)] at hen
      split at hen
      ·rename_i hq
       have HQL := Aside0.mk (show q1.length ≤ 1000000 from hq)
       obtain ⟨bs, hbs, hen⟩ := Option.map_eq_some_iff.1 hen
       simp only [Prod.mk.injEq] at hen
       obtain ⟨rfl, rfl⟩ := hen
       have HBS := Aside0.mk (show mm_text a1 q1 [] = some bs from hbs)
       clear hq hbs h2
       go_wp2_with (first
        | ((with_reducible refine gate_dst (N := 14) rfl ?_); refine box_event ?hg (N := 14) ?hd (cs := #[.pointer none, .slice none 0 0]) (t := 97) ?hr ?_; (case hd => rfl); (case hg => rfl); (case hr => first | (go_simp; done) | (go_simp; rfl)); intro gb hgb w2 hbox hb; have GB := Aside0.mk (show w1.heap.size ≤ gb from by rw [hgb]; exact HBW.out.size); have HBD := Aside0.mk (mmB_bld_new hbox); have HGL := Aside0.mk (Nat.le_of_lt (blk_lt hbox)); have HB2 := Aside0.mk (below_step HBW.out hb); clear hgb hbox hb))
       clear HBW
       go_loopg [50] (q1.length + 1) (fun kq v50 w' => ∃ (i : Nat) (b : List UInt8), v50 = .int .i64 (i : Int) ∧ Aside0 (i + kq = q1.length + 1) ∧ Aside0 (i ≤ q1.length) ∧ Aside0 (mm_text a1 (q1.drop i) b = some bs) ∧ Aside0 (Lib.IsBuilder 97 5 gb gb (Lib.byteCells b) w') ∧ Aside0 (gb ≤ w'.heap.size) ∧ Aside0 (Below w1.heap.size w1 w'))
       case atStart => exact ⟨0, [], rfl, ⟨by omega⟩, ⟨Nat.zero_le _⟩, HBS, HBD, HGL, HB2⟩
       case round =>
        clear HBS HBD HGL HB2
        obtain ⟨i, b, rfl, HI, HIL, HBS, HBD, HGL, HBW⟩ := hrel
        cases gk with
        | zero => have := HI.out; have := HIL.out; omega
        | succ k2 =>
        by_cases hi : i < q1.length
        ·have hlt : decide (i < q1.length) = true := decide_eq_true hi
         have hlt' : decide ((i : Int) < (q1.length : Int)) = true := decide_eq_true (by omega)
         have HCr := Aside0.mk (Kd.C_below HCO.out HBW.out)
         obtain ⟨m, hmx⟩ : ∃ m, m = q1[i] := ⟨_, rfl⟩
         have hm : rd_T64 q1 (i : Int) = m := by unfold rd_T64; rw [Int.toNat_natCast, List.getD_eq_getElem?_getD, List.getElem?_eq_getElem hi, hmx]; rfl
         obtain ⟨ad, B1, d1, B2, d2, eA, hx0, hx1, hx2, hl1, hi1, hl2, hi2⟩ := at_T64 HCr.out (i : Int) (by omega) (by omega)
         rw [hm, Int.toNat_natCast] at hx0 hx1 hx2
         subst eA
         have hb := HBS.out
         rw [List.drop_eq_getElem_cons hi, ← hmx, mm_text] at hb
         obtain ⟨n, hnx⟩ : ∃ n, n = wrap64 ((m.f0.size : Int) - a1) := ⟨_, rfl⟩
         rw [← hnx] at hb
         split at hb
         ·rename_i hc
          have HBT := Aside0.mk hb
          have HN := Aside0.mk hnx
          have HC := Aside0.mk hc
          have HILT := Aside0.mk hi
          have hp0 : (0 ≤ (i : Int)) = True := eq_true (by omega)
          have hp1 : ((i : Int) < (q1.length : Int)) = True := eq_true (by omega)
          have hp3 : (i < q1.length) = True := eq_true hi
          have hw1 : wrap64 ((m.f0.size : Int) - a1) = n := hnx.symm
          have hv1 : IntKind.i64.wrap ((m.f0.size : Int) - a1) = n := by rw [i64_w]; exact hnx.symm
          have hn0 : (0 ≤ n) = True := eq_true hc.1
          have hn1 : (n ≤ (m.f0.size : Int)) = True := eq_true hc.2.1
          have hn2 : decide (0 ≤ n) = true := decide_eq_true hc.1
          have hn3 : decide (n ≤ (m.f0.size : Int)) = true := decide_eq_true hc.2.1
          clear hb hc hnx hmx hm hi hl1 hi1 hl2 hi2 HBS
          go_wp2_with (first
           | ((with_reducible refine gate_dst (N := 16) rfl ?_); refine box_event ?hg (N := 16) ?hd (cs := #[.string (⟨#[]⟩ : ByteArray), .slice none 0 0, .slice none 0 0]) (t := 64) ?hr ?_; (case hd => rfl); (case hg => rfl); (case hr => first | (go_simp; done) | (go_simp; rfl)); intro g16 hg16 w3 hbox hb; have BK := Aside0.mk hbox; have G16 := Aside0.mk hg16; have HB3 := Aside0.mk hb; clear hbox hg16 hb; have hcz0 : w3.cell? ⟨g16, 0, none⟩ = some (.string (⟨#[]⟩ : ByteArray)) := (blk_cell BK.out 0).trans rfl; have hcz1 : w3.cell? ⟨g16, 1, none⟩ = some (.slice none 0 0) := (blk_cell BK.out 1).trans rfl; have hcz2 : w3.cell? ⟨g16, 2, none⟩ = some (.slice none 0 0) := (blk_cell BK.out 2).trans rfl; have hfz0 := blk_frozen BK.out 0; have hfz1 := blk_frozen BK.out 1; have hfz2 := blk_frozen BK.out 2)
           | (go_at_call 75; have hb13 : Below wr.heap.size wr (((w3.setCell ⟨g16, 0, none⟩ (.string m.f0)).setCell ⟨g16, 1, none⟩ (.slice B1 m.f1.length d1)).setCell ⟨g16, 2, none⟩ (.slice B2 m.f2.length d2)) := below_set (below_set (below_set HB3.out (Nat.le_of_eq G16.out.symm)) (Nat.le_of_eq G16.out.symm)) (Nat.le_of_eq G16.out.symm); have HB13 := Aside0.mk hb13; clear hb13; (with_reducible refine (mmB_write gb gb (Lib.byteCells b) (m.f0.extract 0 n.toNat) _ (mmB_isB_below HBD.out HB13.out) (by have := HC.out.2.2; unfold Lib.byteCells; rw [List.length_map]; exact this) (Nat.le_trans HGL.out HB13.out.size)).mono ?_); rintro e w4 ⟨rfl, hba, hb⟩; have HBA := Aside0.mk hba; have HB4 := Aside0.mk ((below_step HBW.out HB13.out).trans (hb.mono GB.out)); have HGL4 := Aside0.mk (Nat.le_trans (Nat.le_trans HGL.out HB13.out.size) hb.size); clear hba hb))
          go_roundg k2
          case measure => omega
          case rel =>
           have hw : wrap64 ((i : Int) + 1) = ((i + 1 : Nat) : Int) := by have := HILT.out; have := HQL.out; unfold wrap64; omega
           have e1 : Lib.byteCells (b ++ (m.f0.extract 0 n.toNat).data.toList) = Lib.byteCells b ++ Lib.strCells (m.f0.extract 0 n.toNat) := by rw [mmB_strCells_eq]; unfold Lib.byteCells; rw [List.map_append]
           exact ⟨i + 1, _, (by first | rfl | exact congrArg (fun y => Value.int .i64 y) hw), ⟨by have := HI.out; omega⟩, ⟨HILT.out⟩, HBT, ⟨by rw [e1]; exact .inr HBA.out⟩, HGL4, HB4⟩
         ·cases hb
        ·have hlt : decide (i < q1.length) = false := decide_eq_false hi
         have hlt' : decide ((i : Int) < (q1.length : Int)) = false := decide_eq_false (by omega)
         have hb := HBS.out
         rw [List.drop_eq_nil_of_le (by omega), mm_text] at hb
         obtain rfl := Option.some.inj hb
         clear hi hb
         go_wp2_with (first
          | (go_at_call 76; (with_reducible refine (mmB_string gb gb b _ HBD.out HGL.out).mono ?_); rintro e w4 ⟨rfl, hb⟩; have HB4 := Aside0.mk (HBW.out.trans (hb.mono GB.out)); clear hb))
         go_ret2
         exact ⟨(by first | rfl | (simp [go_sem]; done)), below_step HB.out HB4.out⟩
      ·cases hen
 ·have hb0 : (q3 != 0) = true := bne_iff_ne.2 h0
  have hen := HEN.out
  unfold mm_end at hen
  rw [if_neg (show ¬ (q1, q2, q3).2.2 = 0 from h0)] at hen
  simp only [Option.some.injEq, Prod.mk.injEq] at hen
  obtain ⟨rfl, rfl⟩ := hen
  clear HEN h0
  go_wp2_with (first
   | (go_at_call 54; (with_reducible refine (mend_All.calls k _ _ l0 a1 _ _ l2 q1 q2 q3 _ HR0.out HC0.out HR2.out HC2.out HAL.out).mono ?_); rintro e w1 ⟨v0, v1, rfl, hO, hR, hb⟩; have HO := Aside0.mk (Kd.S_reads hO); have HR := Aside0.mk (Kd.R_reads hR); have HB := Aside0.mk hb; clear hO hR hb; obtain ⟨Ar, cr, rfl, hcr, hCr⟩ := HR.out; obtain ⟨Ao, co, rfl, hco, hCo⟩ := HO.out; have HCO := Aside0.mk hCo; have HLO := Aside0.mk hco; clear HO HR hcr hCr hCo hco))
  go_ret2
  exact ⟨(by first | rfl | (simp [go_sem]; done)), HB.out⟩
theorem mend_Message.calls (k : Nat) (A0 : Option Addr) (c0 : Nat) (l0 : List ByteArray) (a1 : Int) (A2 : Option Addr) (c2 : Nat) (l2 : List (List Int)) (r1 : ByteArray) (r2 : Int) (w : World) (hr0 : Kd.C Kd.string w A0 l0.length l0) (hc0 : l0.length ≤ c0) (hr2 : Kd.C (Kd.slice 3 (Kd.int .i64)) w A2 l2.length l2) (hc2 : l2.length ≤ c2) (h : mend_Message.f k l0 a1 l2 = some (r1, r2)) :
  Calls Try.prog 63 #[.slice A0 l0.length c0, .int .i64 a1, .slice A2 l2.length c2] w fun e w' => e = .returned (.tuple #[.string r1, .int .i64 r2]) ∧ Below w.heap.size w w' := by
 unfold mend_Message.f at h
 split at h
 ·rename_i hl
  obtain ⟨⟨q1, q2, q3⟩, hq, h⟩ := Option.bind_eq_some_iff.1 h
  exact mm_go k A0 c0 l0 a1 A2 c2 l2 q1 q2 q3 r1 r2 w hr0 hc0 hr2 hc2 hl hq h
 ·cases h

end Go.Proofs.Ytncoakokdajibaa.Q
