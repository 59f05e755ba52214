-- Printed by myprint.py (ours) over the kit's printer, out of the translation.
import Derived.Test.YtncoakokdajibaaMendNeverK0
import Derived.Test.YtncoakokdajibaaMendNeverF1
import Derived.Test.YtncoakokdajibaaMendNeverQ0
import Derived.Test.YtncoakokdajibaaMendNeverQ2
import Derived.Test.YtncoakokdajibaaMendNeverQ5
import Derived.Test.YtncoakokdajibaaMendNeverQ6
import Derived.Test.YtncoakokdajibaaMendNeverQ7
namespace Go.Proofs.Ytncoakokdajibaa.Q
open Go.RowKit Go.Proofs.YtncoakokdajibaaW.PrintWords Go.Proofs.YtncoakokdajibaaW.PrintLast Go.Proofs.YtncoakokdajibaaW.PrintMore
attribute [local go_sem] ArrW.ptrOf_slice unary_neg_float unary_neg_complex run_store_float run_store_complex max2_int min2_int max_two min_two max_three min_three max_four min_four   -- for this text's walks alone
set_option linter.unusedVariables false
set_option linter.unusedSimpArgs false

/-! ### foghornlaw20_MendNever: function 12 -/
set_option maxHeartbeats 8000000 in
set_option maxRecDepth 100000 in
theorem foghornlaw20_MendNever.calls (k : Nat) (a0 : ByteArray) (a1 : Int) (A2 : Option Addr) (c2 : Nat) (l2 : List Int) (a3 : ByteArray) (r : Bool) (w : World) (hr2 : Kd.C (Kd.int .i64) w A2 l2.length l2) (hc2 : l2.length ≤ c2) (h : foghornlaw20_MendNever.f k a0 a1 l2 a3 = some r) (hq_ : r = true) :
  Calls Try.prog 12 #[.string a0, .int .i64 a1, .slice A2 l2.length c2, .string a3] w fun e w' => e = .returned (.bool r) ∧ Below w.heap.size w w' := by
 have HQ_ := Aside0.mk hq_
 clear hq_
 have hu64 := Try.underlying64
 have HR2 := Aside0.mk hr2
 have HC2 := Aside0.mk hc2
 clear hr2 hc2
 have HB := Aside0.mk (Below.refl w.heap.size w)
 have H : ((foghornlaw20_awake.f k).bind fun t878 => (if t878 = true then ((mend_Mend.f k a0 a1 l2).bind fun bt879 => (if bt879.2.2.2 = 1 then (if bt879.1.toList = ([] : List UInt8) then (some ((wrap64 ((bt879.2.1.length : Int) + (bt879.2.2.1.length : Int))) == 0)) else (some false)) else (if (a3.size : Int) > 0 then (foghornlaw20_MendNever.j0 k a0 a1 l2 a3 bt879.2.2.2 (⟨#[]⟩ : ByteArray) (decide ((wrap64 ((a0.size : Int) - a1)) > 0)) bt879.1 bt879.2.1 bt879.2.2.1) else (foghornlaw20_MendNever.j0 k a0 a1 l2 a3 bt879.2.2.2 (⟨#[]⟩ : ByteArray) false bt879.1 bt879.2.1 bt879.2.2.1)))) else (some false))) = some r := h
 clear h
 replace H := Option.bind_eq_some_iff.mp H
 obtain ⟨t878, A50, H⟩ := H
 replace H : (if t878 = true then ((mend_Mend.f k a0 a1 l2).bind fun bt879 => (if bt879.2.2.2 = 1 then (if bt879.1.toList = ([] : List UInt8) then (some ((wrap64 ((bt879.2.1.length : Int) + (bt879.2.2.1.length : Int))) == 0)) else (some false)) else (if (a3.size : Int) > 0 then (foghornlaw20_MendNever.j0 k a0 a1 l2 a3 bt879.2.2.2 (⟨#[]⟩ : ByteArray) (decide ((wrap64 ((a0.size : Int) - a1)) > 0)) bt879.1 bt879.2.1 bt879.2.2.1) else (foghornlaw20_MendNever.j0 k a0 a1 l2 a3 bt879.2.2.2 (⟨#[]⟩ : ByteArray) false bt879.1 bt879.2.1 bt879.2.2.1)))) else (some false)) = some r := H
 have A5 := Aside0.mk A50
 clear A50
 by_cases c6 : t878 = true
 ·subst c6
  have H1 : ((mend_Mend.f k a0 a1 l2).bind fun bt879 => (if bt879.2.2.2 = 1 then (if bt879.1.toList = ([] : List UInt8) then (some ((wrap64 ((bt879.2.1.length : Int) + (bt879.2.2.1.length : Int))) == 0)) else (some false)) else (if (a3.size : Int) > 0 then (foghornlaw20_MendNever.j0 k a0 a1 l2 a3 bt879.2.2.2 (⟨#[]⟩ : ByteArray) (decide ((wrap64 ((a0.size : Int) - a1)) > 0)) bt879.1 bt879.2.1 bt879.2.2.1) else (foghornlaw20_MendNever.j0 k a0 a1 l2 a3 bt879.2.2.2 (⟨#[]⟩ : ByteArray) false bt879.1 bt879.2.1 bt879.2.2.1)))) = some r := by rw [if_pos rfl] at H; exact H
  clear H
  have H := H1
  clear H1
  replace H := Option.bind_eq_some_iff.mp H
  obtain ⟨⟨t879, t880, t883, t886⟩, A70, H⟩ := H
  replace H : (if t886 = 1 then (if t879.toList = ([] : List UInt8) then (some ((wrap64 ((t880.length : Int) + (t883.length : Int))) == 0)) else (some false)) else (if (a3.size : Int) > 0 then (foghornlaw20_MendNever.j0 k a0 a1 l2 a3 t886 (⟨#[]⟩ : ByteArray) (decide ((wrap64 ((a0.size : Int) - a1)) > 0)) t879 t880 t883) else (foghornlaw20_MendNever.j0 k a0 a1 l2 a3 t886 (⟨#[]⟩ : ByteArray) false t879 t880 t883))) = some r := H
  have A7 := Aside0.mk A70
  clear A70
  by_cases c8 : t886 = 1
  ·rw [if_pos c8] at H
   have c8b0 : (t886 == 1) = true := beq_iff_eq.mpr c8
   have c8b1 : (t886 != 1) = false := bne_eq_false_iff_eq.mpr c8
   clear c8
   by_cases c9 : t879.toList = ([] : List UInt8)
   ·rw [if_pos c9] at H
    have c9b0 : (t879.toList == ([] : List UInt8)) = true := beq_iff_eq.mpr c9
    have c9b1 : (t879.toList != ([] : List UInt8)) = false := bne_eq_false_iff_eq.mpr c9
    clear c9
    as_aux_lemma =>
     obtain rfl := Option.some.inj H
     go_enter Try.func12, Try.ntmps12
     go_wp2_with (first | (go_at_call 49; (with_reducible refine (foghornlaw20_awake.calls k  true _ A5.out).mono ?_); rintro e w10 ⟨rfl, hb⟩; have n0_ := Aside0.mk (below_step (by repeat (first | (with_reducible first | exact HB.out | apply below_alloc | apply pw_below_drewN | apply below_drew1) | exact HB.out)) hb); clear HB; have HB := n0_; clear n0_; (try clear hb); (try clear hb2); (try clear hk); (try clear hi)) | (go_at_call 51; (with_reducible refine (mend_Mend.calls k a0 a1 _ _ l2 t879 t880 t883 t886 _ ?side1 ?side2 A7.out).mono ?_); (case side1 => repeat (first | exact (Kd.C_below HR2.out HB.out) | (with_reducible refine Kd.C_alloc ?_ _) | (with_reducible refine Kd.C_drewN ?_ _) | (with_reducible refine Kd.C_drew ?_))); (case side2 => exact HC2.out); rintro e w11 ⟨v881, v884, rfl, ho0, ho1, hb⟩; have n0_ := Aside0.mk (Kd.R_lower ho0 (below_size (by repeat (first | (with_reducible first | exact HB.out | apply below_alloc | apply pw_below_drewN | apply below_drew1) | exact HB.out)))); have n1_ := Aside0.mk (Kd.R_lower ho1 (below_size (by repeat (first | (with_reducible first | exact HB.out | apply below_alloc | apply pw_below_drewN | apply below_drew1) | exact HB.out)))); have n2_ := Aside0.mk (below_step (by repeat (first | (with_reducible first | exact HB.out | apply below_alloc | apply pw_below_drewN | apply below_drew1) | exact HB.out)) hb); clear HB; have HO882 := n0_; have HO885 := n1_; have HB := n2_; clear n0_ n1_ n2_; (try clear hb); (try clear hb2); (try clear hk); (try clear hi); (try clear ho0); (try clear ho1)) | ((with_reducible refine gate_dst (N := 9) rfl ?_); (try (refine gate_guard (by rfl) ?_; dsimp only)); refine box_event ?hg (N := 9) ?hd (cs := #[.string (⟨#[]⟩ : ByteArray), .slice none 0 0, .slice none 0 0]) (t := 64) ?hr ?_; (case hd => rfl); (case hg => rfl); (case hr => first | (go_simp; done) | (go_simp; rfl)); intro gb887 hg w12 hbox hb; have n0_ := Aside0.mk (Kd.R_below (by (with_reducible repeat (first | apply Kd.R_alloc | apply Kd.R_drewN | apply Kd.R_drew)); exact HO882.out) hb); have n1_ := Aside0.mk (Kd.R_below (by (with_reducible repeat (first | apply Kd.R_alloc | apply Kd.R_drewN | apply Kd.R_drew)); exact HO885.out) hb); have n2_ := Aside0.mk (below_step (by repeat (first | (with_reducible first | exact HB.out | apply below_alloc | apply pw_below_drewN | apply below_drew1) | exact HB.out)) hb); have n3_ := Aside0.mk (hbox); have n4_ := Aside0.mk ((by rw [hg]; exact (below_size (by repeat (first | (with_reducible first | exact HB.out | apply below_alloc | apply pw_below_drewN | apply below_drew1) | exact HB.out))) : w.heap.size ≤ gb887)); have n5_ := Aside0.mk ((by rw [hg]; exact (below_size (by repeat (first | (with_reducible first | exact HB.out | apply below_alloc | apply pw_below_drewN | apply below_drew1) | exact HB.out))) : w.heap.size ≤ gb887)); clear HO882; clear HO885; clear HB; have HO882 := n0_; have HO885 := n1_; have HB := n2_; have BK887 := n3_; have GW887 := n4_; have GE887 := n5_; clear n0_ n1_ n2_ n3_ n4_ n5_; clear hb hbox hg; have hcz13_0 : w12.cell? ⟨gb887, 0, none⟩ = some (.string (⟨#[]⟩ : ByteArray)) := (blk_cell BK887.out 0).trans rfl; have hcz13_1 : w12.cell? ⟨gb887, 1, none⟩ = some (.slice none 0 0) := (blk_cell BK887.out 1).trans rfl; have hcz13_2 : w12.cell? ⟨gb887, 2, none⟩ = some (.slice none 0 0) := (blk_cell BK887.out 2).trans rfl; have hfz13_0 := blk_frozen BK887.out 0; have hfz13_1 := blk_frozen BK887.out 1; have hfz13_2 := blk_frozen BK887.out 2; obtain ⟨Ao14, co14, eo14⟩ := Kd.R_slice HO882.out; subst eo14; obtain ⟨Ao15, co15, eo15⟩ := Kd.R_slice HO885.out; subst eo15))
     repeat (go_quiet (first | (go_at_call 49; (with_reducible refine (foghornlaw20_awake.calls k  true _ A5.out).mono ?_); rintro e w10 ⟨rfl, hb⟩; have n0_ := Aside0.mk (below_step (by repeat (first | (with_reducible first | exact HB.out | apply below_alloc | apply pw_below_drewN | apply below_drew1) | exact HB.out)) hb); clear HB; have HB := n0_; clear n0_; (try clear hb); (try clear hb2); (try clear hk); (try clear hi)) | (go_at_call 51; (with_reducible refine (mend_Mend.calls k a0 a1 _ _ l2 t879 t880 t883 t886 _ ?side1 ?side2 A7.out).mono ?_); (case side1 => repeat (first | exact (Kd.C_below HR2.out HB.out) | (with_reducible refine Kd.C_alloc ?_ _) | (with_reducible refine Kd.C_drewN ?_ _) | (with_reducible refine Kd.C_drew ?_))); (case side2 => exact HC2.out); rintro e w11 ⟨v881, v884, rfl, ho0, ho1, hb⟩; have n0_ := Aside0.mk (Kd.R_lower ho0 (below_size (by repeat (first | (with_reducible first | exact HB.out | apply below_alloc | apply pw_below_drewN | apply below_drew1) | exact HB.out)))); have n1_ := Aside0.mk (Kd.R_lower ho1 (below_size (by repeat (first | (with_reducible first | exact HB.out | apply below_alloc | apply pw_below_drewN | apply below_drew1) | exact HB.out)))); have n2_ := Aside0.mk (below_step (by repeat (first | (with_reducible first | exact HB.out | apply below_alloc | apply pw_below_drewN | apply below_drew1) | exact HB.out)) hb); clear HB; have HO882 := n0_; have HO885 := n1_; have HB := n2_; clear n0_ n1_ n2_; (try clear hb); (try clear hb2); (try clear hk); (try clear hi); (try clear ho0); (try clear ho1)) | ((with_reducible refine gate_dst (N := 9) rfl ?_); (try (refine gate_guard (by rfl) ?_; dsimp only)); refine box_event ?hg (N := 9) ?hd (cs := #[.string (⟨#[]⟩ : ByteArray), .slice none 0 0, .slice none 0 0]) (t := 64) ?hr ?_; (case hd => rfl); (case hg => rfl); (case hr => first | (go_simp; done) | (go_simp; rfl)); intro gb887 hg w12 hbox hb; have n0_ := Aside0.mk (Kd.R_below (by (with_reducible repeat (first | apply Kd.R_alloc | apply Kd.R_drewN | apply Kd.R_drew)); exact HO882.out) hb); have n1_ := Aside0.mk (Kd.R_below (by (with_reducible repeat (first | apply Kd.R_alloc | apply Kd.R_drewN | apply Kd.R_drew)); exact HO885.out) hb); have n2_ := Aside0.mk (below_step (by repeat (first | (with_reducible first | exact HB.out | apply below_alloc | apply pw_below_drewN | apply below_drew1) | exact HB.out)) hb); have n3_ := Aside0.mk (hbox); have n4_ := Aside0.mk ((by rw [hg]; exact (below_size (by repeat (first | (with_reducible first | exact HB.out | apply below_alloc | apply pw_below_drewN | apply below_drew1) | exact HB.out))) : w.heap.size ≤ gb887)); have n5_ := Aside0.mk ((by rw [hg]; exact (below_size (by repeat (first | (with_reducible first | exact HB.out | apply below_alloc | apply pw_below_drewN | apply below_drew1) | exact HB.out))) : w.heap.size ≤ gb887)); clear HO882; clear HO885; clear HB; have HO882 := n0_; have HO885 := n1_; have HB := n2_; have BK887 := n3_; have GW887 := n4_; have GE887 := n5_; clear n0_ n1_ n2_ n3_ n4_ n5_; clear hb hbox hg; have hcz13_0 : w12.cell? ⟨gb887, 0, none⟩ = some (.string (⟨#[]⟩ : ByteArray)) := (blk_cell BK887.out 0).trans rfl; have hcz13_1 : w12.cell? ⟨gb887, 1, none⟩ = some (.slice none 0 0) := (blk_cell BK887.out 1).trans rfl; have hcz13_2 : w12.cell? ⟨gb887, 2, none⟩ = some (.slice none 0 0) := (blk_cell BK887.out 2).trans rfl; have hfz13_0 := blk_frozen BK887.out 0; have hfz13_1 := blk_frozen BK887.out 1; have hfz13_2 := blk_frozen BK887.out 2; obtain ⟨Ao14, co14, eo14⟩ := Kd.R_slice HO882.out; subst eo14; obtain ⟨Ao15, co15, eo15⟩ := Kd.R_slice HO885.out; subst eo15)); try go_wp2_with (first | (go_at_call 49; (with_reducible refine (foghornlaw20_awake.calls k  true _ A5.out).mono ?_); rintro e w10 ⟨rfl, hb⟩; have n0_ := Aside0.mk (below_step (by repeat (first | (with_reducible first | exact HB.out | apply below_alloc | apply pw_below_drewN | apply below_drew1) | exact HB.out)) hb); clear HB; have HB := n0_; clear n0_; (try clear hb); (try clear hb2); (try clear hk); (try clear hi)) | (go_at_call 51; (with_reducible refine (mend_Mend.calls k a0 a1 _ _ l2 t879 t880 t883 t886 _ ?side1 ?side2 A7.out).mono ?_); (case side1 => repeat (first | exact (Kd.C_below HR2.out HB.out) | (with_reducible refine Kd.C_alloc ?_ _) | (with_reducible refine Kd.C_drewN ?_ _) | (with_reducible refine Kd.C_drew ?_))); (case side2 => exact HC2.out); rintro e w11 ⟨v881, v884, rfl, ho0, ho1, hb⟩; have n0_ := Aside0.mk (Kd.R_lower ho0 (below_size (by repeat (first | (with_reducible first | exact HB.out | apply below_alloc | apply pw_below_drewN | apply below_drew1) | exact HB.out)))); have n1_ := Aside0.mk (Kd.R_lower ho1 (below_size (by repeat (first | (with_reducible first | exact HB.out | apply below_alloc | apply pw_below_drewN | apply below_drew1) | exact HB.out)))); have n2_ := Aside0.mk (below_step (by repeat (first | (with_reducible first | exact HB.out | apply below_alloc | apply pw_below_drewN | apply below_drew1) | exact HB.out)) hb); clear HB; have HO882 := n0_; have HO885 := n1_; have HB := n2_; clear n0_ n1_ n2_; (try clear hb); (try clear hb2); (try clear hk); (try clear hi); (try clear ho0); (try clear ho1)) | ((with_reducible refine gate_dst (N := 9) rfl ?_); (try (refine gate_guard (by rfl) ?_; dsimp only)); refine box_event ?hg (N := 9) ?hd (cs := #[.string (⟨#[]⟩ : ByteArray), .slice none 0 0, .slice none 0 0]) (t := 64) ?hr ?_; (case hd => rfl); (case hg => rfl); (case hr => first | (go_simp; done) | (go_simp; rfl)); intro gb887 hg w12 hbox hb; have n0_ := Aside0.mk (Kd.R_below (by (with_reducible repeat (first | apply Kd.R_alloc | apply Kd.R_drewN | apply Kd.R_drew)); exact HO882.out) hb); have n1_ := Aside0.mk (Kd.R_below (by (with_reducible repeat (first | apply Kd.R_alloc | apply Kd.R_drewN | apply Kd.R_drew)); exact HO885.out) hb); have n2_ := Aside0.mk (below_step (by repeat (first | (with_reducible first | exact HB.out | apply below_alloc | apply pw_below_drewN | apply below_drew1) | exact HB.out)) hb); have n3_ := Aside0.mk (hbox); have n4_ := Aside0.mk ((by rw [hg]; exact (below_size (by repeat (first | (with_reducible first | exact HB.out | apply below_alloc | apply pw_below_drewN | apply below_drew1) | exact HB.out))) : w.heap.size ≤ gb887)); have n5_ := Aside0.mk ((by rw [hg]; exact (below_size (by repeat (first | (with_reducible first | exact HB.out | apply below_alloc | apply pw_below_drewN | apply below_drew1) | exact HB.out))) : w.heap.size ≤ gb887)); clear HO882; clear HO885; clear HB; have HO882 := n0_; have HO885 := n1_; have HB := n2_; have BK887 := n3_; have GW887 := n4_; have GE887 := n5_; clear n0_ n1_ n2_ n3_ n4_ n5_; clear hb hbox hg; have hcz13_0 : w12.cell? ⟨gb887, 0, none⟩ = some (.string (⟨#[]⟩ : ByteArray)) := (blk_cell BK887.out 0).trans rfl; have hcz13_1 : w12.cell? ⟨gb887, 1, none⟩ = some (.slice none 0 0) := (blk_cell BK887.out 1).trans rfl; have hcz13_2 : w12.cell? ⟨gb887, 2, none⟩ = some (.slice none 0 0) := (blk_cell BK887.out 2).trans rfl; have hfz13_0 := blk_frozen BK887.out 0; have hfz13_1 := blk_frozen BK887.out 1; have hfz13_2 := blk_frozen BK887.out 2; obtain ⟨Ao14, co14, eo14⟩ := Kd.R_slice HO882.out; subst eo14; obtain ⟨Ao15, co15, eo15⟩ := Kd.R_slice HO885.out; subst eo15)))
     go_ret
     exact ⟨by first | rfl | (simp [errW_none, errW_some] <;> rfl) | (simp [*, errW_none, errW_some] <;> rfl), by repeat (first | (with_reducible first | exact HB.out | apply below_alloc | apply pw_below_drewN | apply below_drew1 | refine below_set ?_ GE887.out) | exact HB.out)⟩
   ·rw [if_neg c9] at H
    have c9b0 : (t879.toList == ([] : List UInt8)) = false := beq_eq_false_iff_ne.mpr c9
    have c9b1 : (t879.toList != ([] : List UInt8)) = true := bne_iff_ne.mpr c9
    as_aux_lemma =>
     exact absurd ((Option.some.inj H).trans HQ_.out) (by decide)
  ·rw [if_neg c8] at H
   have c8b0 : (t886 == 1) = false := beq_eq_false_iff_ne.mpr c8
   have c8b1 : (t886 != 1) = true := bne_iff_ne.mpr c8
   have HC16 := Aside0.mk H
   clear H
   go_enter Try.func12, Try.ntmps12
   go_upto_region 7 with (first | (go_at_call 49; (with_reducible refine (foghornlaw20_awake.calls k  true _ A5.out).mono ?_); rintro e w17 ⟨rfl, hb⟩; have n0_ := Aside0.mk (below_step (by repeat (first | (with_reducible first | exact HB.out | apply below_alloc | apply pw_below_drewN | apply below_drew1) | exact HB.out)) hb); clear HB; have HB := n0_; clear n0_; (try clear hb); (try clear hb2); (try clear hk); (try clear hi)) | (go_at_call 51; (with_reducible refine (mend_Mend.calls k a0 a1 _ _ l2 t879 t880 t883 t886 _ ?side1 ?side2 A7.out).mono ?_); (case side1 => repeat (first | exact (Kd.C_below HR2.out HB.out) | (with_reducible refine Kd.C_alloc ?_ _) | (with_reducible refine Kd.C_drewN ?_ _) | (with_reducible refine Kd.C_drew ?_))); (case side2 => exact HC2.out); rintro e w18 ⟨v881, v884, rfl, ho0, ho1, hb⟩; have n0_ := Aside0.mk (Kd.R_lower ho0 (below_size (by repeat (first | (with_reducible first | exact HB.out | apply below_alloc | apply pw_below_drewN | apply below_drew1) | exact HB.out)))); have n1_ := Aside0.mk (Kd.R_lower ho1 (below_size (by repeat (first | (with_reducible first | exact HB.out | apply below_alloc | apply pw_below_drewN | apply below_drew1) | exact HB.out)))); have n2_ := Aside0.mk (below_step (by repeat (first | (with_reducible first | exact HB.out | apply below_alloc | apply pw_below_drewN | apply below_drew1) | exact HB.out)) hb); clear HB; have HO882 := n0_; have HO885 := n1_; have HB := n2_; clear n0_ n1_ n2_; (try clear hb); (try clear hb2); (try clear hk); (try clear hi); (try clear ho0); (try clear ho1)) | ((with_reducible refine gate_dst (N := 9) rfl ?_); (try (refine gate_guard (by rfl) ?_; dsimp only)); refine box_event ?hg (N := 9) ?hd (cs := #[.string (⟨#[]⟩ : ByteArray), .slice none 0 0, .slice none 0 0]) (t := 64) ?hr ?_; (case hd => rfl); (case hg => rfl); (case hr => first | (go_simp; done) | (go_simp; rfl)); intro gb887 hg w19 hbox hb; have n0_ := Aside0.mk (Kd.R_below (by (with_reducible repeat (first | apply Kd.R_alloc | apply Kd.R_drewN | apply Kd.R_drew)); exact HO882.out) hb); have n1_ := Aside0.mk (Kd.R_below (by (with_reducible repeat (first | apply Kd.R_alloc | apply Kd.R_drewN | apply Kd.R_drew)); exact HO885.out) hb); have n2_ := Aside0.mk (below_step (by repeat (first | (with_reducible first | exact HB.out | apply below_alloc | apply pw_below_drewN | apply below_drew1) | exact HB.out)) hb); have n3_ := Aside0.mk (hbox); have n4_ := Aside0.mk ((by rw [hg]; exact (below_size (by repeat (first | (with_reducible first | exact HB.out | apply below_alloc | apply pw_below_drewN | apply below_drew1) | exact HB.out))) : w.heap.size ≤ gb887)); have n5_ := Aside0.mk ((by rw [hg]; exact (below_size (by repeat (first | (with_reducible first | exact HB.out | apply below_alloc | apply pw_below_drewN | apply below_drew1) | exact HB.out))) : w.heap.size ≤ gb887)); clear HO882; clear HO885; clear HB; have HO882 := n0_; have HO885 := n1_; have HB := n2_; have BK887 := n3_; have GW887 := n4_; have GE887 := n5_; clear n0_ n1_ n2_ n3_ n4_ n5_; clear hb hbox hg; have hcz20_0 : w19.cell? ⟨gb887, 0, none⟩ = some (.string (⟨#[]⟩ : ByteArray)) := (blk_cell BK887.out 0).trans rfl; have hcz20_1 : w19.cell? ⟨gb887, 1, none⟩ = some (.slice none 0 0) := (blk_cell BK887.out 1).trans rfl; have hcz20_2 : w19.cell? ⟨gb887, 2, none⟩ = some (.slice none 0 0) := (blk_cell BK887.out 2).trans rfl; have hfz20_0 := blk_frozen BK887.out 0; have hfz20_1 := blk_frozen BK887.out 1; have hfz20_2 := blk_frozen BK887.out 2; obtain ⟨Ao21, co21, eo21⟩ := Kd.R_slice HO882.out; subst eo21; obtain ⟨Ao22, co22, eo22⟩ := Kd.R_slice HO885.out; subst eo22))
   repeat (go_quiet (first | (go_at_call 49; (with_reducible refine (foghornlaw20_awake.calls k  true _ A5.out).mono ?_); rintro e w17 ⟨rfl, hb⟩; have n0_ := Aside0.mk (below_step (by repeat (first | (with_reducible first | exact HB.out | apply below_alloc | apply pw_below_drewN | apply below_drew1) | exact HB.out)) hb); clear HB; have HB := n0_; clear n0_; (try clear hb); (try clear hb2); (try clear hk); (try clear hi)) | (go_at_call 51; (with_reducible refine (mend_Mend.calls k a0 a1 _ _ l2 t879 t880 t883 t886 _ ?side1 ?side2 A7.out).mono ?_); (case side1 => repeat (first | exact (Kd.C_below HR2.out HB.out) | (with_reducible refine Kd.C_alloc ?_ _) | (with_reducible refine Kd.C_drewN ?_ _) | (with_reducible refine Kd.C_drew ?_))); (case side2 => exact HC2.out); rintro e w18 ⟨v881, v884, rfl, ho0, ho1, hb⟩; have n0_ := Aside0.mk (Kd.R_lower ho0 (below_size (by repeat (first | (with_reducible first | exact HB.out | apply below_alloc | apply pw_below_drewN | apply below_drew1) | exact HB.out)))); have n1_ := Aside0.mk (Kd.R_lower ho1 (below_size (by repeat (first | (with_reducible first | exact HB.out | apply below_alloc | apply pw_below_drewN | apply below_drew1) | exact HB.out)))); have n2_ := Aside0.mk (below_step (by repeat (first | (with_reducible first | exact HB.out | apply below_alloc | apply pw_below_drewN | apply below_drew1) | exact HB.out)) hb); clear HB; have HO882 := n0_; have HO885 := n1_; have HB := n2_; clear n0_ n1_ n2_; (try clear hb); (try clear hb2); (try clear hk); (try clear hi); (try clear ho0); (try clear ho1)) | ((with_reducible refine gate_dst (N := 9) rfl ?_); (try (refine gate_guard (by rfl) ?_; dsimp only)); refine box_event ?hg (N := 9) ?hd (cs := #[.string (⟨#[]⟩ : ByteArray), .slice none 0 0, .slice none 0 0]) (t := 64) ?hr ?_; (case hd => rfl); (case hg => rfl); (case hr => first | (go_simp; done) | (go_simp; rfl)); intro gb887 hg w19 hbox hb; have n0_ := Aside0.mk (Kd.R_below (by (with_reducible repeat (first | apply Kd.R_alloc | apply Kd.R_drewN | apply Kd.R_drew)); exact HO882.out) hb); have n1_ := Aside0.mk (Kd.R_below (by (with_reducible repeat (first | apply Kd.R_alloc | apply Kd.R_drewN | apply Kd.R_drew)); exact HO885.out) hb); have n2_ := Aside0.mk (below_step (by repeat (first | (with_reducible first | exact HB.out | apply below_alloc | apply pw_below_drewN | apply below_drew1) | exact HB.out)) hb); have n3_ := Aside0.mk (hbox); have n4_ := Aside0.mk ((by rw [hg]; exact (below_size (by repeat (first | (with_reducible first | exact HB.out | apply below_alloc | apply pw_below_drewN | apply below_drew1) | exact HB.out))) : w.heap.size ≤ gb887)); have n5_ := Aside0.mk ((by rw [hg]; exact (below_size (by repeat (first | (with_reducible first | exact HB.out | apply below_alloc | apply pw_below_drewN | apply below_drew1) | exact HB.out))) : w.heap.size ≤ gb887)); clear HO882; clear HO885; clear HB; have HO882 := n0_; have HO885 := n1_; have HB := n2_; have BK887 := n3_; have GW887 := n4_; have GE887 := n5_; clear n0_ n1_ n2_ n3_ n4_ n5_; clear hb hbox hg; have hcz20_0 : w19.cell? ⟨gb887, 0, none⟩ = some (.string (⟨#[]⟩ : ByteArray)) := (blk_cell BK887.out 0).trans rfl; have hcz20_1 : w19.cell? ⟨gb887, 1, none⟩ = some (.slice none 0 0) := (blk_cell BK887.out 1).trans rfl; have hcz20_2 : w19.cell? ⟨gb887, 2, none⟩ = some (.slice none 0 0) := (blk_cell BK887.out 2).trans rfl; have hfz20_0 := blk_frozen BK887.out 0; have hfz20_1 := blk_frozen BK887.out 1; have hfz20_2 := blk_frozen BK887.out 2; obtain ⟨Ao21, co21, eo21⟩ := Kd.R_slice HO882.out; subst eo21; obtain ⟨Ao22, co22, eo22⟩ := Kd.R_slice HO885.out; subst eo22)); go_upto_region 7 with (first | (go_at_call 49; (with_reducible refine (foghornlaw20_awake.calls k  true _ A5.out).mono ?_); rintro e w17 ⟨rfl, hb⟩; have n0_ := Aside0.mk (below_step (by repeat (first | (with_reducible first | exact HB.out | apply below_alloc | apply pw_below_drewN | apply below_drew1) | exact HB.out)) hb); clear HB; have HB := n0_; clear n0_; (try clear hb); (try clear hb2); (try clear hk); (try clear hi)) | (go_at_call 51; (with_reducible refine (mend_Mend.calls k a0 a1 _ _ l2 t879 t880 t883 t886 _ ?side1 ?side2 A7.out).mono ?_); (case side1 => repeat (first | exact (Kd.C_below HR2.out HB.out) | (with_reducible refine Kd.C_alloc ?_ _) | (with_reducible refine Kd.C_drewN ?_ _) | (with_reducible refine Kd.C_drew ?_))); (case side2 => exact HC2.out); rintro e w18 ⟨v881, v884, rfl, ho0, ho1, hb⟩; have n0_ := Aside0.mk (Kd.R_lower ho0 (below_size (by repeat (first | (with_reducible first | exact HB.out | apply below_alloc | apply pw_below_drewN | apply below_drew1) | exact HB.out)))); have n1_ := Aside0.mk (Kd.R_lower ho1 (below_size (by repeat (first | (with_reducible first | exact HB.out | apply below_alloc | apply pw_below_drewN | apply below_drew1) | exact HB.out)))); have n2_ := Aside0.mk (below_step (by repeat (first | (with_reducible first | exact HB.out | apply below_alloc | apply pw_below_drewN | apply below_drew1) | exact HB.out)) hb); clear HB; have HO882 := n0_; have HO885 := n1_; have HB := n2_; clear n0_ n1_ n2_; (try clear hb); (try clear hb2); (try clear hk); (try clear hi); (try clear ho0); (try clear ho1)) | ((with_reducible refine gate_dst (N := 9) rfl ?_); (try (refine gate_guard (by rfl) ?_; dsimp only)); refine box_event ?hg (N := 9) ?hd (cs := #[.string (⟨#[]⟩ : ByteArray), .slice none 0 0, .slice none 0 0]) (t := 64) ?hr ?_; (case hd => rfl); (case hg => rfl); (case hr => first | (go_simp; done) | (go_simp; rfl)); intro gb887 hg w19 hbox hb; have n0_ := Aside0.mk (Kd.R_below (by (with_reducible repeat (first | apply Kd.R_alloc | apply Kd.R_drewN | apply Kd.R_drew)); exact HO882.out) hb); have n1_ := Aside0.mk (Kd.R_below (by (with_reducible repeat (first | apply Kd.R_alloc | apply Kd.R_drewN | apply Kd.R_drew)); exact HO885.out) hb); have n2_ := Aside0.mk (below_step (by repeat (first | (with_reducible first | exact HB.out | apply below_alloc | apply pw_below_drewN | apply below_drew1) | exact HB.out)) hb); have n3_ := Aside0.mk (hbox); have n4_ := Aside0.mk ((by rw [hg]; exact (below_size (by repeat (first | (with_reducible first | exact HB.out | apply below_alloc | apply pw_below_drewN | apply below_drew1) | exact HB.out))) : w.heap.size ≤ gb887)); have n5_ := Aside0.mk ((by rw [hg]; exact (below_size (by repeat (first | (with_reducible first | exact HB.out | apply below_alloc | apply pw_below_drewN | apply below_drew1) | exact HB.out))) : w.heap.size ≤ gb887)); clear HO882; clear HO885; clear HB; have HO882 := n0_; have HO885 := n1_; have HB := n2_; have BK887 := n3_; have GW887 := n4_; have GE887 := n5_; clear n0_ n1_ n2_ n3_ n4_ n5_; clear hb hbox hg; have hcz20_0 : w19.cell? ⟨gb887, 0, none⟩ = some (.string (⟨#[]⟩ : ByteArray)) := (blk_cell BK887.out 0).trans rfl; have hcz20_1 : w19.cell? ⟨gb887, 1, none⟩ = some (.slice none 0 0) := (blk_cell BK887.out 1).trans rfl; have hcz20_2 : w19.cell? ⟨gb887, 2, none⟩ = some (.slice none 0 0) := (blk_cell BK887.out 2).trans rfl; have hfz20_0 := blk_frozen BK887.out 0; have hfz20_1 := blk_frozen BK887.out 1; have hfz20_2 := blk_frozen BK887.out 2; obtain ⟨Ao21, co21, eo21⟩ := Kd.R_slice HO882.out; subst eo21; obtain ⟨Ao22, co22, eo22⟩ := Kd.R_slice HO885.out; subst eo22)))
   (try simp only [Act.put, List.setIfInBounds_toArray, List.set_cons_zero, List.set_cons_succ])
   go_cut [57] (fun v57 wc => ∃ (kq : Nat) (x57_15 : Bool), v57 = .bool x57_15 ∧ Aside0 (foghornlaw20_MendNever.j0 kq a0 a1 l2 a3 t886 (⟨#[]⟩ : ByteArray) x57_15 t879 t880 t883 = some r) ∧ Aside0 (kq ≤ k) ∧ Aside0 (Kd.R (Kd.int .i64) 3 wc w.heap.size (fun k_ => some k_ ≠ ((.slice Ao22 t883.length co22) : Value).ownBlock) (.slice Ao21 t880.length co21) t880) ∧ Aside0 (Kd.R (Kd.int .i64) 3 wc w.heap.size (fun k_ => some k_ ≠ ((.slice Ao21 t880.length co21) : Value).ownBlock) (.slice Ao22 t883.length co22) t883) ∧ Aside0 (wc.heap[gb887]? = some (.cells #[.string t879, (.slice Ao21 t880.length co21), (.slice Ao22 t883.length co22)] 64 (0, 0))) ∧ Aside0 (Below w.heap.size w wc))
   case first =>
    have H := HC16.out
    clear HC16
    by_cases c23 : (a3.size : Int) > 0
    ·rw [if_pos c23] at H
     have c23b0 : decide (0 < (a3.size : Int)) = true := decide_eq_true c23
     have c23b1 : decide (0 < a3.size) = true := decide_eq_true (by omega)
     clear c23
     (first | rw [c23b0] | (simp only [i64_w, i32_w]; rw [c23b0]) | skip)
     as_aux_lemma =>
      have H' := Aside0.mk H
      clear H
      go_wp2
      repeat (go_quiet (fail); try go_wp2)
      go_meet
      case rel => exact ⟨_, (decide ((wrap64 ((a0.size : Int) - a1)) > 0)), (by first | rfl | (simp; done) | (simp [*]; done)), H', ⟨by first | omega | exact Nat.le_refl _⟩, ⟨by (with_reducible repeat (first | apply Kd.R_alloc | apply Kd.R_drewN | apply Kd.R_drew)); exact Kd.R_mono (Kd.R_far (p := ⟨gb887, 2, none⟩) (Kd.R_far (p := ⟨gb887, 1, none⟩) (Kd.R_far (p := ⟨gb887, 0, none⟩) (Kd.R_types HO882.out BK887.out (by decide)) (fun _ hk => hk.2) (.string t879)) (fun _ hk => hk.2) (.slice Ao21 t880.length co21)) (fun _ hk => hk.2) (.slice Ao22 t883.length co22)) (fun _ hk => hk.1)⟩, ⟨by (with_reducible repeat (first | apply Kd.R_alloc | apply Kd.R_drewN | apply Kd.R_drew)); exact Kd.R_mono (Kd.R_far (p := ⟨gb887, 2, none⟩) (Kd.R_far (p := ⟨gb887, 1, none⟩) (Kd.R_far (p := ⟨gb887, 0, none⟩) (Kd.R_types HO885.out BK887.out (by decide)) (fun _ hk => hk.2) (.string t879)) (fun _ hk => hk.2) (.slice Ao21 t880.length co21)) (fun _ hk => hk.2) (.slice Ao22 t883.length co22)) (fun _ hk => hk.1)⟩, ⟨by (with_reducible repeat (first | refine blk_drewN ?_ _ | refine blk_drew ?_ | refine blk_alloc ?_ _)); refine blk_put (cs := #[.string t879, .slice Ao21 t880.length co21, .slice none 0 0]) ?_ 2 _ rfl; (with_reducible repeat (first | refine blk_drewN ?_ _ | refine blk_drew ?_ | refine blk_alloc ?_ _)); refine blk_put (cs := #[.string t879, .slice none 0 0, .slice none 0 0]) ?_ 1 _ rfl; (with_reducible repeat (first | refine blk_drewN ?_ _ | refine blk_drew ?_ | refine blk_alloc ?_ _)); refine blk_put (cs := #[.string (⟨#[]⟩ : ByteArray), .slice none 0 0, .slice none 0 0]) ?_ 0 _ rfl; (with_reducible repeat (first | refine blk_drewN ?_ _ | refine blk_drew ?_ | refine blk_alloc ?_ _)); exact BK887.out⟩, ⟨by repeat (first | (with_reducible first | exact HB.out | apply below_alloc | apply pw_below_drewN | apply below_drew1 | refine below_set ?_ GE887.out) | exact HB.out)⟩⟩
    ·rw [if_neg c23] at H
     have c23b0 : decide (0 < (a3.size : Int)) = false := decide_eq_false c23
     have c23b1 : decide (0 < a3.size) = false := decide_eq_false (by omega)
     clear c23
     (first | rw [c23b0] | (simp only [i64_w, i32_w]; rw [c23b0]) | skip)
     as_aux_lemma =>
      have H' := Aside0.mk H
      clear H
      go_wp2
      repeat (go_quiet (fail); try go_wp2)
      go_meet
      case rel => exact ⟨_, (false), (by first | rfl | (simp; done) | (simp [*]; done)), H', ⟨by first | omega | exact Nat.le_refl _⟩, ⟨by (with_reducible repeat (first | apply Kd.R_alloc | apply Kd.R_drewN | apply Kd.R_drew)); exact Kd.R_mono (Kd.R_far (p := ⟨gb887, 2, none⟩) (Kd.R_far (p := ⟨gb887, 1, none⟩) (Kd.R_far (p := ⟨gb887, 0, none⟩) (Kd.R_types HO882.out BK887.out (by decide)) (fun _ hk => hk.2) (.string t879)) (fun _ hk => hk.2) (.slice Ao21 t880.length co21)) (fun _ hk => hk.2) (.slice Ao22 t883.length co22)) (fun _ hk => hk.1)⟩, ⟨by (with_reducible repeat (first | apply Kd.R_alloc | apply Kd.R_drewN | apply Kd.R_drew)); exact Kd.R_mono (Kd.R_far (p := ⟨gb887, 2, none⟩) (Kd.R_far (p := ⟨gb887, 1, none⟩) (Kd.R_far (p := ⟨gb887, 0, none⟩) (Kd.R_types HO885.out BK887.out (by decide)) (fun _ hk => hk.2) (.string t879)) (fun _ hk => hk.2) (.slice Ao21 t880.length co21)) (fun _ hk => hk.2) (.slice Ao22 t883.length co22)) (fun _ hk => hk.1)⟩, ⟨by (with_reducible repeat (first | refine blk_drewN ?_ _ | refine blk_drew ?_ | refine blk_alloc ?_ _)); refine blk_put (cs := #[.string t879, .slice Ao21 t880.length co21, .slice none 0 0]) ?_ 2 _ rfl; (with_reducible repeat (first | refine blk_drewN ?_ _ | refine blk_drew ?_ | refine blk_alloc ?_ _)); refine blk_put (cs := #[.string t879, .slice none 0 0, .slice none 0 0]) ?_ 1 _ rfl; (with_reducible repeat (first | refine blk_drewN ?_ _ | refine blk_drew ?_ | refine blk_alloc ?_ _)); refine blk_put (cs := #[.string (⟨#[]⟩ : ByteArray), .slice none 0 0, .slice none 0 0]) ?_ 0 _ rfl; (with_reducible repeat (first | refine blk_drewN ?_ _ | refine blk_drew ?_ | refine blk_alloc ?_ _)); exact BK887.out⟩, ⟨by repeat (first | (with_reducible first | exact HB.out | apply below_alloc | apply pw_below_drewN | apply below_drew1 | refine below_set ?_ GE887.out) | exact HB.out)⟩⟩
   case rest =>
    clear HC16
    try clear c1
    try clear c2
    try clear p2
    try clear c6
    try clear p6
    try clear c8
    try clear c8b0
    try clear c8b1
    try clear c9
    try clear c9b0
    try clear c9b1
    try clear c12
    try clear c23
    try clear c23b0
    try clear c23b1
    try clear hcz13_0
    try clear hcz13_1
    try clear hcz13_2
    try clear hcz20_0
    try clear hcz20_1
    try clear hcz20_2
    try clear hfz13_0
    try clear hfz13_1
    try clear hfz13_2
    try clear hfz20_0
    try clear hfz20_1
    try clear hfz20_2
    obtain ⟨kq, x57_15, rfl, HA, HJ15, HO_888001, HO_888002, BK887, HB⟩ := hcut
    cases kq with
    | zero => exact absurd HA.out (by simp [foghornlaw20_MendNever.j0])
    | succ kj15 =>
     have H := HA.out
     clear HA
     simp only [foghornlaw20_MendNever.j0] at H
     have HC24 := Aside0.mk H
     clear H
     go_upto_if 57 with (fail)
     repeat (go_quiet (fail); go_upto_if 57 with (fail))
     go_cut [11] (fun v11 wc => ∃ (kq : Nat) (x11_23 : ByteArray), v11 = .string x11_23 ∧ Aside0 (foghornlaw20_MendNever.j2 kq a0 a1 l2 t886 x11_23 t879 t880 t883 = some r) ∧ Aside0 (kq ≤ kj15) ∧ Aside0 (Kd.R (Kd.int .i64) 3 wc w.heap.size (fun k_ => some k_ ≠ ((.slice Ao22 t883.length co22) : Value).ownBlock) (.slice Ao21 t880.length co21) t880) ∧ Aside0 (Kd.R (Kd.int .i64) 3 wc w.heap.size (fun k_ => some k_ ≠ ((.slice Ao21 t880.length co21) : Value).ownBlock) (.slice Ao22 t883.length co22) t883) ∧ Aside0 (wc.heap[gb887]? = some (.cells #[.string t879, (.slice Ao21 t880.length co21), (.slice Ao22 t883.length co22)] 64 (0, 0))) ∧ Aside0 (Below w.heap.size w wc))
     case first =>
      have H := HC24.out
      clear HC24
      by_cases c25 : x57_15 = true
      ·subst c25
       have H1 : (foghornlaw20_MendNever.l0 kj15 a0 a1 l2 a3 t886 t879 t880 t883) = some r := by rw [if_pos rfl] at H; exact H
       clear H
       have H := H1
       clear H1
       have H' := Aside0.mk H
       clear H
       go_wp2
       repeat (go_quiet (fail); try go_wp2)
       go_loopg [3] kj15 (fun kq v3 w' => ∃ (x3_2 : ByteArray), v3 = .string x3_2 ∧ Aside0 (foghornlaw20_MendNever.l0 kq a0 a1 l2 x3_2 t886 t879 t880 t883 = some r) ∧ Aside0 (kq ≤ kj15) ∧ Aside0 (Kd.R (Kd.int .i64) 3 w' w.heap.size (fun k_ => some k_ ≠ ((.slice Ao22 t883.length co22) : Value).ownBlock) (.slice Ao21 t880.length co21) t880) ∧ Aside0 (Kd.R (Kd.int .i64) 3 w' w.heap.size (fun k_ => some k_ ≠ ((.slice Ao21 t880.length co21) : Value).ownBlock) (.slice Ao22 t883.length co22) t883) ∧ Aside0 (w'.heap[gb887]? = some (.cells #[.string t879, (.slice Ao21 t880.length co21), (.slice Ao22 t883.length co22)] 64 (0, 0))) ∧ Aside0 (Below w.heap.size w w'))
       case atStart => exact ⟨(a3), (by first | rfl | (simp; done) | (simp [*]; done)), H', ⟨Nat.le_refl _⟩, ⟨by (with_reducible repeat (first | apply Kd.R_alloc | apply Kd.R_drewN | apply Kd.R_drew)); exact HO_888001.out⟩, ⟨by (with_reducible repeat (first | apply Kd.R_alloc | apply Kd.R_drewN | apply Kd.R_drew)); exact HO_888002.out⟩, ⟨by (with_reducible repeat (first | refine blk_drewN ?_ _ | refine blk_drew ?_ | refine blk_alloc ?_ _)); exact BK887.out⟩, ⟨by repeat (first | (with_reducible first | exact HB.out | apply below_alloc | apply pw_below_drewN | apply below_drew1 | refine below_set ?_ GE887.out) | exact HB.out)⟩⟩
       case round =>
        clear H'
        try clear c1
        try clear c2
        try clear p2
        try clear c6
        try clear p6
        try clear c8
        try clear c8b0
        try clear c8b1
        try clear c9
        try clear c9b0
        try clear c9b1
        try clear c12
        try clear c23
        try clear c23b0
        try clear c23b1
        try clear c25
        try clear hcz13_0
        try clear hcz13_1
        try clear hcz13_2
        try clear hcz20_0
        try clear hcz20_1
        try clear hcz20_2
        try clear hfz13_0
        try clear hfz13_1
        try clear hfz13_2
        try clear hfz20_0
        try clear hfz20_1
        try clear hfz20_2
        try clear p2
        try clear p6
        obtain ⟨x3_2, rfl, HA, HK2, HO_888001, HO_888002, BK887, HB⟩ := hrel
        cases gk with
        | zero => exact absurd HA.out (by simp [foghornlaw20_MendNever.l0])
        | succ k2 =>
         have H := HA.out
         clear HA
         simp only [foghornlaw20_MendNever.l0] at H
         by_cases c26 : (x3_2.size : Int) < (wrap64 ((a0.size : Int) - a1))
         ·rw [if_pos c26] at H
          have c26b0 : decide ((x3_2.size : Int) < (wrap64 ((a0.size : Int) - a1))) = true := decide_eq_true c26
          clear c26
          (first | rw [c26b0] | (simp only [i64_w, i32_w]; rw [c26b0]) | skip)
          by_cases c27 : x3_2.size + x3_2.size ≤ 9223372036854775807
          ·rw [if_pos c27] at H
           have c27b0 := eq_true c27
           have c27b1 : decide (x3_2.size + x3_2.size ≤ 9223372036854775807) = true := decide_eq_true c27
           try have c27b2 : (9223372036854775807 < x3_2.size + x3_2.size) = False := eq_false (Nat.not_lt.2 c27)
           as_aux_lemma =>
            have H' := Aside0.mk H
            clear H
            go_wp2
            repeat (go_quiet (fail); try go_wp2)
            first | go_roundg k2 | (simp only [add_plain] at *; go_roundg k2)
            case measure => have := HJ15.out; have := HK2.out; omega
            case rel => exact ⟨(x3_2 ++ x3_2), (by first | rfl | (simp; done) | (simp [*]; done)), H', ⟨by have := HJ15.out; have := HK2.out; omega⟩, ⟨by (with_reducible repeat (first | apply Kd.R_alloc | apply Kd.R_drewN | apply Kd.R_drew)); exact HO_888001.out⟩, ⟨by (with_reducible repeat (first | apply Kd.R_alloc | apply Kd.R_drewN | apply Kd.R_drew)); exact HO_888002.out⟩, ⟨by (with_reducible repeat (first | refine blk_drewN ?_ _ | refine blk_drew ?_ | refine blk_alloc ?_ _)); exact BK887.out⟩, ⟨by repeat (first | (with_reducible first | exact HB.out | apply below_alloc | apply pw_below_drewN | apply below_drew1 | refine below_set ?_ GE887.out) | exact HB.out)⟩⟩
          ·rw [if_neg c27] at H
           exact absurd H (by simp)
         ·rw [if_neg c26] at H
          have c26b0 : decide ((x3_2.size : Int) < (wrap64 ((a0.size : Int) - a1))) = false := decide_eq_false c26
          clear c26
          (first | rw [c26b0] | (simp only [i64_w, i32_w]; rw [c26b0]) | skip)
          obtain ⟨ji28, hji28⟩ : ∃ j_ : Int, (wrap64 ((a0.size : Int) - a1)) = j_ := ⟨_, rfl⟩
          replace H : (if 0 ≤ (ji28) then (if (ji28) ≤ (x3_2.size : Int) then ((foghornref19_Encode.f k2 (x3_2.extract 0 ((ji28) : Int).toNat) a1).bind fun bt888 => (foghornlaw20_MendNever.j2 k2 a0 a1 l2 t886 bt888.1 t879 t880 t883)) else (none)) else (none)) = some r := by first | (rw [hji28] at H; exact H) | (simp only [hji28] at H ⊢; exact H)
          (try rw [hji28] at c26b0)
          have hji28w : (IntKind.i64.wrap ((a0.size : Int) - a1)) = ji28 := (i64_w _).trans hji28
          by_cases c29 : 0 ≤ (ji28)
          ·rw [if_pos c29] at H
           have c29b0 := eq_true c29
           have c29b1 : decide (0 ≤ (ji28)) = true := decide_eq_true c29
           clear c29
           by_cases c30 : (ji28) ≤ (x3_2.size : Int)
           ·rw [if_pos c30] at H
            have c30b0 := eq_true c30
            have c30b1 : decide ((ji28) ≤ (x3_2.size : Int)) = true := decide_eq_true c30
            clear c30
            replace H := Option.bind_eq_some_iff.mp H
            obtain ⟨⟨t888, t889⟩, A310, H⟩ := H
            replace H : (foghornlaw20_MendNever.j2 k2 a0 a1 l2 t886 t888 t879 t880 t883) = some r := H
            have A31 := Aside0.mk A310
            clear A310
            as_aux_lemma =>
             have H' := Aside0.mk H
             clear H
             go_wp2_with (first | (go_at_call 24; (with_reducible refine (foghornref19_Encode.calls k2 (x3_2.extract 0 ((ji28) : Int).toNat) a1 t888 t889 _ A31.out).mono ?_); rintro e w32 ⟨rfl, hb⟩; have n0_ := Aside0.mk (Kd.R_below (by (with_reducible repeat (first | apply Kd.R_alloc | apply Kd.R_drewN | apply Kd.R_drew)); exact HO_888001.out) hb); have n1_ := Aside0.mk (Kd.R_below (by (with_reducible repeat (first | apply Kd.R_alloc | apply Kd.R_drewN | apply Kd.R_drew)); exact HO_888002.out) hb); have n2_ := Aside0.mk (blk_below (g := gb887) (o := .cells #[.string t879, .slice Ao21 t880.length co21, .slice Ao22 t883.length co22] 64 (0, 0)) (by (with_reducible repeat (first | refine blk_drewN ?_ _ | refine blk_drew ?_ | refine blk_alloc ?_ _)); exact BK887.out) hb); have n3_ := Aside0.mk (below_step (by repeat (first | (with_reducible first | exact HB.out | apply below_alloc | apply pw_below_drewN | apply below_drew1 | refine below_set ?_ GE887.out) | exact HB.out)) hb); clear HO_888001; clear HO_888002; clear BK887; clear HB; have HO_888001 := n0_; have HO_888002 := n1_; have BK887 := n2_; have HB := n3_; clear n0_ n1_ n2_ n3_; (try clear hb); (try clear hb2); (try clear hk); (try clear hi)))
             repeat (go_quiet (first | (go_at_call 24; (with_reducible refine (foghornref19_Encode.calls k2 (x3_2.extract 0 ((ji28) : Int).toNat) a1 t888 t889 _ A31.out).mono ?_); rintro e w32 ⟨rfl, hb⟩; have n0_ := Aside0.mk (Kd.R_below (by (with_reducible repeat (first | apply Kd.R_alloc | apply Kd.R_drewN | apply Kd.R_drew)); exact HO_888001.out) hb); have n1_ := Aside0.mk (Kd.R_below (by (with_reducible repeat (first | apply Kd.R_alloc | apply Kd.R_drewN | apply Kd.R_drew)); exact HO_888002.out) hb); have n2_ := Aside0.mk (blk_below (g := gb887) (o := .cells #[.string t879, .slice Ao21 t880.length co21, .slice Ao22 t883.length co22] 64 (0, 0)) (by (with_reducible repeat (first | refine blk_drewN ?_ _ | refine blk_drew ?_ | refine blk_alloc ?_ _)); exact BK887.out) hb); have n3_ := Aside0.mk (below_step (by repeat (first | (with_reducible first | exact HB.out | apply below_alloc | apply pw_below_drewN | apply below_drew1 | refine below_set ?_ GE887.out) | exact HB.out)) hb); clear HO_888001; clear HO_888002; clear BK887; clear HB; have HO_888001 := n0_; have HO_888002 := n1_; have BK887 := n2_; have HB := n3_; clear n0_ n1_ n2_ n3_; (try clear hb); (try clear hb2); (try clear hk); (try clear hi))); try go_wp2_with (first | (go_at_call 24; (with_reducible refine (foghornref19_Encode.calls k2 (x3_2.extract 0 ((ji28) : Int).toNat) a1 t888 t889 _ A31.out).mono ?_); rintro e w32 ⟨rfl, hb⟩; have n0_ := Aside0.mk (Kd.R_below (by (with_reducible repeat (first | apply Kd.R_alloc | apply Kd.R_drewN | apply Kd.R_drew)); exact HO_888001.out) hb); have n1_ := Aside0.mk (Kd.R_below (by (with_reducible repeat (first | apply Kd.R_alloc | apply Kd.R_drewN | apply Kd.R_drew)); exact HO_888002.out) hb); have n2_ := Aside0.mk (blk_below (g := gb887) (o := .cells #[.string t879, .slice Ao21 t880.length co21, .slice Ao22 t883.length co22] 64 (0, 0)) (by (with_reducible repeat (first | refine blk_drewN ?_ _ | refine blk_drew ?_ | refine blk_alloc ?_ _)); exact BK887.out) hb); have n3_ := Aside0.mk (below_step (by repeat (first | (with_reducible first | exact HB.out | apply below_alloc | apply pw_below_drewN | apply below_drew1 | refine below_set ?_ GE887.out) | exact HB.out)) hb); clear HO_888001; clear HO_888002; clear BK887; clear HB; have HO_888001 := n0_; have HO_888002 := n1_; have BK887 := n2_; have HB := n3_; clear n0_ n1_ n2_ n3_; (try clear hb); (try clear hb2); (try clear hk); (try clear hi))))
             (try subst hji28)
             go_meet
             case rel => exact ⟨_, (t888), (by first | rfl | (simp; done) | (simp [*]; done)), H', ⟨by have := HJ15.out; have := HK2.out; first | omega | exact Nat.le_refl _⟩, ⟨by (with_reducible repeat (first | apply Kd.R_alloc | apply Kd.R_drewN | apply Kd.R_drew)); exact HO_888001.out⟩, ⟨by (with_reducible repeat (first | apply Kd.R_alloc | apply Kd.R_drewN | apply Kd.R_drew)); exact HO_888002.out⟩, ⟨by (with_reducible repeat (first | refine blk_drewN ?_ _ | refine blk_drew ?_ | refine blk_alloc ?_ _)); exact BK887.out⟩, ⟨by repeat (first | (with_reducible first | exact HB.out | apply below_alloc | apply pw_below_drewN | apply below_drew1 | refine below_set ?_ GE887.out) | exact HB.out)⟩⟩
           ·rw [if_neg c30] at H
            exact absurd H (by simp)
          ·rw [if_neg c29] at H
           exact absurd H (by simp)
      ·replace c25 := Bool.eq_false_iff.mpr c25
       subst c25
       have H1 : (foghornlaw20_MendNever.j2 kj15 a0 a1 l2 t886 (⟨#[]⟩ : ByteArray) t879 t880 t883) = some r := by rw [if_neg (show ¬ (false = true) by decide)] at H; exact H
       clear H
       have H := H1
       clear H1
       as_aux_lemma =>
        have H' := Aside0.mk H
        clear H
        go_wp2
        repeat (go_quiet (fail); try go_wp2)
        go_meet
        case rel => exact ⟨_, ((⟨#[]⟩ : ByteArray)), (by first | rfl | (simp; done) | (simp [*]; done)), H', ⟨by have := HJ15.out; first | omega | exact Nat.le_refl _⟩, ⟨by (with_reducible repeat (first | apply Kd.R_alloc | apply Kd.R_drewN | apply Kd.R_drew)); exact HO_888001.out⟩, ⟨by (with_reducible repeat (first | apply Kd.R_alloc | apply Kd.R_drewN | apply Kd.R_drew)); exact HO_888002.out⟩, ⟨by (with_reducible repeat (first | refine blk_drewN ?_ _ | refine blk_drew ?_ | refine blk_alloc ?_ _)); exact BK887.out⟩, ⟨by repeat (first | (with_reducible first | exact HB.out | apply below_alloc | apply pw_below_drewN | apply below_drew1 | refine below_set ?_ GE887.out) | exact HB.out)⟩⟩
     case rest =>
      clear HC24
      try clear c1
      try clear c2
      try clear p2
      try clear c3
      try clear c6
      try clear p6
      try clear c8
      try clear c8b0
      try clear c8b1
      try clear c9
      try clear c9b0
      try clear c9b1
      try clear c12
      try clear c23
      try clear c23b0
      try clear c23b1
      try clear c25
      try clear c26
      try clear c26b0
      try clear c27
      try clear c27b0
      try clear c27b1
      try clear c27b2
      try clear c29
      try clear c29b0
      try clear c29b1
      try clear c30
      try clear c30b0
      try clear c30b1
      try clear hcz13_0
      try clear hcz13_1
      try clear hcz13_2
      try clear hcz20_0
      try clear hcz20_1
      try clear hcz20_2
      try clear hfz13_0
      try clear hfz13_1
      try clear hfz13_2
      try clear hfz20_0
      try clear hfz20_1
      try clear hfz20_2
      try clear p2
      try clear p6
      obtain ⟨kq, x11_23, rfl, HA, HJ23, HO_888001, HO_888002, BK887, HB⟩ := hcut
      cases kq with
      | zero => exact absurd HA.out (by simp [foghornlaw20_MendNever.j2])
      | succ kj23 =>
       have H := HA.out
       clear HA
       simp only [foghornlaw20_MendNever.j2] at H
       replace H := Option.bind_eq_some_iff.mp H
       obtain ⟨⟨t890, t891⟩, A330, H⟩ := H
       replace H : (if x11_23.toList = ([] : List UInt8) then (foghornlaw20_MendNever.j3 kj23 a0 a1 l2 t886 x11_23 t890 false t879 t880 t883) else (foghornlaw20_MendNever.j3 kj23 a0 a1 l2 t886 x11_23 t890 (t891 != 0) t879 t880 t883)) = some r := H
       have A33 := Aside0.mk A330
       clear A330
       have HC34 := Aside0.mk H
       clear H
       go_upto_region 12 with (first | (go_at_call 53; (with_reducible refine (mend_Within.calls kj23 a0 x11_23 a1 _ _ l2 t890 t891 _ ?side1 ?side2 A33.out).mono ?_); (case side1 => repeat (first | exact (Kd.C_below HR2.out HB.out) | (with_reducible refine Kd.C_alloc ?_ _) | (with_reducible refine Kd.C_drewN ?_ _) | (with_reducible refine Kd.C_drew ?_))); (case side2 => exact HC2.out); rintro e w35 ⟨rfl, hb⟩; have n0_ := Aside0.mk (Kd.R_below (by (with_reducible repeat (first | apply Kd.R_alloc | apply Kd.R_drewN | apply Kd.R_drew)); exact HO_888001.out) hb); have n1_ := Aside0.mk (Kd.R_below (by (with_reducible repeat (first | apply Kd.R_alloc | apply Kd.R_drewN | apply Kd.R_drew)); exact HO_888002.out) hb); have n2_ := Aside0.mk (blk_below (g := gb887) (o := .cells #[.string t879, .slice Ao21 t880.length co21, .slice Ao22 t883.length co22] 64 (0, 0)) (by (with_reducible repeat (first | refine blk_drewN ?_ _ | refine blk_drew ?_ | refine blk_alloc ?_ _)); exact BK887.out) hb); have n3_ := Aside0.mk (below_step (by repeat (first | (with_reducible first | exact HB.out | apply below_alloc | apply pw_below_drewN | apply below_drew1 | refine below_set ?_ GE887.out) | exact HB.out)) hb); clear HO_888001; clear HO_888002; clear BK887; clear HB; have HO_888001 := n0_; have HO_888002 := n1_; have BK887 := n2_; have HB := n3_; clear n0_ n1_ n2_ n3_; (try clear hb); (try clear hb2); (try clear hk); (try clear hi)))
       repeat (go_quiet (first | (go_at_call 53; (with_reducible refine (mend_Within.calls kj23 a0 x11_23 a1 _ _ l2 t890 t891 _ ?side1 ?side2 A33.out).mono ?_); (case side1 => repeat (first | exact (Kd.C_below HR2.out HB.out) | (with_reducible refine Kd.C_alloc ?_ _) | (with_reducible refine Kd.C_drewN ?_ _) | (with_reducible refine Kd.C_drew ?_))); (case side2 => exact HC2.out); rintro e w35 ⟨rfl, hb⟩; have n0_ := Aside0.mk (Kd.R_below (by (with_reducible repeat (first | apply Kd.R_alloc | apply Kd.R_drewN | apply Kd.R_drew)); exact HO_888001.out) hb); have n1_ := Aside0.mk (Kd.R_below (by (with_reducible repeat (first | apply Kd.R_alloc | apply Kd.R_drewN | apply Kd.R_drew)); exact HO_888002.out) hb); have n2_ := Aside0.mk (blk_below (g := gb887) (o := .cells #[.string t879, .slice Ao21 t880.length co21, .slice Ao22 t883.length co22] 64 (0, 0)) (by (with_reducible repeat (first | refine blk_drewN ?_ _ | refine blk_drew ?_ | refine blk_alloc ?_ _)); exact BK887.out) hb); have n3_ := Aside0.mk (below_step (by repeat (first | (with_reducible first | exact HB.out | apply below_alloc | apply pw_below_drewN | apply below_drew1 | refine below_set ?_ GE887.out) | exact HB.out)) hb); clear HO_888001; clear HO_888002; clear BK887; clear HB; have HO_888001 := n0_; have HO_888002 := n1_; have BK887 := n2_; have HB := n3_; clear n0_ n1_ n2_ n3_; (try clear hb); (try clear hb2); (try clear hk); (try clear hi))); go_upto_region 12 with (first | (go_at_call 53; (with_reducible refine (mend_Within.calls kj23 a0 x11_23 a1 _ _ l2 t890 t891 _ ?side1 ?side2 A33.out).mono ?_); (case side1 => repeat (first | exact (Kd.C_below HR2.out HB.out) | (with_reducible refine Kd.C_alloc ?_ _) | (with_reducible refine Kd.C_drewN ?_ _) | (with_reducible refine Kd.C_drew ?_))); (case side2 => exact HC2.out); rintro e w35 ⟨rfl, hb⟩; have n0_ := Aside0.mk (Kd.R_below (by (with_reducible repeat (first | apply Kd.R_alloc | apply Kd.R_drewN | apply Kd.R_drew)); exact HO_888001.out) hb); have n1_ := Aside0.mk (Kd.R_below (by (with_reducible repeat (first | apply Kd.R_alloc | apply Kd.R_drewN | apply Kd.R_drew)); exact HO_888002.out) hb); have n2_ := Aside0.mk (blk_below (g := gb887) (o := .cells #[.string t879, .slice Ao21 t880.length co21, .slice Ao22 t883.length co22] 64 (0, 0)) (by (with_reducible repeat (first | refine blk_drewN ?_ _ | refine blk_drew ?_ | refine blk_alloc ?_ _)); exact BK887.out) hb); have n3_ := Aside0.mk (below_step (by repeat (first | (with_reducible first | exact HB.out | apply below_alloc | apply pw_below_drewN | apply below_drew1 | refine below_set ?_ GE887.out) | exact HB.out)) hb); clear HO_888001; clear HO_888002; clear BK887; clear HB; have HO_888001 := n0_; have HO_888002 := n1_; have BK887 := n2_; have HB := n3_; clear n0_ n1_ n2_ n3_; (try clear hb); (try clear hb2); (try clear hk); (try clear hi))))
       (try simp only [Act.put, List.setIfInBounds_toArray, List.set_cons_zero, List.set_cons_succ])
       go_cut [92] (fun v92 wc => ∃ (kq : Nat) (x92_33 : Bool), v92 = .bool x92_33 ∧ Aside0 (foghornlaw20_MendNever.j3 kq a0 a1 l2 t886 x11_23 t890 x92_33 t879 t880 t883 = some r) ∧ Aside0 (kq ≤ kj23) ∧ Aside0 (Kd.R (Kd.int .i64) 3 wc w.heap.size (fun k_ => some k_ ≠ ((.slice Ao22 t883.length co22) : Value).ownBlock) (.slice Ao21 t880.length co21) t880) ∧ Aside0 (Kd.R (Kd.int .i64) 3 wc w.heap.size (fun k_ => some k_ ≠ ((.slice Ao21 t880.length co21) : Value).ownBlock) (.slice Ao22 t883.length co22) t883) ∧ Aside0 (wc.heap[gb887]? = some (.cells #[.string t879, (.slice Ao21 t880.length co21), (.slice Ao22 t883.length co22)] 64 (0, 0))) ∧ Aside0 (Below w.heap.size w wc))
       case first =>
        have H := HC34.out
        clear HC34
        by_cases c36 : x11_23.toList = ([] : List UInt8)
        ·rw [if_pos c36] at H
         have c36b0 : (x11_23.toList == ([] : List UInt8)) = true := beq_iff_eq.mpr c36
         have c36b1 : (x11_23.toList != ([] : List UInt8)) = false := bne_eq_false_iff_eq.mpr c36
         clear c36
         (first | rw [c36b0] | (simp only [i64_w, i32_w]; rw [c36b0]) | skip)
         as_aux_lemma =>
          have H' := Aside0.mk H
          clear H
          go_wp2
          repeat (go_quiet (fail); try go_wp2)
          go_meet
          case rel => exact ⟨_, (false), (by first | rfl | (simp; done) | (simp [*]; done)), H', ⟨by have := HJ15.out; have := HJ23.out; first | omega | exact Nat.le_refl _⟩, ⟨by (with_reducible repeat (first | apply Kd.R_alloc | apply Kd.R_drewN | apply Kd.R_drew)); exact HO_888001.out⟩, ⟨by (with_reducible repeat (first | apply Kd.R_alloc | apply Kd.R_drewN | apply Kd.R_drew)); exact HO_888002.out⟩, ⟨by (with_reducible repeat (first | refine blk_drewN ?_ _ | refine blk_drew ?_ | refine blk_alloc ?_ _)); exact BK887.out⟩, ⟨by repeat (first | (with_reducible first | exact HB.out | apply below_alloc | apply pw_below_drewN | apply below_drew1 | refine below_set ?_ GE887.out) | exact HB.out)⟩⟩
        ·rw [if_neg c36] at H
         have c36b0 : (x11_23.toList == ([] : List UInt8)) = false := beq_eq_false_iff_ne.mpr c36
         have c36b1 : (x11_23.toList != ([] : List UInt8)) = true := bne_iff_ne.mpr c36
         (first | rw [c36b0] | (simp only [i64_w, i32_w]; rw [c36b0]) | skip)
         as_aux_lemma =>
          have H' := Aside0.mk H
          clear H
          go_wp2
          repeat (go_quiet (fail); try go_wp2)
          go_meet
          case rel => exact ⟨_, ((t891 != 0)), (by first | rfl | (simp; done) | (simp [*]; done)), H', ⟨by have := HJ15.out; have := HJ23.out; first | omega | exact Nat.le_refl _⟩, ⟨by (with_reducible repeat (first | apply Kd.R_alloc | apply Kd.R_drewN | apply Kd.R_drew)); exact HO_888001.out⟩, ⟨by (with_reducible repeat (first | apply Kd.R_alloc | apply Kd.R_drewN | apply Kd.R_drew)); exact HO_888002.out⟩, ⟨by (with_reducible repeat (first | refine blk_drewN ?_ _ | refine blk_drew ?_ | refine blk_alloc ?_ _)); exact BK887.out⟩, ⟨by repeat (first | (with_reducible first | exact HB.out | apply below_alloc | apply pw_below_drewN | apply below_drew1 | refine below_set ?_ GE887.out) | exact HB.out)⟩⟩
       case rest =>
        clear HC34
        try clear c1
        try clear c2
        try clear p2
        try clear c3
        try clear c6
        try clear p6
        try clear c8
        try clear c8b0
        try clear c8b1
        try clear c9
        try clear c9b0
        try clear c9b1
        try clear c12
        try clear c23
        try clear c23b0
        try clear c23b1
        try clear c25
        try clear c26
        try clear c26b0
        try clear c27
        try clear c27b0
        try clear c27b1
        try clear c27b2
        try clear c29
        try clear c29b0
        try clear c29b1
        try clear c30
        try clear c30b0
        try clear c30b1
        try clear c36
        try clear c36b0
        try clear c36b1
        try clear hcz13_0
        try clear hcz13_1
        try clear hcz13_2
        try clear hcz20_0
        try clear hcz20_1
        try clear hcz20_2
        try clear hfz13_0
        try clear hfz13_1
        try clear hfz13_2
        try clear hfz20_0
        try clear hfz20_1
        try clear hfz20_2
        try clear p2
        try clear p6
        obtain ⟨kq, x92_33, rfl, HA, HJ33, HO_888001, HO_888002, BK887, HB⟩ := hcut
        cases kq with
        | zero => exact absurd HA.out (by simp [foghornlaw20_MendNever.j3])
        | succ kj33 =>
         have H := HA.out
         clear HA
         simp only [foghornlaw20_MendNever.j3] at H
         by_cases c37 : x92_33 = true
         ·subst c37
          have H1 : (some false) = some r := by rw [if_pos rfl] at H; exact H
          clear H
          have H := H1
          clear H1
          as_aux_lemma =>
           exact absurd ((Option.some.inj H).trans HQ_.out) (by decide)
         ·replace c37 := Bool.eq_false_iff.mpr c37
          subst c37
          have H1 : (if t886 = 9 then (if t890 = true then (some false) else (if t879.toList = ([] : List UInt8) then (some ((wrap64 ((t880.length : Int) + (t883.length : Int))) == 0)) else (some false))) else ((reed_Whole.f kj33 t879 a1).bind fun bt892 => ((mend_Within.f kj33 a0 t879 a1 l2).bind fun bt894 => ((mend_Mend.f kj33 t879 a1 l2).bind fun bt896 => (if t886 = 0 then (if bt892.2 = 0 then (if bt894.2 = 0 then (if bt896.2.2.2 = 0 then (if bt892.1 = true then (if bt894.1 = true then (if bt896.1.toList = t879.toList then (if (bt896.2.1.length : Int) = 0 then (if (t883.length : Int) = (l2.length : Int) then (if (wrap64 ((wrap64 (2 * (t880.length : Int))) + (l2.length : Int))) > a1 then (foghornlaw20_MendNever.j4 kj33 a0 l2 true t879 t880 t883) else (if t890 = true then (foghornlaw20_MendNever.j4 kj33 a0 l2 (x11_23.toList != t879.toList) t879 t880 t883) else (foghornlaw20_MendNever.j4 kj33 a0 l2 false t879 t880 t883))) else (foghornlaw20_MendNever.j4 kj33 a0 l2 true t879 t880 t883)) else (foghornlaw20_MendNever.j4 kj33 a0 l2 true t879 t880 t883)) else (foghornlaw20_MendNever.j4 kj33 a0 l2 true t879 t880 t883)) else (foghornlaw20_MendNever.j4 kj33 a0 l2 true t879 t880 t883)) else (foghornlaw20_MendNever.j4 kj33 a0 l2 true t879 t880 t883)) else (foghornlaw20_MendNever.j4 kj33 a0 l2 true t879 t880 t883)) else (foghornlaw20_MendNever.j4 kj33 a0 l2 true t879 t880 t883)) else (foghornlaw20_MendNever.j4 kj33 a0 l2 true t879 t880 t883)) else (foghornlaw20_MendNever.j4 kj33 a0 l2 true t879 t880 t883)))))) = some r := by rw [if_neg (show ¬ (false = true) by decide)] at H; exact H
          clear H
          have H := H1
          clear H1
          by_cases c38 : t886 = 9
          ·rw [if_pos c38] at H
           have c38b0 : (t886 == 9) = true := beq_iff_eq.mpr c38
           have c38b1 : (t886 != 9) = false := bne_eq_false_iff_eq.mpr c38
           clear c38
           by_cases c39 : t890 = true
           ·subst c39
            have H1 : (some false) = some r := by rw [if_pos rfl] at H; exact H
            clear H
            have H := H1
            clear H1
            as_aux_lemma =>
             exact absurd ((Option.some.inj H).trans HQ_.out) (by decide)
           ·replace c39 := Bool.eq_false_iff.mpr c39
            subst c39
            have H1 : (if t879.toList = ([] : List UInt8) then (some ((wrap64 ((t880.length : Int) + (t883.length : Int))) == 0)) else (some false)) = some r := by rw [if_neg (show ¬ (false = true) by decide)] at H; exact H
            clear H
            have H := H1
            clear H1
            by_cases c40 : t879.toList = ([] : List UInt8)
            ·rw [if_pos c40] at H
             have c40b0 : (t879.toList == ([] : List UInt8)) = true := beq_iff_eq.mpr c40
             have c40b1 : (t879.toList != ([] : List UInt8)) = false := bne_eq_false_iff_eq.mpr c40
             clear c40
             as_aux_lemma =>
              obtain rfl := Option.some.inj H
              have hcz41_0 : wc.cell? ⟨gb887, 0, none⟩ = some (.string t879) := (blk_cell BK887.out 0).trans rfl
              have hcz41_1 : wc.cell? ⟨gb887, 1, none⟩ = some (.slice Ao21 t880.length co21) := (blk_cell BK887.out 1).trans rfl
              have hcz41_2 : wc.cell? ⟨gb887, 2, none⟩ = some (.slice Ao22 t883.length co22) := (blk_cell BK887.out 2).trans rfl
              have hfz41_0 := blk_frozen BK887.out 0
              have hfz41_1 := blk_frozen BK887.out 1
              have hfz41_2 := blk_frozen BK887.out 2
              go_wp2
              repeat (go_quiet (fail); try go_wp2)
              go_ret
              exact ⟨by first | rfl | (simp [errW_none, errW_some] <;> rfl) | (simp [*, errW_none, errW_some] <;> rfl), by repeat (first | (with_reducible first | exact HB.out | apply below_alloc | apply pw_below_drewN | apply below_drew1 | refine below_set ?_ GE887.out) | exact HB.out)⟩
            ·rw [if_neg c40] at H
             have c40b0 : (t879.toList == ([] : List UInt8)) = false := beq_eq_false_iff_ne.mpr c40
             have c40b1 : (t879.toList != ([] : List UInt8)) = true := bne_iff_ne.mpr c40
             as_aux_lemma =>
              exact absurd ((Option.some.inj H).trans HQ_.out) (by decide)
          ·rw [if_neg c38] at H
           have c38b0 : (t886 == 9) = false := beq_eq_false_iff_ne.mpr c38
           have c38b1 : (t886 != 9) = true := bne_iff_ne.mpr c38
           replace H := Option.bind_eq_some_iff.mp H
           obtain ⟨⟨t892, t893⟩, A420, H⟩ := H
           replace H : ((mend_Within.f kj33 a0 t879 a1 l2).bind fun bt894 => ((mend_Mend.f kj33 t879 a1 l2).bind fun bt896 => (if t886 = 0 then (if t893 = 0 then (if bt894.2 = 0 then (if bt896.2.2.2 = 0 then (if t892 = true then (if bt894.1 = true then (if bt896.1.toList = t879.toList then (if (bt896.2.1.length : Int) = 0 then (if (t883.length : Int) = (l2.length : Int) then (if (wrap64 ((wrap64 (2 * (t880.length : Int))) + (l2.length : Int))) > a1 then (foghornlaw20_MendNever.j4 kj33 a0 l2 true t879 t880 t883) else (if t890 = true then (foghornlaw20_MendNever.j4 kj33 a0 l2 (x11_23.toList != t879.toList) t879 t880 t883) else (foghornlaw20_MendNever.j4 kj33 a0 l2 false t879 t880 t883))) else (foghornlaw20_MendNever.j4 kj33 a0 l2 true t879 t880 t883)) else (foghornlaw20_MendNever.j4 kj33 a0 l2 true t879 t880 t883)) else (foghornlaw20_MendNever.j4 kj33 a0 l2 true t879 t880 t883)) else (foghornlaw20_MendNever.j4 kj33 a0 l2 true t879 t880 t883)) else (foghornlaw20_MendNever.j4 kj33 a0 l2 true t879 t880 t883)) else (foghornlaw20_MendNever.j4 kj33 a0 l2 true t879 t880 t883)) else (foghornlaw20_MendNever.j4 kj33 a0 l2 true t879 t880 t883)) else (foghornlaw20_MendNever.j4 kj33 a0 l2 true t879 t880 t883)) else (foghornlaw20_MendNever.j4 kj33 a0 l2 true t879 t880 t883)))) = some r := H
           have A42 := Aside0.mk A420
           clear A420
           replace H := Option.bind_eq_some_iff.mp H
           obtain ⟨⟨t894, t895⟩, A430, H⟩ := H
           replace H : ((mend_Mend.f kj33 t879 a1 l2).bind fun bt896 => (if t886 = 0 then (if t893 = 0 then (if t895 = 0 then (if bt896.2.2.2 = 0 then (if t892 = true then (if t894 = true then (if bt896.1.toList = t879.toList then (if (bt896.2.1.length : Int) = 0 then (if (t883.length : Int) = (l2.length : Int) then (if (wrap64 ((wrap64 (2 * (t880.length : Int))) + (l2.length : Int))) > a1 then (foghornlaw20_MendNever.j4 kj33 a0 l2 true t879 t880 t883) else (if t890 = true then (foghornlaw20_MendNever.j4 kj33 a0 l2 (x11_23.toList != t879.toList) t879 t880 t883) else (foghornlaw20_MendNever.j4 kj33 a0 l2 false t879 t880 t883))) else (foghornlaw20_MendNever.j4 kj33 a0 l2 true t879 t880 t883)) else (foghornlaw20_MendNever.j4 kj33 a0 l2 true t879 t880 t883)) else (foghornlaw20_MendNever.j4 kj33 a0 l2 true t879 t880 t883)) else (foghornlaw20_MendNever.j4 kj33 a0 l2 true t879 t880 t883)) else (foghornlaw20_MendNever.j4 kj33 a0 l2 true t879 t880 t883)) else (foghornlaw20_MendNever.j4 kj33 a0 l2 true t879 t880 t883)) else (foghornlaw20_MendNever.j4 kj33 a0 l2 true t879 t880 t883)) else (foghornlaw20_MendNever.j4 kj33 a0 l2 true t879 t880 t883)) else (foghornlaw20_MendNever.j4 kj33 a0 l2 true t879 t880 t883))) = some r := H
           have A43 := Aside0.mk A430
           clear A430
           replace H := Option.bind_eq_some_iff.mp H
           obtain ⟨⟨t896, t897, t900, t903⟩, A440, H⟩ := H
           replace H : (if t886 = 0 then (if t893 = 0 then (if t895 = 0 then (if t903 = 0 then (if t892 = true then (if t894 = true then (if t896.toList = t879.toList then (if (t897.length : Int) = 0 then (if (t883.length : Int) = (l2.length : Int) then (if (wrap64 ((wrap64 (2 * (t880.length : Int))) + (l2.length : Int))) > a1 then (foghornlaw20_MendNever.j4 kj33 a0 l2 true t879 t880 t883) else (if t890 = true then (foghornlaw20_MendNever.j4 kj33 a0 l2 (x11_23.toList != t879.toList) t879 t880 t883) else (foghornlaw20_MendNever.j4 kj33 a0 l2 false t879 t880 t883))) else (foghornlaw20_MendNever.j4 kj33 a0 l2 true t879 t880 t883)) else (foghornlaw20_MendNever.j4 kj33 a0 l2 true t879 t880 t883)) else (foghornlaw20_MendNever.j4 kj33 a0 l2 true t879 t880 t883)) else (foghornlaw20_MendNever.j4 kj33 a0 l2 true t879 t880 t883)) else (foghornlaw20_MendNever.j4 kj33 a0 l2 true t879 t880 t883)) else (foghornlaw20_MendNever.j4 kj33 a0 l2 true t879 t880 t883)) else (foghornlaw20_MendNever.j4 kj33 a0 l2 true t879 t880 t883)) else (foghornlaw20_MendNever.j4 kj33 a0 l2 true t879 t880 t883)) else (foghornlaw20_MendNever.j4 kj33 a0 l2 true t879 t880 t883)) = some r := H
           have A44 := Aside0.mk A440
           clear A440
           have HC45 := Aside0.mk H
           clear H
           have hcz46_0 : wc.cell? ⟨gb887, 0, none⟩ = some (.string t879) := (blk_cell BK887.out 0).trans rfl
           have hcz46_1 : wc.cell? ⟨gb887, 1, none⟩ = some (.slice Ao21 t880.length co21) := (blk_cell BK887.out 1).trans rfl
           have hcz46_2 : wc.cell? ⟨gb887, 2, none⟩ = some (.slice Ao22 t883.length co22) := (blk_cell BK887.out 2).trans rfl
           have hfz46_0 := blk_frozen BK887.out 0
           have hfz46_1 := blk_frozen BK887.out 1
           have hfz46_2 := blk_frozen BK887.out 2
           go_upto_region 19 with (first | (go_at_call 21; (with_reducible refine (reed_Whole.calls kj33 t879 a1 t892 t893 _ A42.out).mono ?_); rintro e w47 ⟨rfl, hb⟩; have n0_ := Aside0.mk (Kd.R_below (by (with_reducible repeat (first | apply Kd.R_alloc | apply Kd.R_drewN | apply Kd.R_drew)); exact HO_888001.out) hb); have n1_ := Aside0.mk (Kd.R_below (by (with_reducible repeat (first | apply Kd.R_alloc | apply Kd.R_drewN | apply Kd.R_drew)); exact HO_888002.out) hb); have n2_ := Aside0.mk (blk_below (g := gb887) (o := .cells #[.string t879, .slice Ao21 t880.length co21, .slice Ao22 t883.length co22] 64 (0, 0)) (by (with_reducible repeat (first | refine blk_drewN ?_ _ | refine blk_drew ?_ | refine blk_alloc ?_ _)); exact BK887.out) hb); have n3_ := Aside0.mk (below_step (by repeat (first | (with_reducible first | exact HB.out | apply below_alloc | apply pw_below_drewN | apply below_drew1 | refine below_set ?_ GE887.out) | exact HB.out)) hb); clear HO_888001; clear HO_888002; clear BK887; clear HB; have HO_888001 := n0_; have HO_888002 := n1_; have BK887 := n2_; have HB := n3_; clear n0_ n1_ n2_ n3_; (try clear hb); (try clear hb2); (try clear hk); (try clear hi); have hcz48_0 : w47.cell? ⟨gb887, 0, none⟩ = some (.string t879) := (blk_cell BK887.out 0).trans rfl; have hcz48_1 : w47.cell? ⟨gb887, 1, none⟩ = some (.slice Ao21 t880.length co21) := (blk_cell BK887.out 1).trans rfl; have hcz48_2 : w47.cell? ⟨gb887, 2, none⟩ = some (.slice Ao22 t883.length co22) := (blk_cell BK887.out 2).trans rfl; have hfz48_0 := blk_frozen BK887.out 0; have hfz48_1 := blk_frozen BK887.out 1; have hfz48_2 := blk_frozen BK887.out 2) | (go_at_call 53; (with_reducible refine (mend_Within.calls kj33 a0 t879 a1 _ _ l2 t894 t895 _ ?side1 ?side2 A43.out).mono ?_); (case side1 => repeat (first | exact (Kd.C_below HR2.out HB.out) | (with_reducible refine Kd.C_alloc ?_ _) | (with_reducible refine Kd.C_drewN ?_ _) | (with_reducible refine Kd.C_drew ?_))); (case side2 => exact HC2.out); rintro e w49 ⟨rfl, hb⟩; have n0_ := Aside0.mk (Kd.R_below (by (with_reducible repeat (first | apply Kd.R_alloc | apply Kd.R_drewN | apply Kd.R_drew)); exact HO_888001.out) hb); have n1_ := Aside0.mk (Kd.R_below (by (with_reducible repeat (first | apply Kd.R_alloc | apply Kd.R_drewN | apply Kd.R_drew)); exact HO_888002.out) hb); have n2_ := Aside0.mk (blk_below (g := gb887) (o := .cells #[.string t879, .slice Ao21 t880.length co21, .slice Ao22 t883.length co22] 64 (0, 0)) (by (with_reducible repeat (first | refine blk_drewN ?_ _ | refine blk_drew ?_ | refine blk_alloc ?_ _)); exact BK887.out) hb); have n3_ := Aside0.mk (below_step (by repeat (first | (with_reducible first | exact HB.out | apply below_alloc | apply pw_below_drewN | apply below_drew1 | refine below_set ?_ GE887.out) | exact HB.out)) hb); clear HO_888001; clear HO_888002; clear BK887; clear HB; have HO_888001 := n0_; have HO_888002 := n1_; have BK887 := n2_; have HB := n3_; clear n0_ n1_ n2_ n3_; (try clear hb); (try clear hb2); (try clear hk); (try clear hi); have hcz50_0 : w49.cell? ⟨gb887, 0, none⟩ = some (.string t879) := (blk_cell BK887.out 0).trans rfl; have hcz50_1 : w49.cell? ⟨gb887, 1, none⟩ = some (.slice Ao21 t880.length co21) := (blk_cell BK887.out 1).trans rfl; have hcz50_2 : w49.cell? ⟨gb887, 2, none⟩ = some (.slice Ao22 t883.length co22) := (blk_cell BK887.out 2).trans rfl; have hfz50_0 := blk_frozen BK887.out 0; have hfz50_1 := blk_frozen BK887.out 1; have hfz50_2 := blk_frozen BK887.out 2) | (go_at_call 51; (with_reducible refine (mend_Mend.calls kj33 t879 a1 _ _ l2 t896 t897 t900 t903 _ ?side1 ?side2 A44.out).mono ?_); (case side1 => repeat (first | exact (Kd.C_below HR2.out HB.out) | (with_reducible refine Kd.C_alloc ?_ _) | (with_reducible refine Kd.C_drewN ?_ _) | (with_reducible refine Kd.C_drew ?_))); (case side2 => exact HC2.out); rintro e w51 ⟨v898, v901, rfl, ho0, ho1, hb⟩; have n0_ := Aside0.mk (Kd.R_mono (Kd.R_told (Kd.R_told (Kd.R_old (by (with_reducible repeat (first | apply Kd.R_alloc | apply Kd.R_drewN | apply Kd.R_drew)); exact HO_888001.out) hb) (Kd.R_base ho0)) (Kd.R_base ho1)) (fun _ h_ => h_.1)); have n1_ := Aside0.mk (Kd.R_mono (Kd.R_told (Kd.R_told (Kd.R_old (by (with_reducible repeat (first | apply Kd.R_alloc | apply Kd.R_drewN | apply Kd.R_drew)); exact HO_888002.out) hb) (Kd.R_base ho0)) (Kd.R_base ho1)) (fun _ h_ => h_.1)); have n2_ := Aside0.mk (Kd.R_lower (Kd.R_new' (Kd.R_new' ho0 (Kd.R_lt (by (with_reducible repeat (first | apply Kd.R_alloc | apply Kd.R_drewN | apply Kd.R_drew)); exact HO_888001.out))) (Kd.R_lt (by (with_reducible repeat (first | apply Kd.R_alloc | apply Kd.R_drewN | apply Kd.R_drew)); exact HO_888002.out))) (below_size (by repeat (first | (with_reducible first | exact HB.out | apply below_alloc | apply pw_below_drewN | apply below_drew1 | refine below_set ?_ GE887.out) | exact HB.out)))); have n3_ := Aside0.mk (Kd.R_lower (Kd.R_new' (Kd.R_new' ho1 (Kd.R_lt (by (with_reducible repeat (first | apply Kd.R_alloc | apply Kd.R_drewN | apply Kd.R_drew)); exact HO_888001.out))) (Kd.R_lt (by (with_reducible repeat (first | apply Kd.R_alloc | apply Kd.R_drewN | apply Kd.R_drew)); exact HO_888002.out))) (below_size (by repeat (first | (with_reducible first | exact HB.out | apply below_alloc | apply pw_below_drewN | apply below_drew1 | refine below_set ?_ GE887.out) | exact HB.out)))); have n4_ := Aside0.mk (blk_below (g := gb887) (o := .cells #[.string t879, .slice Ao21 t880.length co21, .slice Ao22 t883.length co22] 64 (0, 0)) (by (with_reducible repeat (first | refine blk_drewN ?_ _ | refine blk_drew ?_ | refine blk_alloc ?_ _)); exact BK887.out) hb); have n5_ := Aside0.mk (below_step (by repeat (first | (with_reducible first | exact HB.out | apply below_alloc | apply pw_below_drewN | apply below_drew1 | refine below_set ?_ GE887.out) | exact HB.out)) hb); clear HO_888001; clear HO_888002; clear BK887; clear HB; have HO_888001 := n0_; have HO_888002 := n1_; have HO899 := n2_; have HO902 := n3_; have BK887 := n4_; have HB := n5_; clear n0_ n1_ n2_ n3_ n4_ n5_; (try clear hb); (try clear hb2); (try clear hk); (try clear hi); (try clear ho0); (try clear ho1)) | ((with_reducible refine gate_dst (N := 18) rfl ?_); (try (refine gate_guard (by rfl) ?_; dsimp only)); refine box_event ?hg (N := 18) ?hd (cs := #[.string (⟨#[]⟩ : ByteArray), .slice none 0 0, .slice none 0 0]) (t := 64) ?hr ?_; (case hd => rfl); (case hg => rfl); (case hr => first | (go_simp; done) | (go_simp; rfl)); intro gb904 hg w52 hbox hb; have n0_ := Aside0.mk (Kd.R_below (by (with_reducible repeat (first | apply Kd.R_alloc | apply Kd.R_drewN | apply Kd.R_drew)); exact HO_888001.out) hb); have n1_ := Aside0.mk (Kd.R_below (by (with_reducible repeat (first | apply Kd.R_alloc | apply Kd.R_drewN | apply Kd.R_drew)); exact HO_888002.out) hb); have n2_ := Aside0.mk (Kd.R_below (by (with_reducible repeat (first | apply Kd.R_alloc | apply Kd.R_drewN | apply Kd.R_drew)); exact HO899.out) hb); have n3_ := Aside0.mk (Kd.R_below (by (with_reducible repeat (first | apply Kd.R_alloc | apply Kd.R_drewN | apply Kd.R_drew)); exact HO902.out) hb); have n4_ := Aside0.mk (blk_below (g := gb887) (o := .cells #[.string t879, .slice Ao21 t880.length co21, .slice Ao22 t883.length co22] 64 (0, 0)) (by (with_reducible repeat (first | refine blk_drewN ?_ _ | refine blk_drew ?_ | refine blk_alloc ?_ _)); exact BK887.out) hb); have n5_ := Aside0.mk (below_step (by repeat (first | (with_reducible first | exact HB.out | apply below_alloc | apply pw_below_drewN | apply below_drew1 | refine below_set ?_ GE887.out) | exact HB.out)) hb); have n6_ := Aside0.mk (hbox); have n7_ := Aside0.mk ((by rw [hg]; exact (below_size (by repeat (first | (with_reducible first | exact HB.out | apply below_alloc | apply pw_below_drewN | apply below_drew1 | refine below_set ?_ GE887.out) | exact HB.out))) : w.heap.size ≤ gb904)); have n8_ := Aside0.mk ((by rw [hg]; exact (below_size (by repeat (first | (with_reducible first | exact HB.out | apply below_alloc | apply pw_below_drewN | apply below_drew1 | refine below_set ?_ GE887.out) | exact HB.out))) : w.heap.size ≤ gb904)); have n9_ := Aside0.mk ((by rw [hg]; exact Nat.ne_of_lt (blk_lt (g := gb887) (o := .cells #[.string t879, .slice Ao21 t880.length co21, .slice Ao22 t883.length co22] 64 (0, 0)) (by (with_reducible repeat (first | refine blk_drewN ?_ _ | refine blk_drew ?_ | refine blk_alloc ?_ _)); exact BK887.out)) : gb887 ≠ gb904)); have n10_ := Aside0.mk ((by rw [hg]; exact Nat.ne_of_gt (blk_lt (g := gb887) (o := .cells #[.string t879, .slice Ao21 t880.length co21, .slice Ao22 t883.length co22] 64 (0, 0)) (by (with_reducible repeat (first | refine blk_drewN ?_ _ | refine blk_drew ?_ | refine blk_alloc ?_ _)); exact BK887.out)) : gb904 ≠ gb887)); clear HO_888001; clear HO_888002; clear HO899; clear HO902; clear BK887; clear HB; have HO_888001 := n0_; have HO_888002 := n1_; have HO899 := n2_; have HO902 := n3_; have BK887 := n4_; have HB := n5_; have BK904 := n6_; have GW904 := n7_; have GE904 := n8_; have NB887_904 := n9_; have NB904_887 := n10_; clear n0_ n1_ n2_ n3_ n4_ n5_ n6_ n7_ n8_ n9_ n10_; clear hb hbox hg; have hnb53 := NB904_887.out; have hnc53 := NB887_904.out; have hcz54_0 : w52.cell? ⟨gb904, 0, none⟩ = some (.string (⟨#[]⟩ : ByteArray)) := (blk_cell BK904.out 0).trans rfl; have hcz54_1 : w52.cell? ⟨gb904, 1, none⟩ = some (.slice none 0 0) := (blk_cell BK904.out 1).trans rfl; have hcz54_2 : w52.cell? ⟨gb904, 2, none⟩ = some (.slice none 0 0) := (blk_cell BK904.out 2).trans rfl; have hfz54_0 := blk_frozen BK904.out 0; have hfz54_1 := blk_frozen BK904.out 1; have hfz54_2 := blk_frozen BK904.out 2; obtain ⟨Ao55, co55, eo55⟩ := Kd.R_slice HO899.out; subst eo55; obtain ⟨Ao56, co56, eo56⟩ := Kd.R_slice HO902.out; subst eo56))
           repeat (go_quiet (first | (go_at_call 21; (with_reducible refine (reed_Whole.calls kj33 t879 a1 t892 t893 _ A42.out).mono ?_); rintro e w47 ⟨rfl, hb⟩; have n0_ := Aside0.mk (Kd.R_below (by (with_reducible repeat (first | apply Kd.R_alloc | apply Kd.R_drewN | apply Kd.R_drew)); exact HO_888001.out) hb); have n1_ := Aside0.mk (Kd.R_below (by (with_reducible repeat (first | apply Kd.R_alloc | apply Kd.R_drewN | apply Kd.R_drew)); exact HO_888002.out) hb); have n2_ := Aside0.mk (blk_below (g := gb887) (o := .cells #[.string t879, .slice Ao21 t880.length co21, .slice Ao22 t883.length co22] 64 (0, 0)) (by (with_reducible repeat (first | refine blk_drewN ?_ _ | refine blk_drew ?_ | refine blk_alloc ?_ _)); exact BK887.out) hb); have n3_ := Aside0.mk (below_step (by repeat (first | (with_reducible first | exact HB.out | apply below_alloc | apply pw_below_drewN | apply below_drew1 | refine below_set ?_ GE887.out) | exact HB.out)) hb); clear HO_888001; clear HO_888002; clear BK887; clear HB; have HO_888001 := n0_; have HO_888002 := n1_; have BK887 := n2_; have HB := n3_; clear n0_ n1_ n2_ n3_; (try clear hb); (try clear hb2); (try clear hk); (try clear hi); have hcz48_0 : w47.cell? ⟨gb887, 0, none⟩ = some (.string t879) := (blk_cell BK887.out 0).trans rfl; have hcz48_1 : w47.cell? ⟨gb887, 1, none⟩ = some (.slice Ao21 t880.length co21) := (blk_cell BK887.out 1).trans rfl; have hcz48_2 : w47.cell? ⟨gb887, 2, none⟩ = some (.slice Ao22 t883.length co22) := (blk_cell BK887.out 2).trans rfl; have hfz48_0 := blk_frozen BK887.out 0; have hfz48_1 := blk_frozen BK887.out 1; have hfz48_2 := blk_frozen BK887.out 2) | (go_at_call 53; (with_reducible refine (mend_Within.calls kj33 a0 t879 a1 _ _ l2 t894 t895 _ ?side1 ?side2 A43.out).mono ?_); (case side1 => repeat (first | exact (Kd.C_below HR2.out HB.out) | (with_reducible refine Kd.C_alloc ?_ _) | (with_reducible refine Kd.C_drewN ?_ _) | (with_reducible refine Kd.C_drew ?_))); (case side2 => exact HC2.out); rintro e w49 ⟨rfl, hb⟩; have n0_ := Aside0.mk (Kd.R_below (by (with_reducible repeat (first | apply Kd.R_alloc | apply Kd.R_drewN | apply Kd.R_drew)); exact HO_888001.out) hb); have n1_ := Aside0.mk (Kd.R_below (by (with_reducible repeat (first | apply Kd.R_alloc | apply Kd.R_drewN | apply Kd.R_drew)); exact HO_888002.out) hb); have n2_ := Aside0.mk (blk_below (g := gb887) (o := .cells #[.string t879, .slice Ao21 t880.length co21, .slice Ao22 t883.length co22] 64 (0, 0)) (by (with_reducible repeat (first | refine blk_drewN ?_ _ | refine blk_drew ?_ | refine blk_alloc ?_ _)); exact BK887.out) hb); have n3_ := Aside0.mk (below_step (by repeat (first | (with_reducible first | exact HB.out | apply below_alloc | apply pw_below_drewN | apply below_drew1 | refine below_set ?_ GE887.out) | exact HB.out)) hb); clear HO_888001; clear HO_888002; clear BK887; clear HB; have HO_888001 := n0_; have HO_888002 := n1_; have BK887 := n2_; have HB := n3_; clear n0_ n1_ n2_ n3_; (try clear hb); (try clear hb2); (try clear hk); (try clear hi); have hcz50_0 : w49.cell? ⟨gb887, 0, none⟩ = some (.string t879) := (blk_cell BK887.out 0).trans rfl; have hcz50_1 : w49.cell? ⟨gb887, 1, none⟩ = some (.slice Ao21 t880.length co21) := (blk_cell BK887.out 1).trans rfl; have hcz50_2 : w49.cell? ⟨gb887, 2, none⟩ = some (.slice Ao22 t883.length co22) := (blk_cell BK887.out 2).trans rfl; have hfz50_0 := blk_frozen BK887.out 0; have hfz50_1 := blk_frozen BK887.out 1; have hfz50_2 := blk_frozen BK887.out 2) | (go_at_call 51; (with_reducible refine (mend_Mend.calls kj33 t879 a1 _ _ l2 t896 t897 t900 t903 _ ?side1 ?side2 A44.out).mono ?_); (case side1 => repeat (first | exact (Kd.C_below HR2.out HB.out) | (with_reducible refine Kd.C_alloc ?_ _) | (with_reducible refine Kd.C_drewN ?_ _) | (with_reducible refine Kd.C_drew ?_))); (case side2 => exact HC2.out); rintro e w51 ⟨v898, v901, rfl, ho0, ho1, hb⟩; have n0_ := Aside0.mk (Kd.R_mono (Kd.R_told (Kd.R_told (Kd.R_old (by (with_reducible repeat (first | apply Kd.R_alloc | apply Kd.R_drewN | apply Kd.R_drew)); exact HO_888001.out) hb) (Kd.R_base ho0)) (Kd.R_base ho1)) (fun _ h_ => h_.1)); have n1_ := Aside0.mk (Kd.R_mono (Kd.R_told (Kd.R_told (Kd.R_old (by (with_reducible repeat (first | apply Kd.R_alloc | apply Kd.R_drewN | apply Kd.R_drew)); exact HO_888002.out) hb) (Kd.R_base ho0)) (Kd.R_base ho1)) (fun _ h_ => h_.1)); have n2_ := Aside0.mk (Kd.R_lower (Kd.R_new' (Kd.R_new' ho0 (Kd.R_lt (by (with_reducible repeat (first | apply Kd.R_alloc | apply Kd.R_drewN | apply Kd.R_drew)); exact HO_888001.out))) (Kd.R_lt (by (with_reducible repeat (first | apply Kd.R_alloc | apply Kd.R_drewN | apply Kd.R_drew)); exact HO_888002.out))) (below_size (by repeat (first | (with_reducible first | exact HB.out | apply below_alloc | apply pw_below_drewN | apply below_drew1 | refine below_set ?_ GE887.out) | exact HB.out)))); have n3_ := Aside0.mk (Kd.R_lower (Kd.R_new' (Kd.R_new' ho1 (Kd.R_lt (by (with_reducible repeat (first | apply Kd.R_alloc | apply Kd.R_drewN | apply Kd.R_drew)); exact HO_888001.out))) (Kd.R_lt (by (with_reducible repeat (first | apply Kd.R_alloc | apply Kd.R_drewN | apply Kd.R_drew)); exact HO_888002.out))) (below_size (by repeat (first | (with_reducible first | exact HB.out | apply below_alloc | apply pw_below_drewN | apply below_drew1 | refine below_set ?_ GE887.out) | exact HB.out)))); have n4_ := Aside0.mk (blk_below (g := gb887) (o := .cells #[.string t879, .slice Ao21 t880.length co21, .slice Ao22 t883.length co22] 64 (0, 0)) (by (with_reducible repeat (first | refine blk_drewN ?_ _ | refine blk_drew ?_ | refine blk_alloc ?_ _)); exact BK887.out) hb); have n5_ := Aside0.mk (below_step (by repeat (first | (with_reducible first | exact HB.out | apply below_alloc | apply pw_below_drewN | apply below_drew1 | refine below_set ?_ GE887.out) | exact HB.out)) hb); clear HO_888001; clear HO_888002; clear BK887; clear HB; have HO_888001 := n0_; have HO_888002 := n1_; have HO899 := n2_; have HO902 := n3_; have BK887 := n4_; have HB := n5_; clear n0_ n1_ n2_ n3_ n4_ n5_; (try clear hb); (try clear hb2); (try clear hk); (try clear hi); (try clear ho0); (try clear ho1)) | ((with_reducible refine gate_dst (N := 18) rfl ?_); (try (refine gate_guard (by rfl) ?_; dsimp only)); refine box_event ?hg (N := 18) ?hd (cs := #[.string (⟨#[]⟩ : ByteArray), .slice none 0 0, .slice none 0 0]) (t := 64) ?hr ?_; (case hd => rfl); (case hg => rfl); (case hr => first | (go_simp; done) | (go_simp; rfl)); intro gb904 hg w52 hbox hb; have n0_ := Aside0.mk (Kd.R_below (by (with_reducible repeat (first | apply Kd.R_alloc | apply Kd.R_drewN | apply Kd.R_drew)); exact HO_888001.out) hb); have n1_ := Aside0.mk (Kd.R_below (by (with_reducible repeat (first | apply Kd.R_alloc | apply Kd.R_drewN | apply Kd.R_drew)); exact HO_888002.out) hb); have n2_ := Aside0.mk (Kd.R_below (by (with_reducible repeat (first | apply Kd.R_alloc | apply Kd.R_drewN | apply Kd.R_drew)); exact HO899.out) hb); have n3_ := Aside0.mk (Kd.R_below (by (with_reducible repeat (first | apply Kd.R_alloc | apply Kd.R_drewN | apply Kd.R_drew)); exact HO902.out) hb); have n4_ := Aside0.mk (blk_below (g := gb887) (o := .cells #[.string t879, .slice Ao21 t880.length co21, .slice Ao22 t883.length co22] 64 (0, 0)) (by (with_reducible repeat (first | refine blk_drewN ?_ _ | refine blk_drew ?_ | refine blk_alloc ?_ _)); exact BK887.out) hb); have n5_ := Aside0.mk (below_step (by repeat (first | (with_reducible first | exact HB.out | apply below_alloc | apply pw_below_drewN | apply below_drew1 | refine below_set ?_ GE887.out) | exact HB.out)) hb); have n6_ := Aside0.mk (hbox); have n7_ := Aside0.mk ((by rw [hg]; exact (below_size (by repeat (first | (with_reducible first | exact HB.out | apply below_alloc | apply pw_below_drewN | apply below_drew1 | refine below_set ?_ GE887.out) | exact HB.out))) : w.heap.size ≤ gb904)); have n8_ := Aside0.mk ((by rw [hg]; exact (below_size (by repeat (first | (with_reducible first | exact HB.out | apply below_alloc | apply pw_below_drewN | apply below_drew1 | refine below_set ?_ GE887.out) | exact HB.out))) : w.heap.size ≤ gb904)); have n9_ := Aside0.mk ((by rw [hg]; exact Nat.ne_of_lt (blk_lt (g := gb887) (o := .cells #[.string t879, .slice Ao21 t880.length co21, .slice Ao22 t883.length co22] 64 (0, 0)) (by (with_reducible repeat (first | refine blk_drewN ?_ _ | refine blk_drew ?_ | refine blk_alloc ?_ _)); exact BK887.out)) : gb887 ≠ gb904)); have n10_ := Aside0.mk ((by rw [hg]; exact Nat.ne_of_gt (blk_lt (g := gb887) (o := .cells #[.string t879, .slice Ao21 t880.length co21, .slice Ao22 t883.length co22] 64 (0, 0)) (by (with_reducible repeat (first | refine blk_drewN ?_ _ | refine blk_drew ?_ | refine blk_alloc ?_ _)); exact BK887.out)) : gb904 ≠ gb887)); clear HO_888001; clear HO_888002; clear HO899; clear HO902; clear BK887; clear HB; have HO_888001 := n0_; have HO_888002 := n1_; have HO899 := n2_; have HO902 := n3_; have BK887 := n4_; have HB := n5_; have BK904 := n6_; have GW904 := n7_; have GE904 := n8_; have NB887_904 := n9_; have NB904_887 := n10_; clear n0_ n1_ n2_ n3_ n4_ n5_ n6_ n7_ n8_ n9_ n10_; clear hb hbox hg; have hnb53 := NB904_887.out; have hnc53 := NB887_904.out; have hcz54_0 : w52.cell? ⟨gb904, 0, none⟩ = some (.string (⟨#[]⟩ : ByteArray)) := (blk_cell BK904.out 0).trans rfl; have hcz54_1 : w52.cell? ⟨gb904, 1, none⟩ = some (.slice none 0 0) := (blk_cell BK904.out 1).trans rfl; have hcz54_2 : w52.cell? ⟨gb904, 2, none⟩ = some (.slice none 0 0) := (blk_cell BK904.out 2).trans rfl; have hfz54_0 := blk_frozen BK904.out 0; have hfz54_1 := blk_frozen BK904.out 1; have hfz54_2 := blk_frozen BK904.out 2; obtain ⟨Ao55, co55, eo55⟩ := Kd.R_slice HO899.out; subst eo55; obtain ⟨Ao56, co56, eo56⟩ := Kd.R_slice HO902.out; subst eo56)); go_upto_region 19 with (first | (go_at_call 21; (with_reducible refine (reed_Whole.calls kj33 t879 a1 t892 t893 _ A42.out).mono ?_); rintro e w47 ⟨rfl, hb⟩; have n0_ := Aside0.mk (Kd.R_below (by (with_reducible repeat (first | apply Kd.R_alloc | apply Kd.R_drewN | apply Kd.R_drew)); exact HO_888001.out) hb); have n1_ := Aside0.mk (Kd.R_below (by (with_reducible repeat (first | apply Kd.R_alloc | apply Kd.R_drewN | apply Kd.R_drew)); exact HO_888002.out) hb); have n2_ := Aside0.mk (blk_below (g := gb887) (o := .cells #[.string t879, .slice Ao21 t880.length co21, .slice Ao22 t883.length co22] 64 (0, 0)) (by (with_reducible repeat (first | refine blk_drewN ?_ _ | refine blk_drew ?_ | refine blk_alloc ?_ _)); exact BK887.out) hb); have n3_ := Aside0.mk (below_step (by repeat (first | (with_reducible first | exact HB.out | apply below_alloc | apply pw_below_drewN | apply below_drew1 | refine below_set ?_ GE887.out) | exact HB.out)) hb); clear HO_888001; clear HO_888002; clear BK887; clear HB; have HO_888001 := n0_; have HO_888002 := n1_; have BK887 := n2_; have HB := n3_; clear n0_ n1_ n2_ n3_; (try clear hb); (try clear hb2); (try clear hk); (try clear hi); have hcz48_0 : w47.cell? ⟨gb887, 0, none⟩ = some (.string t879) := (blk_cell BK887.out 0).trans rfl; have hcz48_1 : w47.cell? ⟨gb887, 1, none⟩ = some (.slice Ao21 t880.length co21) := (blk_cell BK887.out 1).trans rfl; have hcz48_2 : w47.cell? ⟨gb887, 2, none⟩ = some (.slice Ao22 t883.length co22) := (blk_cell BK887.out 2).trans rfl; have hfz48_0 := blk_frozen BK887.out 0; have hfz48_1 := blk_frozen BK887.out 1; have hfz48_2 := blk_frozen BK887.out 2) | (go_at_call 53; (with_reducible refine (mend_Within.calls kj33 a0 t879 a1 _ _ l2 t894 t895 _ ?side1 ?side2 A43.out).mono ?_); (case side1 => repeat (first | exact (Kd.C_below HR2.out HB.out) | (with_reducible refine Kd.C_alloc ?_ _) | (with_reducible refine Kd.C_drewN ?_ _) | (with_reducible refine Kd.C_drew ?_))); (case side2 => exact HC2.out); rintro e w49 ⟨rfl, hb⟩; have n0_ := Aside0.mk (Kd.R_below (by (with_reducible repeat (first | apply Kd.R_alloc | apply Kd.R_drewN | apply Kd.R_drew)); exact HO_888001.out) hb); have n1_ := Aside0.mk (Kd.R_below (by (with_reducible repeat (first | apply Kd.R_alloc | apply Kd.R_drewN | apply Kd.R_drew)); exact HO_888002.out) hb); have n2_ := Aside0.mk (blk_below (g := gb887) (o := .cells #[.string t879, .slice Ao21 t880.length co21, .slice Ao22 t883.length co22] 64 (0, 0)) (by (with_reducible repeat (first | refine blk_drewN ?_ _ | refine blk_drew ?_ | refine blk_alloc ?_ _)); exact BK887.out) hb); have n3_ := Aside0.mk (below_step (by repeat (first | (with_reducible first | exact HB.out | apply below_alloc | apply pw_below_drewN | apply below_drew1 | refine below_set ?_ GE887.out) | exact HB.out)) hb); clear HO_888001; clear HO_888002; clear BK887; clear HB; have HO_888001 := n0_; have HO_888002 := n1_; have BK887 := n2_; have HB := n3_; clear n0_ n1_ n2_ n3_; (try clear hb); (try clear hb2); (try clear hk); (try clear hi); have hcz50_0 : w49.cell? ⟨gb887, 0, none⟩ = some (.string t879) := (blk_cell BK887.out 0).trans rfl; have hcz50_1 : w49.cell? ⟨gb887, 1, none⟩ = some (.slice Ao21 t880.length co21) := (blk_cell BK887.out 1).trans rfl; have hcz50_2 : w49.cell? ⟨gb887, 2, none⟩ = some (.slice Ao22 t883.length co22) := (blk_cell BK887.out 2).trans rfl; have hfz50_0 := blk_frozen BK887.out 0; have hfz50_1 := blk_frozen BK887.out 1; have hfz50_2 := blk_frozen BK887.out 2) | (go_at_call 51; (with_reducible refine (mend_Mend.calls kj33 t879 a1 _ _ l2 t896 t897 t900 t903 _ ?side1 ?side2 A44.out).mono ?_); (case side1 => repeat (first | exact (Kd.C_below HR2.out HB.out) | (with_reducible refine Kd.C_alloc ?_ _) | (with_reducible refine Kd.C_drewN ?_ _) | (with_reducible refine Kd.C_drew ?_))); (case side2 => exact HC2.out); rintro e w51 ⟨v898, v901, rfl, ho0, ho1, hb⟩; have n0_ := Aside0.mk (Kd.R_mono (Kd.R_told (Kd.R_told (Kd.R_old (by (with_reducible repeat (first | apply Kd.R_alloc | apply Kd.R_drewN | apply Kd.R_drew)); exact HO_888001.out) hb) (Kd.R_base ho0)) (Kd.R_base ho1)) (fun _ h_ => h_.1)); have n1_ := Aside0.mk (Kd.R_mono (Kd.R_told (Kd.R_told (Kd.R_old (by (with_reducible repeat (first | apply Kd.R_alloc | apply Kd.R_drewN | apply Kd.R_drew)); exact HO_888002.out) hb) (Kd.R_base ho0)) (Kd.R_base ho1)) (fun _ h_ => h_.1)); have n2_ := Aside0.mk (Kd.R_lower (Kd.R_new' (Kd.R_new' ho0 (Kd.R_lt (by (with_reducible repeat (first | apply Kd.R_alloc | apply Kd.R_drewN | apply Kd.R_drew)); exact HO_888001.out))) (Kd.R_lt (by (with_reducible repeat (first | apply Kd.R_alloc | apply Kd.R_drewN | apply Kd.R_drew)); exact HO_888002.out))) (below_size (by repeat (first | (with_reducible first | exact HB.out | apply below_alloc | apply pw_below_drewN | apply below_drew1 | refine below_set ?_ GE887.out) | exact HB.out)))); have n3_ := Aside0.mk (Kd.R_lower (Kd.R_new' (Kd.R_new' ho1 (Kd.R_lt (by (with_reducible repeat (first | apply Kd.R_alloc | apply Kd.R_drewN | apply Kd.R_drew)); exact HO_888001.out))) (Kd.R_lt (by (with_reducible repeat (first | apply Kd.R_alloc | apply Kd.R_drewN | apply Kd.R_drew)); exact HO_888002.out))) (below_size (by repeat (first | (with_reducible first | exact HB.out | apply below_alloc | apply pw_below_drewN | apply below_drew1 | refine below_set ?_ GE887.out) | exact HB.out)))); have n4_ := Aside0.mk (blk_below (g := gb887) (o := .cells #[.string t879, .slice Ao21 t880.length co21, .slice Ao22 t883.length co22] 64 (0, 0)) (by (with_reducible repeat (first | refine blk_drewN ?_ _ | refine blk_drew ?_ | refine blk_alloc ?_ _)); exact BK887.out) hb); have n5_ := Aside0.mk (below_step (by repeat (first | (with_reducible first | exact HB.out | apply below_alloc | apply pw_below_drewN | apply below_drew1 | refine below_set ?_ GE887.out) | exact HB.out)) hb); clear HO_888001; clear HO_888002; clear BK887; clear HB; have HO_888001 := n0_; have HO_888002 := n1_; have HO899 := n2_; have HO902 := n3_; have BK887 := n4_; have HB := n5_; clear n0_ n1_ n2_ n3_ n4_ n5_; (try clear hb); (try clear hb2); (try clear hk); (try clear hi); (try clear ho0); (try clear ho1)) | ((with_reducible refine gate_dst (N := 18) rfl ?_); (try (refine gate_guard (by rfl) ?_; dsimp only)); refine box_event ?hg (N := 18) ?hd (cs := #[.string (⟨#[]⟩ : ByteArray), .slice none 0 0, .slice none 0 0]) (t := 64) ?hr ?_; (case hd => rfl); (case hg => rfl); (case hr => first | (go_simp; done) | (go_simp; rfl)); intro gb904 hg w52 hbox hb; have n0_ := Aside0.mk (Kd.R_below (by (with_reducible repeat (first | apply Kd.R_alloc | apply Kd.R_drewN | apply Kd.R_drew)); exact HO_888001.out) hb); have n1_ := Aside0.mk (Kd.R_below (by (with_reducible repeat (first | apply Kd.R_alloc | apply Kd.R_drewN | apply Kd.R_drew)); exact HO_888002.out) hb); have n2_ := Aside0.mk (Kd.R_below (by (with_reducible repeat (first | apply Kd.R_alloc | apply Kd.R_drewN | apply Kd.R_drew)); exact HO899.out) hb); have n3_ := Aside0.mk (Kd.R_below (by (with_reducible repeat (first | apply Kd.R_alloc | apply Kd.R_drewN | apply Kd.R_drew)); exact HO902.out) hb); have n4_ := Aside0.mk (blk_below (g := gb887) (o := .cells #[.string t879, .slice Ao21 t880.length co21, .slice Ao22 t883.length co22] 64 (0, 0)) (by (with_reducible repeat (first | refine blk_drewN ?_ _ | refine blk_drew ?_ | refine blk_alloc ?_ _)); exact BK887.out) hb); have n5_ := Aside0.mk (below_step (by repeat (first | (with_reducible first | exact HB.out | apply below_alloc | apply pw_below_drewN | apply below_drew1 | refine below_set ?_ GE887.out) | exact HB.out)) hb); have n6_ := Aside0.mk (hbox); have n7_ := Aside0.mk ((by rw [hg]; exact (below_size (by repeat (first | (with_reducible first | exact HB.out | apply below_alloc | apply pw_below_drewN | apply below_drew1 | refine below_set ?_ GE887.out) | exact HB.out))) : w.heap.size ≤ gb904)); have n8_ := Aside0.mk ((by rw [hg]; exact (below_size (by repeat (first | (with_reducible first | exact HB.out | apply below_alloc | apply pw_below_drewN | apply below_drew1 | refine below_set ?_ GE887.out) | exact HB.out))) : w.heap.size ≤ gb904)); have n9_ := Aside0.mk ((by rw [hg]; exact Nat.ne_of_lt (blk_lt (g := gb887) (o := .cells #[.string t879, .slice Ao21 t880.length co21, .slice Ao22 t883.length co22] 64 (0, 0)) (by (with_reducible repeat (first | refine blk_drewN ?_ _ | refine blk_drew ?_ | refine blk_alloc ?_ _)); exact BK887.out)) : gb887 ≠ gb904)); have n10_ := Aside0.mk ((by rw [hg]; exact Nat.ne_of_gt (blk_lt (g := gb887) (o := .cells #[.string t879, .slice Ao21 t880.length co21, .slice Ao22 t883.length co22] 64 (0, 0)) (by (with_reducible repeat (first | refine blk_drewN ?_ _ | refine blk_drew ?_ | refine blk_alloc ?_ _)); exact BK887.out)) : gb904 ≠ gb887)); clear HO_888001; clear HO_888002; clear HO899; clear HO902; clear BK887; clear HB; have HO_888001 := n0_; have HO_888002 := n1_; have HO899 := n2_; have HO902 := n3_; have BK887 := n4_; have HB := n5_; have BK904 := n6_; have GW904 := n7_; have GE904 := n8_; have NB887_904 := n9_; have NB904_887 := n10_; clear n0_ n1_ n2_ n3_ n4_ n5_ n6_ n7_ n8_ n9_ n10_; clear hb hbox hg; have hnb53 := NB904_887.out; have hnc53 := NB887_904.out; have hcz54_0 : w52.cell? ⟨gb904, 0, none⟩ = some (.string (⟨#[]⟩ : ByteArray)) := (blk_cell BK904.out 0).trans rfl; have hcz54_1 : w52.cell? ⟨gb904, 1, none⟩ = some (.slice none 0 0) := (blk_cell BK904.out 1).trans rfl; have hcz54_2 : w52.cell? ⟨gb904, 2, none⟩ = some (.slice none 0 0) := (blk_cell BK904.out 2).trans rfl; have hfz54_0 := blk_frozen BK904.out 0; have hfz54_1 := blk_frozen BK904.out 1; have hfz54_2 := blk_frozen BK904.out 2; obtain ⟨Ao55, co55, eo55⟩ := Kd.R_slice HO899.out; subst eo55; obtain ⟨Ao56, co56, eo56⟩ := Kd.R_slice HO902.out; subst eo56)))
           (try simp only [Act.put, List.setIfInBounds_toArray, List.set_cons_zero, List.set_cons_succ])
           go_cut [198] (fun v198 wc => ∃ (kq : Nat) (x198_44 : Bool), v198 = .bool x198_44 ∧ Aside0 (foghornlaw20_MendNever.j4 kq a0 l2 x198_44 t879 t880 t883 = some r) ∧ Aside0 (kq ≤ kj33) ∧ Aside0 (Kd.R (Kd.int .i64) 3 wc w.heap.size (fun k_ => some k_ ≠ ((.slice Ao22 t883.length co22) : Value).ownBlock ∧ some k_ ≠ ((.slice Ao55 t897.length co55) : Value).ownBlock ∧ some k_ ≠ ((.slice Ao56 t900.length co56) : Value).ownBlock) (.slice Ao21 t880.length co21) t880) ∧ Aside0 (Kd.R (Kd.int .i64) 3 wc w.heap.size (fun k_ => some k_ ≠ ((.slice Ao21 t880.length co21) : Value).ownBlock ∧ some k_ ≠ ((.slice Ao55 t897.length co55) : Value).ownBlock ∧ some k_ ≠ ((.slice Ao56 t900.length co56) : Value).ownBlock) (.slice Ao22 t883.length co22) t883) ∧ Aside0 (Kd.R (Kd.int .i64) 3 wc w.heap.size (fun k_ => some k_ ≠ ((.slice Ao21 t880.length co21) : Value).ownBlock ∧ some k_ ≠ ((.slice Ao22 t883.length co22) : Value).ownBlock ∧ some k_ ≠ ((.slice Ao56 t900.length co56) : Value).ownBlock) (.slice Ao55 t897.length co55) t897) ∧ Aside0 (Kd.R (Kd.int .i64) 3 wc w.heap.size (fun k_ => some k_ ≠ ((.slice Ao21 t880.length co21) : Value).ownBlock ∧ some k_ ≠ ((.slice Ao22 t883.length co22) : Value).ownBlock ∧ some k_ ≠ ((.slice Ao55 t897.length co55) : Value).ownBlock) (.slice Ao56 t900.length co56) t900) ∧ Aside0 (wc.heap[gb887]? = some (.cells #[.string t879, (.slice Ao21 t880.length co21), (.slice Ao22 t883.length co22)] 64 (0, 0))) ∧ Aside0 (wc.heap[gb904]? = some (.cells #[.string t896, (.slice Ao55 t897.length co55), (.slice Ao56 t900.length co56)] 64 (0, 0))) ∧ Aside0 (Below w.heap.size w wc))
           case first =>
            have H := HC45.out
            clear HC45
            by_cases c57 : t886 = 0
            ·rw [if_pos c57] at H
             have c57b0 : (t886 == 0) = true := beq_iff_eq.mpr c57
             have c57b1 : (t886 != 0) = false := bne_eq_false_iff_eq.mpr c57
             clear c57
             (first | rw [c57b0] | (simp only [i64_w, i32_w]; rw [c57b0]) | skip)
             by_cases c58 : t893 = 0
             ·rw [if_pos c58] at H
              have c58b0 : (t893 == 0) = true := beq_iff_eq.mpr c58
              have c58b1 : (t893 != 0) = false := bne_eq_false_iff_eq.mpr c58
              clear c58
              by_cases c59 : t895 = 0
              ·rw [if_pos c59] at H
               have c59b0 : (t895 == 0) = true := beq_iff_eq.mpr c59
               have c59b1 : (t895 != 0) = false := bne_eq_false_iff_eq.mpr c59
               clear c59
               by_cases c60 : t903 = 0
               ·rw [if_pos c60] at H
                have c60b0 : (t903 == 0) = true := beq_iff_eq.mpr c60
                have c60b1 : (t903 != 0) = false := bne_eq_false_iff_eq.mpr c60
                clear c60
                by_cases c61 : t892 = true
                ·subst c61
                 have H1 : (if t894 = true then (if t896.toList = t879.toList then (if (t897.length : Int) = 0 then (if (t883.length : Int) = (l2.length : Int) then (if (wrap64 ((wrap64 (2 * (t880.length : Int))) + (l2.length : Int))) > a1 then (foghornlaw20_MendNever.j4 kj33 a0 l2 true t879 t880 t883) else (if t890 = true then (foghornlaw20_MendNever.j4 kj33 a0 l2 (x11_23.toList != t879.toList) t879 t880 t883) else (foghornlaw20_MendNever.j4 kj33 a0 l2 false t879 t880 t883))) else (foghornlaw20_MendNever.j4 kj33 a0 l2 true t879 t880 t883)) else (foghornlaw20_MendNever.j4 kj33 a0 l2 true t879 t880 t883)) else (foghornlaw20_MendNever.j4 kj33 a0 l2 true t879 t880 t883)) else (foghornlaw20_MendNever.j4 kj33 a0 l2 true t879 t880 t883)) = some r := by rw [if_pos rfl] at H; exact H
                 clear H
                 have H := H1
                 clear H1
                 by_cases c62 : t894 = true
                 ·subst c62
                  have H1 : (if t896.toList = t879.toList then (if (t897.length : Int) = 0 then (if (t883.length : Int) = (l2.length : Int) then (if (wrap64 ((wrap64 (2 * (t880.length : Int))) + (l2.length : Int))) > a1 then (foghornlaw20_MendNever.j4 kj33 a0 l2 true t879 t880 t883) else (if t890 = true then (foghornlaw20_MendNever.j4 kj33 a0 l2 (x11_23.toList != t879.toList) t879 t880 t883) else (foghornlaw20_MendNever.j4 kj33 a0 l2 false t879 t880 t883))) else (foghornlaw20_MendNever.j4 kj33 a0 l2 true t879 t880 t883)) else (foghornlaw20_MendNever.j4 kj33 a0 l2 true t879 t880 t883)) else (foghornlaw20_MendNever.j4 kj33 a0 l2 true t879 t880 t883)) = some r := by rw [if_pos rfl] at H; exact H
                  clear H
                  have H := H1
                  clear H1
                  by_cases c63 : t896.toList = t879.toList
                  ·rw [if_pos c63] at H
                   have c63b0 : (t896.toList == t879.toList) = true := beq_iff_eq.mpr c63
                   have c63b1 : (t896.toList != t879.toList) = false := bne_eq_false_iff_eq.mpr c63
                   clear c63
                   by_cases c64 : (t897.length : Int) = 0
                   ·rw [if_pos c64] at H
                    have c64b0 : ((t897.length : Int) == 0) = true := beq_iff_eq.mpr c64
                    have c64b1 : ((t897.length : Int) != 0) = false := bne_eq_false_iff_eq.mpr c64
                    clear c64
                    by_cases c65 : (t883.length : Int) = (l2.length : Int)
                    ·rw [if_pos c65] at H
                     have c65b0 : ((t883.length : Int) == (l2.length : Int)) = true := beq_iff_eq.mpr c65
                     have c65b1 : ((t883.length : Int) != (l2.length : Int)) = false := bne_eq_false_iff_eq.mpr c65
                     have c65b2 : (t883.length == l2.length) = true := by first | simpa using c65 | (simp at c65 ⊢; omega)
                     clear c65
                     by_cases c66 : (wrap64 ((wrap64 (2 * (t880.length : Int))) + (l2.length : Int))) > a1
                     ·rw [if_pos c66] at H
                      have c66b0 : decide (a1 < (wrap64 ((wrap64 (2 * (t880.length : Int))) + (l2.length : Int)))) = true := decide_eq_true c66
                      clear c66
                      as_aux_lemma =>
                       have H' := Aside0.mk H
                       clear H
                       have hnb67 := NB904_887.out
                       have hnc67 := NB887_904.out
                       have hcz68_0 : w52.cell? ⟨gb904, 0, none⟩ = some (.string (⟨#[]⟩ : ByteArray)) := (blk_cell BK904.out 0).trans rfl
                       have hcz68_1 : w52.cell? ⟨gb904, 1, none⟩ = some (.slice none 0 0) := (blk_cell BK904.out 1).trans rfl
                       have hcz68_2 : w52.cell? ⟨gb904, 2, none⟩ = some (.slice none 0 0) := (blk_cell BK904.out 2).trans rfl
                       have hfz68_0 := blk_frozen BK904.out 0
                       have hfz68_1 := blk_frozen BK904.out 1
                       have hfz68_2 := blk_frozen BK904.out 2
                       have hcz69_0 : w52.cell? ⟨gb887, 0, none⟩ = some (.string t879) := (blk_cell BK887.out 0).trans rfl
                       have hcz69_1 : w52.cell? ⟨gb887, 1, none⟩ = some (.slice Ao21 t880.length co21) := (blk_cell BK887.out 1).trans rfl
                       have hcz69_2 : w52.cell? ⟨gb887, 2, none⟩ = some (.slice Ao22 t883.length co22) := (blk_cell BK887.out 2).trans rfl
                       have hfz69_0 := blk_frozen BK887.out 0
                       have hfz69_1 := blk_frozen BK887.out 1
                       have hfz69_2 := blk_frozen BK887.out 2
                       go_wp2
                       repeat (go_quiet (fail); try go_wp2)
                       go_meet
                       case rel => exact ⟨_, (true), (by first | rfl | (simp; done) | (simp [*]; done)), H', ⟨by have := HJ15.out; have := HJ23.out; have := HJ33.out; first | omega | exact Nat.le_refl _⟩, ⟨by (with_reducible repeat (first | apply Kd.R_alloc | apply Kd.R_drewN | apply Kd.R_drew)); exact Kd.R_mono (Kd.R_far (p := ⟨gb904, 2, none⟩) (Kd.R_far (p := ⟨gb904, 1, none⟩) (Kd.R_far (p := ⟨gb904, 0, none⟩) (Kd.R_types HO_888001.out BK904.out (by decide)) (fun _ hk => hk.2) (.string t896)) (fun _ hk => hk.2) (.slice Ao55 t897.length co55)) (fun _ hk => hk.2) (.slice Ao56 t900.length co56)) (fun _ hk => ⟨hk.1.1.1, ⟨hk.1.1.2, hk.1.2⟩⟩)⟩, ⟨by (with_reducible repeat (first | apply Kd.R_alloc | apply Kd.R_drewN | apply Kd.R_drew)); exact Kd.R_mono (Kd.R_far (p := ⟨gb904, 2, none⟩) (Kd.R_far (p := ⟨gb904, 1, none⟩) (Kd.R_far (p := ⟨gb904, 0, none⟩) (Kd.R_types HO_888002.out BK904.out (by decide)) (fun _ hk => hk.2) (.string t896)) (fun _ hk => hk.2) (.slice Ao55 t897.length co55)) (fun _ hk => hk.2) (.slice Ao56 t900.length co56)) (fun _ hk => ⟨hk.1.1.1, ⟨hk.1.1.2, hk.1.2⟩⟩)⟩, ⟨by (with_reducible repeat (first | apply Kd.R_alloc | apply Kd.R_drewN | apply Kd.R_drew)); exact Kd.R_mono (Kd.R_far (p := ⟨gb904, 2, none⟩) (Kd.R_far (p := ⟨gb904, 1, none⟩) (Kd.R_far (p := ⟨gb904, 0, none⟩) (Kd.R_types HO899.out BK904.out (by decide)) (fun _ hk => hk.2) (.string t896)) (fun _ hk => hk.2) (.slice Ao55 t897.length co55)) (fun _ hk => hk.2) (.slice Ao56 t900.length co56)) (fun _ hk => ⟨hk.1.1.2, ⟨hk.1.2, hk.1.1.1⟩⟩)⟩, ⟨by (with_reducible repeat (first | apply Kd.R_alloc | apply Kd.R_drewN | apply Kd.R_drew)); exact Kd.R_mono (Kd.R_far (p := ⟨gb904, 2, none⟩) (Kd.R_far (p := ⟨gb904, 1, none⟩) (Kd.R_far (p := ⟨gb904, 0, none⟩) (Kd.R_types HO902.out BK904.out (by decide)) (fun _ hk => hk.2) (.string t896)) (fun _ hk => hk.2) (.slice Ao55 t897.length co55)) (fun _ hk => hk.2) (.slice Ao56 t900.length co56)) (fun _ hk => ⟨hk.1.1.2, ⟨hk.1.2, hk.1.1.1⟩⟩)⟩, ⟨by (with_reducible repeat (first | refine blk_drewN ?_ _ | refine blk_drew ?_ | refine blk_alloc ?_ _)); refine blk_far ?_ NB887_904.out _; (with_reducible repeat (first | refine blk_drewN ?_ _ | refine blk_drew ?_ | refine blk_alloc ?_ _)); refine blk_far ?_ NB887_904.out _; (with_reducible repeat (first | refine blk_drewN ?_ _ | refine blk_drew ?_ | refine blk_alloc ?_ _)); refine blk_far ?_ NB887_904.out _; (with_reducible repeat (first | refine blk_drewN ?_ _ | refine blk_drew ?_ | refine blk_alloc ?_ _)); exact BK887.out⟩, ⟨by (with_reducible repeat (first | refine blk_drewN ?_ _ | refine blk_drew ?_ | refine blk_alloc ?_ _)); refine blk_put (cs := #[.string t896, .slice Ao55 t897.length co55, .slice none 0 0]) ?_ 2 _ rfl; (with_reducible repeat (first | refine blk_drewN ?_ _ | refine blk_drew ?_ | refine blk_alloc ?_ _)); refine blk_put (cs := #[.string t896, .slice none 0 0, .slice none 0 0]) ?_ 1 _ rfl; (with_reducible repeat (first | refine blk_drewN ?_ _ | refine blk_drew ?_ | refine blk_alloc ?_ _)); refine blk_put (cs := #[.string (⟨#[]⟩ : ByteArray), .slice none 0 0, .slice none 0 0]) ?_ 0 _ rfl; (with_reducible repeat (first | refine blk_drewN ?_ _ | refine blk_drew ?_ | refine blk_alloc ?_ _)); exact BK904.out⟩, ⟨by repeat (first | (with_reducible first | exact HB.out | apply below_alloc | apply pw_below_drewN | apply below_drew1 | refine below_set ?_ GE887.out | refine below_set ?_ GE904.out) | exact HB.out)⟩⟩
                     ·rw [if_neg c66] at H
                      have c66b0 : decide (a1 < (wrap64 ((wrap64 (2 * (t880.length : Int))) + (l2.length : Int)))) = false := decide_eq_false c66
                      clear c66
                      by_cases c70 : t890 = true
                      ·subst c70
                       have H1 : (foghornlaw20_MendNever.j4 kj33 a0 l2 (x11_23.toList != t879.toList) t879 t880 t883) = some r := by rw [if_pos rfl] at H; exact H
                       clear H
                       have H := H1
                       clear H1
                       as_aux_lemma =>
                        have H' := Aside0.mk H
                        clear H
                        have hnb71 := NB904_887.out
                        have hnc71 := NB887_904.out
                        have hcz72_0 : w52.cell? ⟨gb904, 0, none⟩ = some (.string (⟨#[]⟩ : ByteArray)) := (blk_cell BK904.out 0).trans rfl
                        have hcz72_1 : w52.cell? ⟨gb904, 1, none⟩ = some (.slice none 0 0) := (blk_cell BK904.out 1).trans rfl
                        have hcz72_2 : w52.cell? ⟨gb904, 2, none⟩ = some (.slice none 0 0) := (blk_cell BK904.out 2).trans rfl
                        have hfz72_0 := blk_frozen BK904.out 0
                        have hfz72_1 := blk_frozen BK904.out 1
                        have hfz72_2 := blk_frozen BK904.out 2
                        have hcz73_0 : w52.cell? ⟨gb887, 0, none⟩ = some (.string t879) := (blk_cell BK887.out 0).trans rfl
                        have hcz73_1 : w52.cell? ⟨gb887, 1, none⟩ = some (.slice Ao21 t880.length co21) := (blk_cell BK887.out 1).trans rfl
                        have hcz73_2 : w52.cell? ⟨gb887, 2, none⟩ = some (.slice Ao22 t883.length co22) := (blk_cell BK887.out 2).trans rfl
                        have hfz73_0 := blk_frozen BK887.out 0
                        have hfz73_1 := blk_frozen BK887.out 1
                        have hfz73_2 := blk_frozen BK887.out 2
                        go_wp2
                        repeat (go_quiet (fail); try go_wp2)
                        go_meet
                        case rel => exact ⟨_, ((x11_23.toList != t879.toList)), (by first | rfl | (simp; done) | (simp [*]; done)), H', ⟨by have := HJ15.out; have := HJ23.out; have := HJ33.out; first | omega | exact Nat.le_refl _⟩, ⟨by (with_reducible repeat (first | apply Kd.R_alloc | apply Kd.R_drewN | apply Kd.R_drew)); exact Kd.R_mono (Kd.R_far (p := ⟨gb904, 2, none⟩) (Kd.R_far (p := ⟨gb904, 1, none⟩) (Kd.R_far (p := ⟨gb904, 0, none⟩) (Kd.R_types HO_888001.out BK904.out (by decide)) (fun _ hk => hk.2) (.string t896)) (fun _ hk => hk.2) (.slice Ao55 t897.length co55)) (fun _ hk => hk.2) (.slice Ao56 t900.length co56)) (fun _ hk => ⟨hk.1.1.1, ⟨hk.1.1.2, hk.1.2⟩⟩)⟩, ⟨by (with_reducible repeat (first | apply Kd.R_alloc | apply Kd.R_drewN | apply Kd.R_drew)); exact Kd.R_mono (Kd.R_far (p := ⟨gb904, 2, none⟩) (Kd.R_far (p := ⟨gb904, 1, none⟩) (Kd.R_far (p := ⟨gb904, 0, none⟩) (Kd.R_types HO_888002.out BK904.out (by decide)) (fun _ hk => hk.2) (.string t896)) (fun _ hk => hk.2) (.slice Ao55 t897.length co55)) (fun _ hk => hk.2) (.slice Ao56 t900.length co56)) (fun _ hk => ⟨hk.1.1.1, ⟨hk.1.1.2, hk.1.2⟩⟩)⟩, ⟨by (with_reducible repeat (first | apply Kd.R_alloc | apply Kd.R_drewN | apply Kd.R_drew)); exact Kd.R_mono (Kd.R_far (p := ⟨gb904, 2, none⟩) (Kd.R_far (p := ⟨gb904, 1, none⟩) (Kd.R_far (p := ⟨gb904, 0, none⟩) (Kd.R_types HO899.out BK904.out (by decide)) (fun _ hk => hk.2) (.string t896)) (fun _ hk => hk.2) (.slice Ao55 t897.length co55)) (fun _ hk => hk.2) (.slice Ao56 t900.length co56)) (fun _ hk => ⟨hk.1.1.2, ⟨hk.1.2, hk.1.1.1⟩⟩)⟩, ⟨by (with_reducible repeat (first | apply Kd.R_alloc | apply Kd.R_drewN | apply Kd.R_drew)); exact Kd.R_mono (Kd.R_far (p := ⟨gb904, 2, none⟩) (Kd.R_far (p := ⟨gb904, 1, none⟩) (Kd.R_far (p := ⟨gb904, 0, none⟩) (Kd.R_types HO902.out BK904.out (by decide)) (fun _ hk => hk.2) (.string t896)) (fun _ hk => hk.2) (.slice Ao55 t897.length co55)) (fun _ hk => hk.2) (.slice Ao56 t900.length co56)) (fun _ hk => ⟨hk.1.1.2, ⟨hk.1.2, hk.1.1.1⟩⟩)⟩, ⟨by (with_reducible repeat (first | refine blk_drewN ?_ _ | refine blk_drew ?_ | refine blk_alloc ?_ _)); refine blk_far ?_ NB887_904.out _; (with_reducible repeat (first | refine blk_drewN ?_ _ | refine blk_drew ?_ | refine blk_alloc ?_ _)); refine blk_far ?_ NB887_904.out _; (with_reducible repeat (first | refine blk_drewN ?_ _ | refine blk_drew ?_ | refine blk_alloc ?_ _)); refine blk_far ?_ NB887_904.out _; (with_reducible repeat (first | refine blk_drewN ?_ _ | refine blk_drew ?_ | refine blk_alloc ?_ _)); exact BK887.out⟩, ⟨by (with_reducible repeat (first | refine blk_drewN ?_ _ | refine blk_drew ?_ | refine blk_alloc ?_ _)); refine blk_put (cs := #[.string t896, .slice Ao55 t897.length co55, .slice none 0 0]) ?_ 2 _ rfl; (with_reducible repeat (first | refine blk_drewN ?_ _ | refine blk_drew ?_ | refine blk_alloc ?_ _)); refine blk_put (cs := #[.string t896, .slice none 0 0, .slice none 0 0]) ?_ 1 _ rfl; (with_reducible repeat (first | refine blk_drewN ?_ _ | refine blk_drew ?_ | refine blk_alloc ?_ _)); refine blk_put (cs := #[.string (⟨#[]⟩ : ByteArray), .slice none 0 0, .slice none 0 0]) ?_ 0 _ rfl; (with_reducible repeat (first | refine blk_drewN ?_ _ | refine blk_drew ?_ | refine blk_alloc ?_ _)); exact BK904.out⟩, ⟨by repeat (first | (with_reducible first | exact HB.out | apply below_alloc | apply pw_below_drewN | apply below_drew1 | refine below_set ?_ GE887.out | refine below_set ?_ GE904.out) | exact HB.out)⟩⟩
                      ·replace c70 := Bool.eq_false_iff.mpr c70
                       subst c70
                       have H1 : (foghornlaw20_MendNever.j4 kj33 a0 l2 false t879 t880 t883) = some r := by rw [if_neg (show ¬ (false = true) by decide)] at H; exact H
                       clear H
                       have H := H1
                       clear H1
                       as_aux_lemma =>
                        have H' := Aside0.mk H
                        clear H
                        have hnb74 := NB904_887.out
                        have hnc74 := NB887_904.out
                        have hcz75_0 : w52.cell? ⟨gb904, 0, none⟩ = some (.string (⟨#[]⟩ : ByteArray)) := (blk_cell BK904.out 0).trans rfl
                        have hcz75_1 : w52.cell? ⟨gb904, 1, none⟩ = some (.slice none 0 0) := (blk_cell BK904.out 1).trans rfl
                        have hcz75_2 : w52.cell? ⟨gb904, 2, none⟩ = some (.slice none 0 0) := (blk_cell BK904.out 2).trans rfl
                        have hfz75_0 := blk_frozen BK904.out 0
                        have hfz75_1 := blk_frozen BK904.out 1
                        have hfz75_2 := blk_frozen BK904.out 2
                        have hcz76_0 : w52.cell? ⟨gb887, 0, none⟩ = some (.string t879) := (blk_cell BK887.out 0).trans rfl
                        have hcz76_1 : w52.cell? ⟨gb887, 1, none⟩ = some (.slice Ao21 t880.length co21) := (blk_cell BK887.out 1).trans rfl
                        have hcz76_2 : w52.cell? ⟨gb887, 2, none⟩ = some (.slice Ao22 t883.length co22) := (blk_cell BK887.out 2).trans rfl
                        have hfz76_0 := blk_frozen BK887.out 0
                        have hfz76_1 := blk_frozen BK887.out 1
                        have hfz76_2 := blk_frozen BK887.out 2
                        go_wp2
                        repeat (go_quiet (fail); try go_wp2)
                        go_meet
                        case rel => exact ⟨_, (false), (by first | rfl | (simp; done) | (simp [*]; done)), H', ⟨by have := HJ15.out; have := HJ23.out; have := HJ33.out; first | omega | exact Nat.le_refl _⟩, ⟨by (with_reducible repeat (first | apply Kd.R_alloc | apply Kd.R_drewN | apply Kd.R_drew)); exact Kd.R_mono (Kd.R_far (p := ⟨gb904, 2, none⟩) (Kd.R_far (p := ⟨gb904, 1, none⟩) (Kd.R_far (p := ⟨gb904, 0, none⟩) (Kd.R_types HO_888001.out BK904.out (by decide)) (fun _ hk => hk.2) (.string t896)) (fun _ hk => hk.2) (.slice Ao55 t897.length co55)) (fun _ hk => hk.2) (.slice Ao56 t900.length co56)) (fun _ hk => ⟨hk.1.1.1, ⟨hk.1.1.2, hk.1.2⟩⟩)⟩, ⟨by (with_reducible repeat (first | apply Kd.R_alloc | apply Kd.R_drewN | apply Kd.R_drew)); exact Kd.R_mono (Kd.R_far (p := ⟨gb904, 2, none⟩) (Kd.R_far (p := ⟨gb904, 1, none⟩) (Kd.R_far (p := ⟨gb904, 0, none⟩) (Kd.R_types HO_888002.out BK904.out (by decide)) (fun _ hk => hk.2) (.string t896)) (fun _ hk => hk.2) (.slice Ao55 t897.length co55)) (fun _ hk => hk.2) (.slice Ao56 t900.length co56)) (fun _ hk => ⟨hk.1.1.1, ⟨hk.1.1.2, hk.1.2⟩⟩)⟩, ⟨by (with_reducible repeat (first | apply Kd.R_alloc | apply Kd.R_drewN | apply Kd.R_drew)); exact Kd.R_mono (Kd.R_far (p := ⟨gb904, 2, none⟩) (Kd.R_far (p := ⟨gb904, 1, none⟩) (Kd.R_far (p := ⟨gb904, 0, none⟩) (Kd.R_types HO899.out BK904.out (by decide)) (fun _ hk => hk.2) (.string t896)) (fun _ hk => hk.2) (.slice Ao55 t897.length co55)) (fun _ hk => hk.2) (.slice Ao56 t900.length co56)) (fun _ hk => ⟨hk.1.1.2, ⟨hk.1.2, hk.1.1.1⟩⟩)⟩, ⟨by (with_reducible repeat (first | apply Kd.R_alloc | apply Kd.R_drewN | apply Kd.R_drew)); exact Kd.R_mono (Kd.R_far (p := ⟨gb904, 2, none⟩) (Kd.R_far (p := ⟨gb904, 1, none⟩) (Kd.R_far (p := ⟨gb904, 0, none⟩) (Kd.R_types HO902.out BK904.out (by decide)) (fun _ hk => hk.2) (.string t896)) (fun _ hk => hk.2) (.slice Ao55 t897.length co55)) (fun _ hk => hk.2) (.slice Ao56 t900.length co56)) (fun _ hk => ⟨hk.1.1.2, ⟨hk.1.2, hk.1.1.1⟩⟩)⟩, ⟨by (with_reducible repeat (first | refine blk_drewN ?_ _ | refine blk_drew ?_ | refine blk_alloc ?_ _)); refine blk_far ?_ NB887_904.out _; (with_reducible repeat (first | refine blk_drewN ?_ _ | refine blk_drew ?_ | refine blk_alloc ?_ _)); refine blk_far ?_ NB887_904.out _; (with_reducible repeat (first | refine blk_drewN ?_ _ | refine blk_drew ?_ | refine blk_alloc ?_ _)); refine blk_far ?_ NB887_904.out _; (with_reducible repeat (first | refine blk_drewN ?_ _ | refine blk_drew ?_ | refine blk_alloc ?_ _)); exact BK887.out⟩, ⟨by (with_reducible repeat (first | refine blk_drewN ?_ _ | refine blk_drew ?_ | refine blk_alloc ?_ _)); refine blk_put (cs := #[.string t896, .slice Ao55 t897.length co55, .slice none 0 0]) ?_ 2 _ rfl; (with_reducible repeat (first | refine blk_drewN ?_ _ | refine blk_drew ?_ | refine blk_alloc ?_ _)); refine blk_put (cs := #[.string t896, .slice none 0 0, .slice none 0 0]) ?_ 1 _ rfl; (with_reducible repeat (first | refine blk_drewN ?_ _ | refine blk_drew ?_ | refine blk_alloc ?_ _)); refine blk_put (cs := #[.string (⟨#[]⟩ : ByteArray), .slice none 0 0, .slice none 0 0]) ?_ 0 _ rfl; (with_reducible repeat (first | refine blk_drewN ?_ _ | refine blk_drew ?_ | refine blk_alloc ?_ _)); exact BK904.out⟩, ⟨by repeat (first | (with_reducible first | exact HB.out | apply below_alloc | apply pw_below_drewN | apply below_drew1 | refine below_set ?_ GE887.out | refine below_set ?_ GE904.out) | exact HB.out)⟩⟩
                    ·rw [if_neg c65] at H
                     have c65b0 : ((t883.length : Int) == (l2.length : Int)) = false := beq_eq_false_iff_ne.mpr c65
                     have c65b1 : ((t883.length : Int) != (l2.length : Int)) = true := bne_iff_ne.mpr c65
                     have c65b2 : (t883.length == l2.length) = false := by first | simpa using c65 | (simp at c65 ⊢; omega)
                     as_aux_lemma =>
                      have H' := Aside0.mk H
                      clear H
                      have hnb77 := NB904_887.out
                      have hnc77 := NB887_904.out
                      have hcz78_0 : w52.cell? ⟨gb904, 0, none⟩ = some (.string (⟨#[]⟩ : ByteArray)) := (blk_cell BK904.out 0).trans rfl
                      have hcz78_1 : w52.cell? ⟨gb904, 1, none⟩ = some (.slice none 0 0) := (blk_cell BK904.out 1).trans rfl
                      have hcz78_2 : w52.cell? ⟨gb904, 2, none⟩ = some (.slice none 0 0) := (blk_cell BK904.out 2).trans rfl
                      have hfz78_0 := blk_frozen BK904.out 0
                      have hfz78_1 := blk_frozen BK904.out 1
                      have hfz78_2 := blk_frozen BK904.out 2
                      have hcz79_0 : w52.cell? ⟨gb887, 0, none⟩ = some (.string t879) := (blk_cell BK887.out 0).trans rfl
                      have hcz79_1 : w52.cell? ⟨gb887, 1, none⟩ = some (.slice Ao21 t880.length co21) := (blk_cell BK887.out 1).trans rfl
                      have hcz79_2 : w52.cell? ⟨gb887, 2, none⟩ = some (.slice Ao22 t883.length co22) := (blk_cell BK887.out 2).trans rfl
                      have hfz79_0 := blk_frozen BK887.out 0
                      have hfz79_1 := blk_frozen BK887.out 1
                      have hfz79_2 := blk_frozen BK887.out 2
                      go_wp2
                      repeat (go_quiet (fail); try go_wp2)
                      go_meet
                      case rel => exact ⟨_, (true), (by first | rfl | (simp; done) | (simp [*]; done)), H', ⟨by have := HJ15.out; have := HJ23.out; have := HJ33.out; first | omega | exact Nat.le_refl _⟩, ⟨by (with_reducible repeat (first | apply Kd.R_alloc | apply Kd.R_drewN | apply Kd.R_drew)); exact Kd.R_mono (Kd.R_far (p := ⟨gb904, 2, none⟩) (Kd.R_far (p := ⟨gb904, 1, none⟩) (Kd.R_far (p := ⟨gb904, 0, none⟩) (Kd.R_types HO_888001.out BK904.out (by decide)) (fun _ hk => hk.2) (.string t896)) (fun _ hk => hk.2) (.slice Ao55 t897.length co55)) (fun _ hk => hk.2) (.slice Ao56 t900.length co56)) (fun _ hk => ⟨hk.1.1.1, ⟨hk.1.1.2, hk.1.2⟩⟩)⟩, ⟨by (with_reducible repeat (first | apply Kd.R_alloc | apply Kd.R_drewN | apply Kd.R_drew)); exact Kd.R_mono (Kd.R_far (p := ⟨gb904, 2, none⟩) (Kd.R_far (p := ⟨gb904, 1, none⟩) (Kd.R_far (p := ⟨gb904, 0, none⟩) (Kd.R_types HO_888002.out BK904.out (by decide)) (fun _ hk => hk.2) (.string t896)) (fun _ hk => hk.2) (.slice Ao55 t897.length co55)) (fun _ hk => hk.2) (.slice Ao56 t900.length co56)) (fun _ hk => ⟨hk.1.1.1, ⟨hk.1.1.2, hk.1.2⟩⟩)⟩, ⟨by (with_reducible repeat (first | apply Kd.R_alloc | apply Kd.R_drewN | apply Kd.R_drew)); exact Kd.R_mono (Kd.R_far (p := ⟨gb904, 2, none⟩) (Kd.R_far (p := ⟨gb904, 1, none⟩) (Kd.R_far (p := ⟨gb904, 0, none⟩) (Kd.R_types HO899.out BK904.out (by decide)) (fun _ hk => hk.2) (.string t896)) (fun _ hk => hk.2) (.slice Ao55 t897.length co55)) (fun _ hk => hk.2) (.slice Ao56 t900.length co56)) (fun _ hk => ⟨hk.1.1.2, ⟨hk.1.2, hk.1.1.1⟩⟩)⟩, ⟨by (with_reducible repeat (first | apply Kd.R_alloc | apply Kd.R_drewN | apply Kd.R_drew)); exact Kd.R_mono (Kd.R_far (p := ⟨gb904, 2, none⟩) (Kd.R_far (p := ⟨gb904, 1, none⟩) (Kd.R_far (p := ⟨gb904, 0, none⟩) (Kd.R_types HO902.out BK904.out (by decide)) (fun _ hk => hk.2) (.string t896)) (fun _ hk => hk.2) (.slice Ao55 t897.length co55)) (fun _ hk => hk.2) (.slice Ao56 t900.length co56)) (fun _ hk => ⟨hk.1.1.2, ⟨hk.1.2, hk.1.1.1⟩⟩)⟩, ⟨by (with_reducible repeat (first | refine blk_drewN ?_ _ | refine blk_drew ?_ | refine blk_alloc ?_ _)); refine blk_far ?_ NB887_904.out _; (with_reducible repeat (first | refine blk_drewN ?_ _ | refine blk_drew ?_ | refine blk_alloc ?_ _)); refine blk_far ?_ NB887_904.out _; (with_reducible repeat (first | refine blk_drewN ?_ _ | refine blk_drew ?_ | refine blk_alloc ?_ _)); refine blk_far ?_ NB887_904.out _; (with_reducible repeat (first | refine blk_drewN ?_ _ | refine blk_drew ?_ | refine blk_alloc ?_ _)); exact BK887.out⟩, ⟨by (with_reducible repeat (first | refine blk_drewN ?_ _ | refine blk_drew ?_ | refine blk_alloc ?_ _)); refine blk_put (cs := #[.string t896, .slice Ao55 t897.length co55, .slice none 0 0]) ?_ 2 _ rfl; (with_reducible repeat (first | refine blk_drewN ?_ _ | refine blk_drew ?_ | refine blk_alloc ?_ _)); refine blk_put (cs := #[.string t896, .slice none 0 0, .slice none 0 0]) ?_ 1 _ rfl; (with_reducible repeat (first | refine blk_drewN ?_ _ | refine blk_drew ?_ | refine blk_alloc ?_ _)); refine blk_put (cs := #[.string (⟨#[]⟩ : ByteArray), .slice none 0 0, .slice none 0 0]) ?_ 0 _ rfl; (with_reducible repeat (first | refine blk_drewN ?_ _ | refine blk_drew ?_ | refine blk_alloc ?_ _)); exact BK904.out⟩, ⟨by repeat (first | (with_reducible first | exact HB.out | apply below_alloc | apply pw_below_drewN | apply below_drew1 | refine below_set ?_ GE887.out | refine below_set ?_ GE904.out) | exact HB.out)⟩⟩
                   ·rw [if_neg c64] at H
                    have c64b0 : ((t897.length : Int) == 0) = false := beq_eq_false_iff_ne.mpr c64
                    have c64b1 : ((t897.length : Int) != 0) = true := bne_iff_ne.mpr c64
                    have c64b2 : ¬ (t897 = []) := fun h_ => c64 (by rw [h_]; rfl)
                    as_aux_lemma =>
                     have H' := Aside0.mk H
                     clear H
                     have hnb80 := NB904_887.out
                     have hnc80 := NB887_904.out
                     have hcz81_0 : w52.cell? ⟨gb904, 0, none⟩ = some (.string (⟨#[]⟩ : ByteArray)) := (blk_cell BK904.out 0).trans rfl
                     have hcz81_1 : w52.cell? ⟨gb904, 1, none⟩ = some (.slice none 0 0) := (blk_cell BK904.out 1).trans rfl
                     have hcz81_2 : w52.cell? ⟨gb904, 2, none⟩ = some (.slice none 0 0) := (blk_cell BK904.out 2).trans rfl
                     have hfz81_0 := blk_frozen BK904.out 0
                     have hfz81_1 := blk_frozen BK904.out 1
                     have hfz81_2 := blk_frozen BK904.out 2
                     have hcz82_0 : w52.cell? ⟨gb887, 0, none⟩ = some (.string t879) := (blk_cell BK887.out 0).trans rfl
                     have hcz82_1 : w52.cell? ⟨gb887, 1, none⟩ = some (.slice Ao21 t880.length co21) := (blk_cell BK887.out 1).trans rfl
                     have hcz82_2 : w52.cell? ⟨gb887, 2, none⟩ = some (.slice Ao22 t883.length co22) := (blk_cell BK887.out 2).trans rfl
                     have hfz82_0 := blk_frozen BK887.out 0
                     have hfz82_1 := blk_frozen BK887.out 1
                     have hfz82_2 := blk_frozen BK887.out 2
                     go_wp2
                     repeat (go_quiet (fail); try go_wp2)
                     go_meet
                     case rel => exact ⟨_, (true), (by first | rfl | (simp; done) | (simp [*]; done)), H', ⟨by have := HJ15.out; have := HJ23.out; have := HJ33.out; first | omega | exact Nat.le_refl _⟩, ⟨by (with_reducible repeat (first | apply Kd.R_alloc | apply Kd.R_drewN | apply Kd.R_drew)); exact Kd.R_mono (Kd.R_far (p := ⟨gb904, 2, none⟩) (Kd.R_far (p := ⟨gb904, 1, none⟩) (Kd.R_far (p := ⟨gb904, 0, none⟩) (Kd.R_types HO_888001.out BK904.out (by decide)) (fun _ hk => hk.2) (.string t896)) (fun _ hk => hk.2) (.slice Ao55 t897.length co55)) (fun _ hk => hk.2) (.slice Ao56 t900.length co56)) (fun _ hk => ⟨hk.1.1.1, ⟨hk.1.1.2, hk.1.2⟩⟩)⟩, ⟨by (with_reducible repeat (first | apply Kd.R_alloc | apply Kd.R_drewN | apply Kd.R_drew)); exact Kd.R_mono (Kd.R_far (p := ⟨gb904, 2, none⟩) (Kd.R_far (p := ⟨gb904, 1, none⟩) (Kd.R_far (p := ⟨gb904, 0, none⟩) (Kd.R_types HO_888002.out BK904.out (by decide)) (fun _ hk => hk.2) (.string t896)) (fun _ hk => hk.2) (.slice Ao55 t897.length co55)) (fun _ hk => hk.2) (.slice Ao56 t900.length co56)) (fun _ hk => ⟨hk.1.1.1, ⟨hk.1.1.2, hk.1.2⟩⟩)⟩, ⟨by (with_reducible repeat (first | apply Kd.R_alloc | apply Kd.R_drewN | apply Kd.R_drew)); exact Kd.R_mono (Kd.R_far (p := ⟨gb904, 2, none⟩) (Kd.R_far (p := ⟨gb904, 1, none⟩) (Kd.R_far (p := ⟨gb904, 0, none⟩) (Kd.R_types HO899.out BK904.out (by decide)) (fun _ hk => hk.2) (.string t896)) (fun _ hk => hk.2) (.slice Ao55 t897.length co55)) (fun _ hk => hk.2) (.slice Ao56 t900.length co56)) (fun _ hk => ⟨hk.1.1.2, ⟨hk.1.2, hk.1.1.1⟩⟩)⟩, ⟨by (with_reducible repeat (first | apply Kd.R_alloc | apply Kd.R_drewN | apply Kd.R_drew)); exact Kd.R_mono (Kd.R_far (p := ⟨gb904, 2, none⟩) (Kd.R_far (p := ⟨gb904, 1, none⟩) (Kd.R_far (p := ⟨gb904, 0, none⟩) (Kd.R_types HO902.out BK904.out (by decide)) (fun _ hk => hk.2) (.string t896)) (fun _ hk => hk.2) (.slice Ao55 t897.length co55)) (fun _ hk => hk.2) (.slice Ao56 t900.length co56)) (fun _ hk => ⟨hk.1.1.2, ⟨hk.1.2, hk.1.1.1⟩⟩)⟩, ⟨by (with_reducible repeat (first | refine blk_drewN ?_ _ | refine blk_drew ?_ | refine blk_alloc ?_ _)); refine blk_far ?_ NB887_904.out _; (with_reducible repeat (first | refine blk_drewN ?_ _ | refine blk_drew ?_ | refine blk_alloc ?_ _)); refine blk_far ?_ NB887_904.out _; (with_reducible repeat (first | refine blk_drewN ?_ _ | refine blk_drew ?_ | refine blk_alloc ?_ _)); refine blk_far ?_ NB887_904.out _; (with_reducible repeat (first | refine blk_drewN ?_ _ | refine blk_drew ?_ | refine blk_alloc ?_ _)); exact BK887.out⟩, ⟨by (with_reducible repeat (first | refine blk_drewN ?_ _ | refine blk_drew ?_ | refine blk_alloc ?_ _)); refine blk_put (cs := #[.string t896, .slice Ao55 t897.length co55, .slice none 0 0]) ?_ 2 _ rfl; (with_reducible repeat (first | refine blk_drewN ?_ _ | refine blk_drew ?_ | refine blk_alloc ?_ _)); refine blk_put (cs := #[.string t896, .slice none 0 0, .slice none 0 0]) ?_ 1 _ rfl; (with_reducible repeat (first | refine blk_drewN ?_ _ | refine blk_drew ?_ | refine blk_alloc ?_ _)); refine blk_put (cs := #[.string (⟨#[]⟩ : ByteArray), .slice none 0 0, .slice none 0 0]) ?_ 0 _ rfl; (with_reducible repeat (first | refine blk_drewN ?_ _ | refine blk_drew ?_ | refine blk_alloc ?_ _)); exact BK904.out⟩, ⟨by repeat (first | (with_reducible first | exact HB.out | apply below_alloc | apply pw_below_drewN | apply below_drew1 | refine below_set ?_ GE887.out | refine below_set ?_ GE904.out) | exact HB.out)⟩⟩
                  ·rw [if_neg c63] at H
                   have c63b0 : (t896.toList == t879.toList) = false := beq_eq_false_iff_ne.mpr c63
                   have c63b1 : (t896.toList != t879.toList) = true := bne_iff_ne.mpr c63
                   as_aux_lemma =>
                    have H' := Aside0.mk H
                    clear H
                    have hnb83 := NB904_887.out
                    have hnc83 := NB887_904.out
                    have hcz84_0 : w52.cell? ⟨gb904, 0, none⟩ = some (.string (⟨#[]⟩ : ByteArray)) := (blk_cell BK904.out 0).trans rfl
                    have hcz84_1 : w52.cell? ⟨gb904, 1, none⟩ = some (.slice none 0 0) := (blk_cell BK904.out 1).trans rfl
                    have hcz84_2 : w52.cell? ⟨gb904, 2, none⟩ = some (.slice none 0 0) := (blk_cell BK904.out 2).trans rfl
                    have hfz84_0 := blk_frozen BK904.out 0
                    have hfz84_1 := blk_frozen BK904.out 1
                    have hfz84_2 := blk_frozen BK904.out 2
                    have hcz85_0 : w52.cell? ⟨gb887, 0, none⟩ = some (.string t879) := (blk_cell BK887.out 0).trans rfl
                    have hcz85_1 : w52.cell? ⟨gb887, 1, none⟩ = some (.slice Ao21 t880.length co21) := (blk_cell BK887.out 1).trans rfl
                    have hcz85_2 : w52.cell? ⟨gb887, 2, none⟩ = some (.slice Ao22 t883.length co22) := (blk_cell BK887.out 2).trans rfl
                    have hfz85_0 := blk_frozen BK887.out 0
                    have hfz85_1 := blk_frozen BK887.out 1
                    have hfz85_2 := blk_frozen BK887.out 2
                    go_wp2
                    repeat (go_quiet (fail); try go_wp2)
                    go_meet
                    case rel => exact ⟨_, (true), (by first | rfl | (simp; done) | (simp [*]; done)), H', ⟨by have := HJ15.out; have := HJ23.out; have := HJ33.out; first | omega | exact Nat.le_refl _⟩, ⟨by (with_reducible repeat (first | apply Kd.R_alloc | apply Kd.R_drewN | apply Kd.R_drew)); exact Kd.R_mono (Kd.R_far (p := ⟨gb904, 2, none⟩) (Kd.R_far (p := ⟨gb904, 1, none⟩) (Kd.R_far (p := ⟨gb904, 0, none⟩) (Kd.R_types HO_888001.out BK904.out (by decide)) (fun _ hk => hk.2) (.string t896)) (fun _ hk => hk.2) (.slice Ao55 t897.length co55)) (fun _ hk => hk.2) (.slice Ao56 t900.length co56)) (fun _ hk => ⟨hk.1.1.1, ⟨hk.1.1.2, hk.1.2⟩⟩)⟩, ⟨by (with_reducible repeat (first | apply Kd.R_alloc | apply Kd.R_drewN | apply Kd.R_drew)); exact Kd.R_mono (Kd.R_far (p := ⟨gb904, 2, none⟩) (Kd.R_far (p := ⟨gb904, 1, none⟩) (Kd.R_far (p := ⟨gb904, 0, none⟩) (Kd.R_types HO_888002.out BK904.out (by decide)) (fun _ hk => hk.2) (.string t896)) (fun _ hk => hk.2) (.slice Ao55 t897.length co55)) (fun _ hk => hk.2) (.slice Ao56 t900.length co56)) (fun _ hk => ⟨hk.1.1.1, ⟨hk.1.1.2, hk.1.2⟩⟩)⟩, ⟨by (with_reducible repeat (first | apply Kd.R_alloc | apply Kd.R_drewN | apply Kd.R_drew)); exact Kd.R_mono (Kd.R_far (p := ⟨gb904, 2, none⟩) (Kd.R_far (p := ⟨gb904, 1, none⟩) (Kd.R_far (p := ⟨gb904, 0, none⟩) (Kd.R_types HO899.out BK904.out (by decide)) (fun _ hk => hk.2) (.string t896)) (fun _ hk => hk.2) (.slice Ao55 t897.length co55)) (fun _ hk => hk.2) (.slice Ao56 t900.length co56)) (fun _ hk => ⟨hk.1.1.2, ⟨hk.1.2, hk.1.1.1⟩⟩)⟩, ⟨by (with_reducible repeat (first | apply Kd.R_alloc | apply Kd.R_drewN | apply Kd.R_drew)); exact Kd.R_mono (Kd.R_far (p := ⟨gb904, 2, none⟩) (Kd.R_far (p := ⟨gb904, 1, none⟩) (Kd.R_far (p := ⟨gb904, 0, none⟩) (Kd.R_types HO902.out BK904.out (by decide)) (fun _ hk => hk.2) (.string t896)) (fun _ hk => hk.2) (.slice Ao55 t897.length co55)) (fun _ hk => hk.2) (.slice Ao56 t900.length co56)) (fun _ hk => ⟨hk.1.1.2, ⟨hk.1.2, hk.1.1.1⟩⟩)⟩, ⟨by (with_reducible repeat (first | refine blk_drewN ?_ _ | refine blk_drew ?_ | refine blk_alloc ?_ _)); refine blk_far ?_ NB887_904.out _; (with_reducible repeat (first | refine blk_drewN ?_ _ | refine blk_drew ?_ | refine blk_alloc ?_ _)); refine blk_far ?_ NB887_904.out _; (with_reducible repeat (first | refine blk_drewN ?_ _ | refine blk_drew ?_ | refine blk_alloc ?_ _)); refine blk_far ?_ NB887_904.out _; (with_reducible repeat (first | refine blk_drewN ?_ _ | refine blk_drew ?_ | refine blk_alloc ?_ _)); exact BK887.out⟩, ⟨by (with_reducible repeat (first | refine blk_drewN ?_ _ | refine blk_drew ?_ | refine blk_alloc ?_ _)); refine blk_put (cs := #[.string t896, .slice Ao55 t897.length co55, .slice none 0 0]) ?_ 2 _ rfl; (with_reducible repeat (first | refine blk_drewN ?_ _ | refine blk_drew ?_ | refine blk_alloc ?_ _)); refine blk_put (cs := #[.string t896, .slice none 0 0, .slice none 0 0]) ?_ 1 _ rfl; (with_reducible repeat (first | refine blk_drewN ?_ _ | refine blk_drew ?_ | refine blk_alloc ?_ _)); refine blk_put (cs := #[.string (⟨#[]⟩ : ByteArray), .slice none 0 0, .slice none 0 0]) ?_ 0 _ rfl; (with_reducible repeat (first | refine blk_drewN ?_ _ | refine blk_drew ?_ | refine blk_alloc ?_ _)); exact BK904.out⟩, ⟨by repeat (first | (with_reducible first | exact HB.out | apply below_alloc | apply pw_below_drewN | apply below_drew1 | refine below_set ?_ GE887.out | refine below_set ?_ GE904.out) | exact HB.out)⟩⟩
                 ·replace c62 := Bool.eq_false_iff.mpr c62
                  subst c62
                  have H1 : (foghornlaw20_MendNever.j4 kj33 a0 l2 true t879 t880 t883) = some r := by rw [if_neg (show ¬ (false = true) by decide)] at H; exact H
                  clear H
                  have H := H1
                  clear H1
                  as_aux_lemma =>
                   have H' := Aside0.mk H
                   clear H
                   go_wp2
                   repeat (go_quiet (fail); try go_wp2)
                   go_meet
                   case rel => exact ⟨_, (true), (by first | rfl | (simp; done) | (simp [*]; done)), H', ⟨by have := HJ15.out; have := HJ23.out; have := HJ33.out; first | omega | exact Nat.le_refl _⟩, ⟨by (with_reducible repeat (first | apply Kd.R_alloc | apply Kd.R_drewN | apply Kd.R_drew)); exact Kd.R_mono (Kd.R_far (p := ⟨gb904, 2, none⟩) (Kd.R_far (p := ⟨gb904, 1, none⟩) (Kd.R_far (p := ⟨gb904, 0, none⟩) (Kd.R_types HO_888001.out BK904.out (by decide)) (fun _ hk => hk.2) (.string t896)) (fun _ hk => hk.2) (.slice Ao55 t897.length co55)) (fun _ hk => hk.2) (.slice Ao56 t900.length co56)) (fun _ hk => ⟨hk.1.1.1, ⟨hk.1.1.2, hk.1.2⟩⟩)⟩, ⟨by (with_reducible repeat (first | apply Kd.R_alloc | apply Kd.R_drewN | apply Kd.R_drew)); exact Kd.R_mono (Kd.R_far (p := ⟨gb904, 2, none⟩) (Kd.R_far (p := ⟨gb904, 1, none⟩) (Kd.R_far (p := ⟨gb904, 0, none⟩) (Kd.R_types HO_888002.out BK904.out (by decide)) (fun _ hk => hk.2) (.string t896)) (fun _ hk => hk.2) (.slice Ao55 t897.length co55)) (fun _ hk => hk.2) (.slice Ao56 t900.length co56)) (fun _ hk => ⟨hk.1.1.1, ⟨hk.1.1.2, hk.1.2⟩⟩)⟩, ⟨by (with_reducible repeat (first | apply Kd.R_alloc | apply Kd.R_drewN | apply Kd.R_drew)); exact Kd.R_mono (Kd.R_far (p := ⟨gb904, 2, none⟩) (Kd.R_far (p := ⟨gb904, 1, none⟩) (Kd.R_far (p := ⟨gb904, 0, none⟩) (Kd.R_types HO899.out BK904.out (by decide)) (fun _ hk => hk.2) (.string t896)) (fun _ hk => hk.2) (.slice Ao55 t897.length co55)) (fun _ hk => hk.2) (.slice Ao56 t900.length co56)) (fun _ hk => ⟨hk.1.1.2, ⟨hk.1.2, hk.1.1.1⟩⟩)⟩, ⟨by (with_reducible repeat (first | apply Kd.R_alloc | apply Kd.R_drewN | apply Kd.R_drew)); exact Kd.R_mono (Kd.R_far (p := ⟨gb904, 2, none⟩) (Kd.R_far (p := ⟨gb904, 1, none⟩) (Kd.R_far (p := ⟨gb904, 0, none⟩) (Kd.R_types HO902.out BK904.out (by decide)) (fun _ hk => hk.2) (.string t896)) (fun _ hk => hk.2) (.slice Ao55 t897.length co55)) (fun _ hk => hk.2) (.slice Ao56 t900.length co56)) (fun _ hk => ⟨hk.1.1.2, ⟨hk.1.2, hk.1.1.1⟩⟩)⟩, ⟨by (with_reducible repeat (first | refine blk_drewN ?_ _ | refine blk_drew ?_ | refine blk_alloc ?_ _)); refine blk_far ?_ NB887_904.out _; (with_reducible repeat (first | refine blk_drewN ?_ _ | refine blk_drew ?_ | refine blk_alloc ?_ _)); refine blk_far ?_ NB887_904.out _; (with_reducible repeat (first | refine blk_drewN ?_ _ | refine blk_drew ?_ | refine blk_alloc ?_ _)); refine blk_far ?_ NB887_904.out _; (with_reducible repeat (first | refine blk_drewN ?_ _ | refine blk_drew ?_ | refine blk_alloc ?_ _)); exact BK887.out⟩, ⟨by (with_reducible repeat (first | refine blk_drewN ?_ _ | refine blk_drew ?_ | refine blk_alloc ?_ _)); refine blk_put (cs := #[.string t896, .slice Ao55 t897.length co55, .slice none 0 0]) ?_ 2 _ rfl; (with_reducible repeat (first | refine blk_drewN ?_ _ | refine blk_drew ?_ | refine blk_alloc ?_ _)); refine blk_put (cs := #[.string t896, .slice none 0 0, .slice none 0 0]) ?_ 1 _ rfl; (with_reducible repeat (first | refine blk_drewN ?_ _ | refine blk_drew ?_ | refine blk_alloc ?_ _)); refine blk_put (cs := #[.string (⟨#[]⟩ : ByteArray), .slice none 0 0, .slice none 0 0]) ?_ 0 _ rfl; (with_reducible repeat (first | refine blk_drewN ?_ _ | refine blk_drew ?_ | refine blk_alloc ?_ _)); exact BK904.out⟩, ⟨by repeat (first | (with_reducible first | exact HB.out | apply below_alloc | apply pw_below_drewN | apply below_drew1 | refine below_set ?_ GE887.out | refine below_set ?_ GE904.out) | exact HB.out)⟩⟩
                ·replace c61 := Bool.eq_false_iff.mpr c61
                 subst c61
                 have H1 : (foghornlaw20_MendNever.j4 kj33 a0 l2 true t879 t880 t883) = some r := by rw [if_neg (show ¬ (false = true) by decide)] at H; exact H
                 clear H
                 have H := H1
                 clear H1
                 as_aux_lemma =>
                  have H' := Aside0.mk H
                  clear H
                  go_wp2
                  repeat (go_quiet (fail); try go_wp2)
                  go_meet
                  case rel => exact ⟨_, (true), (by first | rfl | (simp; done) | (simp [*]; done)), H', ⟨by have := HJ15.out; have := HJ23.out; have := HJ33.out; first | omega | exact Nat.le_refl _⟩, ⟨by (with_reducible repeat (first | apply Kd.R_alloc | apply Kd.R_drewN | apply Kd.R_drew)); exact Kd.R_mono (Kd.R_far (p := ⟨gb904, 2, none⟩) (Kd.R_far (p := ⟨gb904, 1, none⟩) (Kd.R_far (p := ⟨gb904, 0, none⟩) (Kd.R_types HO_888001.out BK904.out (by decide)) (fun _ hk => hk.2) (.string t896)) (fun _ hk => hk.2) (.slice Ao55 t897.length co55)) (fun _ hk => hk.2) (.slice Ao56 t900.length co56)) (fun _ hk => ⟨hk.1.1.1, ⟨hk.1.1.2, hk.1.2⟩⟩)⟩, ⟨by (with_reducible repeat (first | apply Kd.R_alloc | apply Kd.R_drewN | apply Kd.R_drew)); exact Kd.R_mono (Kd.R_far (p := ⟨gb904, 2, none⟩) (Kd.R_far (p := ⟨gb904, 1, none⟩) (Kd.R_far (p := ⟨gb904, 0, none⟩) (Kd.R_types HO_888002.out BK904.out (by decide)) (fun _ hk => hk.2) (.string t896)) (fun _ hk => hk.2) (.slice Ao55 t897.length co55)) (fun _ hk => hk.2) (.slice Ao56 t900.length co56)) (fun _ hk => ⟨hk.1.1.1, ⟨hk.1.1.2, hk.1.2⟩⟩)⟩, ⟨by (with_reducible repeat (first | apply Kd.R_alloc | apply Kd.R_drewN | apply Kd.R_drew)); exact Kd.R_mono (Kd.R_far (p := ⟨gb904, 2, none⟩) (Kd.R_far (p := ⟨gb904, 1, none⟩) (Kd.R_far (p := ⟨gb904, 0, none⟩) (Kd.R_types HO899.out BK904.out (by decide)) (fun _ hk => hk.2) (.string t896)) (fun _ hk => hk.2) (.slice Ao55 t897.length co55)) (fun _ hk => hk.2) (.slice Ao56 t900.length co56)) (fun _ hk => ⟨hk.1.1.2, ⟨hk.1.2, hk.1.1.1⟩⟩)⟩, ⟨by (with_reducible repeat (first | apply Kd.R_alloc | apply Kd.R_drewN | apply Kd.R_drew)); exact Kd.R_mono (Kd.R_far (p := ⟨gb904, 2, none⟩) (Kd.R_far (p := ⟨gb904, 1, none⟩) (Kd.R_far (p := ⟨gb904, 0, none⟩) (Kd.R_types HO902.out BK904.out (by decide)) (fun _ hk => hk.2) (.string t896)) (fun _ hk => hk.2) (.slice Ao55 t897.length co55)) (fun _ hk => hk.2) (.slice Ao56 t900.length co56)) (fun _ hk => ⟨hk.1.1.2, ⟨hk.1.2, hk.1.1.1⟩⟩)⟩, ⟨by (with_reducible repeat (first | refine blk_drewN ?_ _ | refine blk_drew ?_ | refine blk_alloc ?_ _)); refine blk_far ?_ NB887_904.out _; (with_reducible repeat (first | refine blk_drewN ?_ _ | refine blk_drew ?_ | refine blk_alloc ?_ _)); refine blk_far ?_ NB887_904.out _; (with_reducible repeat (first | refine blk_drewN ?_ _ | refine blk_drew ?_ | refine blk_alloc ?_ _)); refine blk_far ?_ NB887_904.out _; (with_reducible repeat (first | refine blk_drewN ?_ _ | refine blk_drew ?_ | refine blk_alloc ?_ _)); exact BK887.out⟩, ⟨by (with_reducible repeat (first | refine blk_drewN ?_ _ | refine blk_drew ?_ | refine blk_alloc ?_ _)); refine blk_put (cs := #[.string t896, .slice Ao55 t897.length co55, .slice none 0 0]) ?_ 2 _ rfl; (with_reducible repeat (first | refine blk_drewN ?_ _ | refine blk_drew ?_ | refine blk_alloc ?_ _)); refine blk_put (cs := #[.string t896, .slice none 0 0, .slice none 0 0]) ?_ 1 _ rfl; (with_reducible repeat (first | refine blk_drewN ?_ _ | refine blk_drew ?_ | refine blk_alloc ?_ _)); refine blk_put (cs := #[.string (⟨#[]⟩ : ByteArray), .slice none 0 0, .slice none 0 0]) ?_ 0 _ rfl; (with_reducible repeat (first | refine blk_drewN ?_ _ | refine blk_drew ?_ | refine blk_alloc ?_ _)); exact BK904.out⟩, ⟨by repeat (first | (with_reducible first | exact HB.out | apply below_alloc | apply pw_below_drewN | apply below_drew1 | refine below_set ?_ GE887.out | refine below_set ?_ GE904.out) | exact HB.out)⟩⟩
               ·rw [if_neg c60] at H
                have c60b0 : (t903 == 0) = false := beq_eq_false_iff_ne.mpr c60
                have c60b1 : (t903 != 0) = true := bne_iff_ne.mpr c60
                as_aux_lemma =>
                 have H' := Aside0.mk H
                 clear H
                 go_wp2
                 repeat (go_quiet (fail); try go_wp2)
                 go_meet
                 case rel => exact ⟨_, (true), (by first | rfl | (simp; done) | (simp [*]; done)), H', ⟨by have := HJ15.out; have := HJ23.out; have := HJ33.out; first | omega | exact Nat.le_refl _⟩, ⟨by (with_reducible repeat (first | apply Kd.R_alloc | apply Kd.R_drewN | apply Kd.R_drew)); exact Kd.R_mono (Kd.R_far (p := ⟨gb904, 2, none⟩) (Kd.R_far (p := ⟨gb904, 1, none⟩) (Kd.R_far (p := ⟨gb904, 0, none⟩) (Kd.R_types HO_888001.out BK904.out (by decide)) (fun _ hk => hk.2) (.string t896)) (fun _ hk => hk.2) (.slice Ao55 t897.length co55)) (fun _ hk => hk.2) (.slice Ao56 t900.length co56)) (fun _ hk => ⟨hk.1.1.1, ⟨hk.1.1.2, hk.1.2⟩⟩)⟩, ⟨by (with_reducible repeat (first | apply Kd.R_alloc | apply Kd.R_drewN | apply Kd.R_drew)); exact Kd.R_mono (Kd.R_far (p := ⟨gb904, 2, none⟩) (Kd.R_far (p := ⟨gb904, 1, none⟩) (Kd.R_far (p := ⟨gb904, 0, none⟩) (Kd.R_types HO_888002.out BK904.out (by decide)) (fun _ hk => hk.2) (.string t896)) (fun _ hk => hk.2) (.slice Ao55 t897.length co55)) (fun _ hk => hk.2) (.slice Ao56 t900.length co56)) (fun _ hk => ⟨hk.1.1.1, ⟨hk.1.1.2, hk.1.2⟩⟩)⟩, ⟨by (with_reducible repeat (first | apply Kd.R_alloc | apply Kd.R_drewN | apply Kd.R_drew)); exact Kd.R_mono (Kd.R_far (p := ⟨gb904, 2, none⟩) (Kd.R_far (p := ⟨gb904, 1, none⟩) (Kd.R_far (p := ⟨gb904, 0, none⟩) (Kd.R_types HO899.out BK904.out (by decide)) (fun _ hk => hk.2) (.string t896)) (fun _ hk => hk.2) (.slice Ao55 t897.length co55)) (fun _ hk => hk.2) (.slice Ao56 t900.length co56)) (fun _ hk => ⟨hk.1.1.2, ⟨hk.1.2, hk.1.1.1⟩⟩)⟩, ⟨by (with_reducible repeat (first | apply Kd.R_alloc | apply Kd.R_drewN | apply Kd.R_drew)); exact Kd.R_mono (Kd.R_far (p := ⟨gb904, 2, none⟩) (Kd.R_far (p := ⟨gb904, 1, none⟩) (Kd.R_far (p := ⟨gb904, 0, none⟩) (Kd.R_types HO902.out BK904.out (by decide)) (fun _ hk => hk.2) (.string t896)) (fun _ hk => hk.2) (.slice Ao55 t897.length co55)) (fun _ hk => hk.2) (.slice Ao56 t900.length co56)) (fun _ hk => ⟨hk.1.1.2, ⟨hk.1.2, hk.1.1.1⟩⟩)⟩, ⟨by (with_reducible repeat (first | refine blk_drewN ?_ _ | refine blk_drew ?_ | refine blk_alloc ?_ _)); refine blk_far ?_ NB887_904.out _; (with_reducible repeat (first | refine blk_drewN ?_ _ | refine blk_drew ?_ | refine blk_alloc ?_ _)); refine blk_far ?_ NB887_904.out _; (with_reducible repeat (first | refine blk_drewN ?_ _ | refine blk_drew ?_ | refine blk_alloc ?_ _)); refine blk_far ?_ NB887_904.out _; (with_reducible repeat (first | refine blk_drewN ?_ _ | refine blk_drew ?_ | refine blk_alloc ?_ _)); exact BK887.out⟩, ⟨by (with_reducible repeat (first | refine blk_drewN ?_ _ | refine blk_drew ?_ | refine blk_alloc ?_ _)); refine blk_put (cs := #[.string t896, .slice Ao55 t897.length co55, .slice none 0 0]) ?_ 2 _ rfl; (with_reducible repeat (first | refine blk_drewN ?_ _ | refine blk_drew ?_ | refine blk_alloc ?_ _)); refine blk_put (cs := #[.string t896, .slice none 0 0, .slice none 0 0]) ?_ 1 _ rfl; (with_reducible repeat (first | refine blk_drewN ?_ _ | refine blk_drew ?_ | refine blk_alloc ?_ _)); refine blk_put (cs := #[.string (⟨#[]⟩ : ByteArray), .slice none 0 0, .slice none 0 0]) ?_ 0 _ rfl; (with_reducible repeat (first | refine blk_drewN ?_ _ | refine blk_drew ?_ | refine blk_alloc ?_ _)); exact BK904.out⟩, ⟨by repeat (first | (with_reducible first | exact HB.out | apply below_alloc | apply pw_below_drewN | apply below_drew1 | refine below_set ?_ GE887.out | refine below_set ?_ GE904.out) | exact HB.out)⟩⟩
              ·rw [if_neg c59] at H
               have c59b0 : (t895 == 0) = false := beq_eq_false_iff_ne.mpr c59
               have c59b1 : (t895 != 0) = true := bne_iff_ne.mpr c59
               as_aux_lemma =>
                have H' := Aside0.mk H
                clear H
                go_wp2
                repeat (go_quiet (fail); try go_wp2)
                go_meet
                case rel => exact ⟨_, (true), (by first | rfl | (simp; done) | (simp [*]; done)), H', ⟨by have := HJ15.out; have := HJ23.out; have := HJ33.out; first | omega | exact Nat.le_refl _⟩, ⟨by (with_reducible repeat (first | apply Kd.R_alloc | apply Kd.R_drewN | apply Kd.R_drew)); exact Kd.R_mono (Kd.R_far (p := ⟨gb904, 2, none⟩) (Kd.R_far (p := ⟨gb904, 1, none⟩) (Kd.R_far (p := ⟨gb904, 0, none⟩) (Kd.R_types HO_888001.out BK904.out (by decide)) (fun _ hk => hk.2) (.string t896)) (fun _ hk => hk.2) (.slice Ao55 t897.length co55)) (fun _ hk => hk.2) (.slice Ao56 t900.length co56)) (fun _ hk => ⟨hk.1.1.1, ⟨hk.1.1.2, hk.1.2⟩⟩)⟩, ⟨by (with_reducible repeat (first | apply Kd.R_alloc | apply Kd.R_drewN | apply Kd.R_drew)); exact Kd.R_mono (Kd.R_far (p := ⟨gb904, 2, none⟩) (Kd.R_far (p := ⟨gb904, 1, none⟩) (Kd.R_far (p := ⟨gb904, 0, none⟩) (Kd.R_types HO_888002.out BK904.out (by decide)) (fun _ hk => hk.2) (.string t896)) (fun _ hk => hk.2) (.slice Ao55 t897.length co55)) (fun _ hk => hk.2) (.slice Ao56 t900.length co56)) (fun _ hk => ⟨hk.1.1.1, ⟨hk.1.1.2, hk.1.2⟩⟩)⟩, ⟨by (with_reducible repeat (first | apply Kd.R_alloc | apply Kd.R_drewN | apply Kd.R_drew)); exact Kd.R_mono (Kd.R_far (p := ⟨gb904, 2, none⟩) (Kd.R_far (p := ⟨gb904, 1, none⟩) (Kd.R_far (p := ⟨gb904, 0, none⟩) (Kd.R_types HO899.out BK904.out (by decide)) (fun _ hk => hk.2) (.string t896)) (fun _ hk => hk.2) (.slice Ao55 t897.length co55)) (fun _ hk => hk.2) (.slice Ao56 t900.length co56)) (fun _ hk => ⟨hk.1.1.2, ⟨hk.1.2, hk.1.1.1⟩⟩)⟩, ⟨by (with_reducible repeat (first | apply Kd.R_alloc | apply Kd.R_drewN | apply Kd.R_drew)); exact Kd.R_mono (Kd.R_far (p := ⟨gb904, 2, none⟩) (Kd.R_far (p := ⟨gb904, 1, none⟩) (Kd.R_far (p := ⟨gb904, 0, none⟩) (Kd.R_types HO902.out BK904.out (by decide)) (fun _ hk => hk.2) (.string t896)) (fun _ hk => hk.2) (.slice Ao55 t897.length co55)) (fun _ hk => hk.2) (.slice Ao56 t900.length co56)) (fun _ hk => ⟨hk.1.1.2, ⟨hk.1.2, hk.1.1.1⟩⟩)⟩, ⟨by (with_reducible repeat (first | refine blk_drewN ?_ _ | refine blk_drew ?_ | refine blk_alloc ?_ _)); refine blk_far ?_ NB887_904.out _; (with_reducible repeat (first | refine blk_drewN ?_ _ | refine blk_drew ?_ | refine blk_alloc ?_ _)); refine blk_far ?_ NB887_904.out _; (with_reducible repeat (first | refine blk_drewN ?_ _ | refine blk_drew ?_ | refine blk_alloc ?_ _)); refine blk_far ?_ NB887_904.out _; (with_reducible repeat (first | refine blk_drewN ?_ _ | refine blk_drew ?_ | refine blk_alloc ?_ _)); exact BK887.out⟩, ⟨by (with_reducible repeat (first | refine blk_drewN ?_ _ | refine blk_drew ?_ | refine blk_alloc ?_ _)); refine blk_put (cs := #[.string t896, .slice Ao55 t897.length co55, .slice none 0 0]) ?_ 2 _ rfl; (with_reducible repeat (first | refine blk_drewN ?_ _ | refine blk_drew ?_ | refine blk_alloc ?_ _)); refine blk_put (cs := #[.string t896, .slice none 0 0, .slice none 0 0]) ?_ 1 _ rfl; (with_reducible repeat (first | refine blk_drewN ?_ _ | refine blk_drew ?_ | refine blk_alloc ?_ _)); refine blk_put (cs := #[.string (⟨#[]⟩ : ByteArray), .slice none 0 0, .slice none 0 0]) ?_ 0 _ rfl; (with_reducible repeat (first | refine blk_drewN ?_ _ | refine blk_drew ?_ | refine blk_alloc ?_ _)); exact BK904.out⟩, ⟨by repeat (first | (with_reducible first | exact HB.out | apply below_alloc | apply pw_below_drewN | apply below_drew1 | refine below_set ?_ GE887.out | refine below_set ?_ GE904.out) | exact HB.out)⟩⟩
             ·rw [if_neg c58] at H
              have c58b0 : (t893 == 0) = false := beq_eq_false_iff_ne.mpr c58
              have c58b1 : (t893 != 0) = true := bne_iff_ne.mpr c58
              as_aux_lemma =>
               have H' := Aside0.mk H
               clear H
               go_wp2
               repeat (go_quiet (fail); try go_wp2)
               go_meet
               case rel => exact ⟨_, (true), (by first | rfl | (simp; done) | (simp [*]; done)), H', ⟨by have := HJ15.out; have := HJ23.out; have := HJ33.out; first | omega | exact Nat.le_refl _⟩, ⟨by (with_reducible repeat (first | apply Kd.R_alloc | apply Kd.R_drewN | apply Kd.R_drew)); exact Kd.R_mono (Kd.R_far (p := ⟨gb904, 2, none⟩) (Kd.R_far (p := ⟨gb904, 1, none⟩) (Kd.R_far (p := ⟨gb904, 0, none⟩) (Kd.R_types HO_888001.out BK904.out (by decide)) (fun _ hk => hk.2) (.string t896)) (fun _ hk => hk.2) (.slice Ao55 t897.length co55)) (fun _ hk => hk.2) (.slice Ao56 t900.length co56)) (fun _ hk => ⟨hk.1.1.1, ⟨hk.1.1.2, hk.1.2⟩⟩)⟩, ⟨by (with_reducible repeat (first | apply Kd.R_alloc | apply Kd.R_drewN | apply Kd.R_drew)); exact Kd.R_mono (Kd.R_far (p := ⟨gb904, 2, none⟩) (Kd.R_far (p := ⟨gb904, 1, none⟩) (Kd.R_far (p := ⟨gb904, 0, none⟩) (Kd.R_types HO_888002.out BK904.out (by decide)) (fun _ hk => hk.2) (.string t896)) (fun _ hk => hk.2) (.slice Ao55 t897.length co55)) (fun _ hk => hk.2) (.slice Ao56 t900.length co56)) (fun _ hk => ⟨hk.1.1.1, ⟨hk.1.1.2, hk.1.2⟩⟩)⟩, ⟨by (with_reducible repeat (first | apply Kd.R_alloc | apply Kd.R_drewN | apply Kd.R_drew)); exact Kd.R_mono (Kd.R_far (p := ⟨gb904, 2, none⟩) (Kd.R_far (p := ⟨gb904, 1, none⟩) (Kd.R_far (p := ⟨gb904, 0, none⟩) (Kd.R_types HO899.out BK904.out (by decide)) (fun _ hk => hk.2) (.string t896)) (fun _ hk => hk.2) (.slice Ao55 t897.length co55)) (fun _ hk => hk.2) (.slice Ao56 t900.length co56)) (fun _ hk => ⟨hk.1.1.2, ⟨hk.1.2, hk.1.1.1⟩⟩)⟩, ⟨by (with_reducible repeat (first | apply Kd.R_alloc | apply Kd.R_drewN | apply Kd.R_drew)); exact Kd.R_mono (Kd.R_far (p := ⟨gb904, 2, none⟩) (Kd.R_far (p := ⟨gb904, 1, none⟩) (Kd.R_far (p := ⟨gb904, 0, none⟩) (Kd.R_types HO902.out BK904.out (by decide)) (fun _ hk => hk.2) (.string t896)) (fun _ hk => hk.2) (.slice Ao55 t897.length co55)) (fun _ hk => hk.2) (.slice Ao56 t900.length co56)) (fun _ hk => ⟨hk.1.1.2, ⟨hk.1.2, hk.1.1.1⟩⟩)⟩, ⟨by (with_reducible repeat (first | refine blk_drewN ?_ _ | refine blk_drew ?_ | refine blk_alloc ?_ _)); refine blk_far ?_ NB887_904.out _; (with_reducible repeat (first | refine blk_drewN ?_ _ | refine blk_drew ?_ | refine blk_alloc ?_ _)); refine blk_far ?_ NB887_904.out _; (with_reducible repeat (first | refine blk_drewN ?_ _ | refine blk_drew ?_ | refine blk_alloc ?_ _)); refine blk_far ?_ NB887_904.out _; (with_reducible repeat (first | refine blk_drewN ?_ _ | refine blk_drew ?_ | refine blk_alloc ?_ _)); exact BK887.out⟩, ⟨by (with_reducible repeat (first | refine blk_drewN ?_ _ | refine blk_drew ?_ | refine blk_alloc ?_ _)); refine blk_put (cs := #[.string t896, .slice Ao55 t897.length co55, .slice none 0 0]) ?_ 2 _ rfl; (with_reducible repeat (first | refine blk_drewN ?_ _ | refine blk_drew ?_ | refine blk_alloc ?_ _)); refine blk_put (cs := #[.string t896, .slice none 0 0, .slice none 0 0]) ?_ 1 _ rfl; (with_reducible repeat (first | refine blk_drewN ?_ _ | refine blk_drew ?_ | refine blk_alloc ?_ _)); refine blk_put (cs := #[.string (⟨#[]⟩ : ByteArray), .slice none 0 0, .slice none 0 0]) ?_ 0 _ rfl; (with_reducible repeat (first | refine blk_drewN ?_ _ | refine blk_drew ?_ | refine blk_alloc ?_ _)); exact BK904.out⟩, ⟨by repeat (first | (with_reducible first | exact HB.out | apply below_alloc | apply pw_below_drewN | apply below_drew1 | refine below_set ?_ GE887.out | refine below_set ?_ GE904.out) | exact HB.out)⟩⟩
            ·rw [if_neg c57] at H
             have c57b0 : (t886 == 0) = false := beq_eq_false_iff_ne.mpr c57
             have c57b1 : (t886 != 0) = true := bne_iff_ne.mpr c57
             (first | rw [c57b0] | (simp only [i64_w, i32_w]; rw [c57b0]) | skip)
             as_aux_lemma =>
              have H' := Aside0.mk H
              clear H
              go_wp2
              repeat (go_quiet (fail); try go_wp2)
              go_meet
              case rel => exact ⟨_, (true), (by first | rfl | (simp; done) | (simp [*]; done)), H', ⟨by have := HJ15.out; have := HJ23.out; have := HJ33.out; first | omega | exact Nat.le_refl _⟩, ⟨by (with_reducible repeat (first | apply Kd.R_alloc | apply Kd.R_drewN | apply Kd.R_drew)); exact Kd.R_mono (Kd.R_far (p := ⟨gb904, 2, none⟩) (Kd.R_far (p := ⟨gb904, 1, none⟩) (Kd.R_far (p := ⟨gb904, 0, none⟩) (Kd.R_types HO_888001.out BK904.out (by decide)) (fun _ hk => hk.2) (.string t896)) (fun _ hk => hk.2) (.slice Ao55 t897.length co55)) (fun _ hk => hk.2) (.slice Ao56 t900.length co56)) (fun _ hk => ⟨hk.1.1.1, ⟨hk.1.1.2, hk.1.2⟩⟩)⟩, ⟨by (with_reducible repeat (first | apply Kd.R_alloc | apply Kd.R_drewN | apply Kd.R_drew)); exact Kd.R_mono (Kd.R_far (p := ⟨gb904, 2, none⟩) (Kd.R_far (p := ⟨gb904, 1, none⟩) (Kd.R_far (p := ⟨gb904, 0, none⟩) (Kd.R_types HO_888002.out BK904.out (by decide)) (fun _ hk => hk.2) (.string t896)) (fun _ hk => hk.2) (.slice Ao55 t897.length co55)) (fun _ hk => hk.2) (.slice Ao56 t900.length co56)) (fun _ hk => ⟨hk.1.1.1, ⟨hk.1.1.2, hk.1.2⟩⟩)⟩, ⟨by (with_reducible repeat (first | apply Kd.R_alloc | apply Kd.R_drewN | apply Kd.R_drew)); exact Kd.R_mono (Kd.R_far (p := ⟨gb904, 2, none⟩) (Kd.R_far (p := ⟨gb904, 1, none⟩) (Kd.R_far (p := ⟨gb904, 0, none⟩) (Kd.R_types HO899.out BK904.out (by decide)) (fun _ hk => hk.2) (.string t896)) (fun _ hk => hk.2) (.slice Ao55 t897.length co55)) (fun _ hk => hk.2) (.slice Ao56 t900.length co56)) (fun _ hk => ⟨hk.1.1.2, ⟨hk.1.2, hk.1.1.1⟩⟩)⟩, ⟨by (with_reducible repeat (first | apply Kd.R_alloc | apply Kd.R_drewN | apply Kd.R_drew)); exact Kd.R_mono (Kd.R_far (p := ⟨gb904, 2, none⟩) (Kd.R_far (p := ⟨gb904, 1, none⟩) (Kd.R_far (p := ⟨gb904, 0, none⟩) (Kd.R_types HO902.out BK904.out (by decide)) (fun _ hk => hk.2) (.string t896)) (fun _ hk => hk.2) (.slice Ao55 t897.length co55)) (fun _ hk => hk.2) (.slice Ao56 t900.length co56)) (fun _ hk => ⟨hk.1.1.2, ⟨hk.1.2, hk.1.1.1⟩⟩)⟩, ⟨by (with_reducible repeat (first | refine blk_drewN ?_ _ | refine blk_drew ?_ | refine blk_alloc ?_ _)); refine blk_far ?_ NB887_904.out _; (with_reducible repeat (first | refine blk_drewN ?_ _ | refine blk_drew ?_ | refine blk_alloc ?_ _)); refine blk_far ?_ NB887_904.out _; (with_reducible repeat (first | refine blk_drewN ?_ _ | refine blk_drew ?_ | refine blk_alloc ?_ _)); refine blk_far ?_ NB887_904.out _; (with_reducible repeat (first | refine blk_drewN ?_ _ | refine blk_drew ?_ | refine blk_alloc ?_ _)); exact BK887.out⟩, ⟨by (with_reducible repeat (first | refine blk_drewN ?_ _ | refine blk_drew ?_ | refine blk_alloc ?_ _)); refine blk_put (cs := #[.string t896, .slice Ao55 t897.length co55, .slice none 0 0]) ?_ 2 _ rfl; (with_reducible repeat (first | refine blk_drewN ?_ _ | refine blk_drew ?_ | refine blk_alloc ?_ _)); refine blk_put (cs := #[.string t896, .slice none 0 0, .slice none 0 0]) ?_ 1 _ rfl; (with_reducible repeat (first | refine blk_drewN ?_ _ | refine blk_drew ?_ | refine blk_alloc ?_ _)); refine blk_put (cs := #[.string (⟨#[]⟩ : ByteArray), .slice none 0 0, .slice none 0 0]) ?_ 0 _ rfl; (with_reducible repeat (first | refine blk_drewN ?_ _ | refine blk_drew ?_ | refine blk_alloc ?_ _)); exact BK904.out⟩, ⟨by repeat (first | (with_reducible first | exact HB.out | apply below_alloc | apply pw_below_drewN | apply below_drew1 | refine below_set ?_ GE887.out | refine below_set ?_ GE904.out) | exact HB.out)⟩⟩
           case rest =>
            clear HC45
            try clear c1
            try clear c2
            try clear p2
            try clear c3
            try clear c4
            try clear c5
            try clear c6
            try clear p6
            try clear c7
            try clear c8
            try clear c8b0
            try clear c8b1
            try clear c9
            try clear c9b0
            try clear c9b1
            try clear c12
            try clear c23
            try clear c23b0
            try clear c23b1
            try clear c25
            try clear c26
            try clear c26b0
            try clear c27
            try clear c27b0
            try clear c27b1
            try clear c27b2
            try clear c29
            try clear c29b0
            try clear c29b1
            try clear c30
            try clear c30b0
            try clear c30b1
            try clear c36
            try clear c36b0
            try clear c36b1
            try clear c37
            try clear c38
            try clear c38b0
            try clear c38b1
            try clear c39
            try clear c40
            try clear c40b0
            try clear c40b1
            try clear c53
            try clear c57
            try clear c57b0
            try clear c57b1
            try clear c58
            try clear c58b0
            try clear c58b1
            try clear c59
            try clear c59b0
            try clear c59b1
            try clear c60
            try clear c60b0
            try clear c60b1
            try clear c61
            try clear c62
            try clear c63
            try clear c63b0
            try clear c63b1
            try clear c64
            try clear c64b0
            try clear c64b1
            try clear c64b2
            try clear p64
            try clear c65
            try clear c65b0
            try clear c65b1
            try clear c65b2
            try clear c66
            try clear c66b0
            try clear c67
            try clear c70
            try clear c71
            try clear c74
            try clear c77
            try clear c80
            try clear c83
            try clear hcz13_0
            try clear hcz13_1
            try clear hcz13_2
            try clear hcz20_0
            try clear hcz20_1
            try clear hcz20_2
            try clear hcz41_0
            try clear hcz41_1
            try clear hcz41_2
            try clear hcz46_0
            try clear hcz46_1
            try clear hcz46_2
            try clear hcz48_0
            try clear hcz48_1
            try clear hcz48_2
            try clear hcz50_0
            try clear hcz50_1
            try clear hcz50_2
            try clear hcz54_0
            try clear hcz54_1
            try clear hcz54_2
            try clear hcz68_0
            try clear hcz68_1
            try clear hcz68_2
            try clear hcz69_0
            try clear hcz69_1
            try clear hcz69_2
            try clear hcz72_0
            try clear hcz72_1
            try clear hcz72_2
            try clear hcz73_0
            try clear hcz73_1
            try clear hcz73_2
            try clear hcz75_0
            try clear hcz75_1
            try clear hcz75_2
            try clear hcz76_0
            try clear hcz76_1
            try clear hcz76_2
            try clear hcz78_0
            try clear hcz78_1
            try clear hcz78_2
            try clear hcz79_0
            try clear hcz79_1
            try clear hcz79_2
            try clear hcz81_0
            try clear hcz81_1
            try clear hcz81_2
            try clear hcz82_0
            try clear hcz82_1
            try clear hcz82_2
            try clear hcz84_0
            try clear hcz84_1
            try clear hcz84_2
            try clear hcz85_0
            try clear hcz85_1
            try clear hcz85_2
            try clear hfz13_0
            try clear hfz13_1
            try clear hfz13_2
            try clear hfz20_0
            try clear hfz20_1
            try clear hfz20_2
            try clear hfz41_0
            try clear hfz41_1
            try clear hfz41_2
            try clear hfz46_0
            try clear hfz46_1
            try clear hfz46_2
            try clear hfz48_0
            try clear hfz48_1
            try clear hfz48_2
            try clear hfz50_0
            try clear hfz50_1
            try clear hfz50_2
            try clear hfz54_0
            try clear hfz54_1
            try clear hfz54_2
            try clear hfz68_0
            try clear hfz68_1
            try clear hfz68_2
            try clear hfz69_0
            try clear hfz69_1
            try clear hfz69_2
            try clear hfz72_0
            try clear hfz72_1
            try clear hfz72_2
            try clear hfz73_0
            try clear hfz73_1
            try clear hfz73_2
            try clear hfz75_0
            try clear hfz75_1
            try clear hfz75_2
            try clear hfz76_0
            try clear hfz76_1
            try clear hfz76_2
            try clear hfz78_0
            try clear hfz78_1
            try clear hfz78_2
            try clear hfz79_0
            try clear hfz79_1
            try clear hfz79_2
            try clear hfz81_0
            try clear hfz81_1
            try clear hfz81_2
            try clear hfz82_0
            try clear hfz82_1
            try clear hfz82_2
            try clear hfz84_0
            try clear hfz84_1
            try clear hfz84_2
            try clear hfz85_0
            try clear hfz85_1
            try clear hfz85_2
            try clear p2
            try clear p6
            obtain ⟨kq, x198_44, rfl, HA, HJ44, HO_888001, HO_888002, HO_905001, HO_905002, BK887, BK904, HB⟩ := hcut
            cases kq with
            | zero => exact absurd HA.out (by simp [foghornlaw20_MendNever.j4])
            | succ kj44 =>
             have H := HA.out
             clear HA
             simp only [foghornlaw20_MendNever.j4] at H
             by_cases c86 : x198_44 = true
             ·subst c86
              have H1 : (some false) = some r := by rw [if_pos rfl] at H; exact H
              clear H
              have H := H1
              clear H1
              as_aux_lemma =>
               exact absurd ((Option.some.inj H).trans HQ_.out) (by decide)
             ·replace c86 := Bool.eq_false_iff.mpr c86
              subst c86
              have H1 : (foghornlaw20_MendNever.l1 kj44 a0 l2 0 0 t879 t880 t883) = some r := by rw [if_neg (show ¬ (false = true) by decide)] at H; exact H
              clear H
              have H := H1
              clear H1
              have H' := Aside0.mk H
              clear H
              go_wp2
              repeat (go_quiet (fail); try go_wp2)
              go_loopg [20, 21] kj44 (fun kq v20 v21 w' => ∃ (x20_5 : Int) (x21_5 : Int), v20 = .int .i64 x20_5 ∧ v21 = .int .i64 x21_5 ∧ Aside0 (foghornlaw20_MendNever.l1 kq a0 l2 x20_5 x21_5 t879 t880 t883 = some r) ∧ Aside0 (kq ≤ kj44) ∧ Aside0 (Kd.R (Kd.int .i64) 3 w' w.heap.size (fun k_ => some k_ ≠ ((.slice Ao22 t883.length co22) : Value).ownBlock ∧ some k_ ≠ ((.slice Ao55 t897.length co55) : Value).ownBlock ∧ some k_ ≠ ((.slice Ao56 t900.length co56) : Value).ownBlock) (.slice Ao21 t880.length co21) t880) ∧ Aside0 (Kd.R (Kd.int .i64) 3 w' w.heap.size (fun k_ => some k_ ≠ ((.slice Ao21 t880.length co21) : Value).ownBlock ∧ some k_ ≠ ((.slice Ao55 t897.length co55) : Value).ownBlock ∧ some k_ ≠ ((.slice Ao56 t900.length co56) : Value).ownBlock) (.slice Ao22 t883.length co22) t883) ∧ Aside0 (Kd.R (Kd.int .i64) 3 w' w.heap.size (fun k_ => some k_ ≠ ((.slice Ao21 t880.length co21) : Value).ownBlock ∧ some k_ ≠ ((.slice Ao22 t883.length co22) : Value).ownBlock ∧ some k_ ≠ ((.slice Ao56 t900.length co56) : Value).ownBlock) (.slice Ao55 t897.length co55) t897) ∧ Aside0 (Kd.R (Kd.int .i64) 3 w' w.heap.size (fun k_ => some k_ ≠ ((.slice Ao21 t880.length co21) : Value).ownBlock ∧ some k_ ≠ ((.slice Ao22 t883.length co22) : Value).ownBlock ∧ some k_ ≠ ((.slice Ao55 t897.length co55) : Value).ownBlock) (.slice Ao56 t900.length co56) t900) ∧ Aside0 (w'.heap[gb887]? = some (.cells #[.string t879, (.slice Ao21 t880.length co21), (.slice Ao22 t883.length co22)] 64 (0, 0))) ∧ Aside0 (w'.heap[gb904]? = some (.cells #[.string t896, (.slice Ao55 t897.length co55), (.slice Ao56 t900.length co56)] 64 (0, 0))) ∧ Aside0 (Below w.heap.size w w'))
              case atStart => exact ⟨(0), (0), (by first | rfl | (simp; done) | (simp [*]; done)), (by first | rfl | (simp; done) | (simp [*]; done)), H', ⟨Nat.le_refl _⟩, ⟨by (with_reducible repeat (first | apply Kd.R_alloc | apply Kd.R_drewN | apply Kd.R_drew)); exact HO_888001.out⟩, ⟨by (with_reducible repeat (first | apply Kd.R_alloc | apply Kd.R_drewN | apply Kd.R_drew)); exact HO_888002.out⟩, ⟨by (with_reducible repeat (first | apply Kd.R_alloc | apply Kd.R_drewN | apply Kd.R_drew)); exact HO_905001.out⟩, ⟨by (with_reducible repeat (first | apply Kd.R_alloc | apply Kd.R_drewN | apply Kd.R_drew)); exact HO_905002.out⟩, ⟨by (with_reducible repeat (first | refine blk_drewN ?_ _ | refine blk_drew ?_ | refine blk_alloc ?_ _)); exact BK887.out⟩, ⟨by (with_reducible repeat (first | refine blk_drewN ?_ _ | refine blk_drew ?_ | refine blk_alloc ?_ _)); exact BK904.out⟩, ⟨by repeat (first | (with_reducible first | exact HB.out | apply below_alloc | apply pw_below_drewN | apply below_drew1 | refine below_set ?_ GE887.out | refine below_set ?_ GE904.out) | exact HB.out)⟩⟩
              case round =>
               clear H'
               try clear c1
               try clear c2
               try clear p2
               try clear c3
               try clear c4
               try clear c5
               try clear c6
               try clear p6
               try clear c7
               try clear c8
               try clear c8b0
               try clear c8b1
               try clear c9
               try clear c9b0
               try clear c9b1
               try clear c12
               try clear c23
               try clear c23b0
               try clear c23b1
               try clear c25
               try clear c26
               try clear c26b0
               try clear c27
               try clear c27b0
               try clear c27b1
               try clear c27b2
               try clear c29
               try clear c29b0
               try clear c29b1
               try clear c30
               try clear c30b0
               try clear c30b1
               try clear c36
               try clear c36b0
               try clear c36b1
               try clear c37
               try clear c38
               try clear c38b0
               try clear c38b1
               try clear c39
               try clear c40
               try clear c40b0
               try clear c40b1
               try clear c53
               try clear c57
               try clear c57b0
               try clear c57b1
               try clear c58
               try clear c58b0
               try clear c58b1
               try clear c59
               try clear c59b0
               try clear c59b1
               try clear c60
               try clear c60b0
               try clear c60b1
               try clear c61
               try clear c62
               try clear c63
               try clear c63b0
               try clear c63b1
               try clear c64
               try clear c64b0
               try clear c64b1
               try clear c64b2
               try clear p64
               try clear c65
               try clear c65b0
               try clear c65b1
               try clear c65b2
               try clear c66
               try clear c66b0
               try clear c67
               try clear c70
               try clear c71
               try clear c74
               try clear c77
               try clear c80
               try clear c83
               try clear c86
               try clear hcz13_0
               try clear hcz13_1
               try clear hcz13_2
               try clear hcz20_0
               try clear hcz20_1
               try clear hcz20_2
               try clear hcz41_0
               try clear hcz41_1
               try clear hcz41_2
               try clear hcz46_0
               try clear hcz46_1
               try clear hcz46_2
               try clear hcz48_0
               try clear hcz48_1
               try clear hcz48_2
               try clear hcz50_0
               try clear hcz50_1
               try clear hcz50_2
               try clear hcz54_0
               try clear hcz54_1
               try clear hcz54_2
               try clear hcz68_0
               try clear hcz68_1
               try clear hcz68_2
               try clear hcz69_0
               try clear hcz69_1
               try clear hcz69_2
               try clear hcz72_0
               try clear hcz72_1
               try clear hcz72_2
               try clear hcz73_0
               try clear hcz73_1
               try clear hcz73_2
               try clear hcz75_0
               try clear hcz75_1
               try clear hcz75_2
               try clear hcz76_0
               try clear hcz76_1
               try clear hcz76_2
               try clear hcz78_0
               try clear hcz78_1
               try clear hcz78_2
               try clear hcz79_0
               try clear hcz79_1
               try clear hcz79_2
               try clear hcz81_0
               try clear hcz81_1
               try clear hcz81_2
               try clear hcz82_0
               try clear hcz82_1
               try clear hcz82_2
               try clear hcz84_0
               try clear hcz84_1
               try clear hcz84_2
               try clear hcz85_0
               try clear hcz85_1
               try clear hcz85_2
               try clear hfz13_0
               try clear hfz13_1
               try clear hfz13_2
               try clear hfz20_0
               try clear hfz20_1
               try clear hfz20_2
               try clear hfz41_0
               try clear hfz41_1
               try clear hfz41_2
               try clear hfz46_0
               try clear hfz46_1
               try clear hfz46_2
               try clear hfz48_0
               try clear hfz48_1
               try clear hfz48_2
               try clear hfz50_0
               try clear hfz50_1
               try clear hfz50_2
               try clear hfz54_0
               try clear hfz54_1
               try clear hfz54_2
               try clear hfz68_0
               try clear hfz68_1
               try clear hfz68_2
               try clear hfz69_0
               try clear hfz69_1
               try clear hfz69_2
               try clear hfz72_0
               try clear hfz72_1
               try clear hfz72_2
               try clear hfz73_0
               try clear hfz73_1
               try clear hfz73_2
               try clear hfz75_0
               try clear hfz75_1
               try clear hfz75_2
               try clear hfz76_0
               try clear hfz76_1
               try clear hfz76_2
               try clear hfz78_0
               try clear hfz78_1
               try clear hfz78_2
               try clear hfz79_0
               try clear hfz79_1
               try clear hfz79_2
               try clear hfz81_0
               try clear hfz81_1
               try clear hfz81_2
               try clear hfz82_0
               try clear hfz82_1
               try clear hfz82_2
               try clear hfz84_0
               try clear hfz84_1
               try clear hfz84_2
               try clear hfz85_0
               try clear hfz85_1
               try clear hfz85_2
               try clear p2
               try clear p6
               try clear p64
               obtain ⟨x20_5, x21_5, rfl, rfl, HA, HK5, HO_888001, HO_888002, HO_905001, HO_905002, BK887, BK904, HB⟩ := hrel
               cases gk with
               | zero => exact absurd HA.out (by simp [foghornlaw20_MendNever.l1])
               | succ k5 =>
                have H := HA.out
                clear HA
                simp only [foghornlaw20_MendNever.l1] at H
                by_cases c87 : x21_5 < (a0.size : Int)
                ·rw [if_pos c87] at H
                 have c87b0 : decide (x21_5 < (a0.size : Int)) = true := decide_eq_true c87
                 clear c87
                 have H' := Aside0.mk H
                 clear H
                 go_wp2
                 repeat (go_quiet (fail); try go_wp2)
                 go_loopg [22, 23] k5 (fun kq v22 v23 w' => ∃ (x22_6 : Bool) (x23_6 : Int), v22 = .bool x22_6 ∧ v23 = .int .i64 x23_6 ∧ Aside0 (foghornlaw20_MendNever.l2 kq a0 l2 x20_5 x21_5 x22_6 x23_6 t879 t880 t883 = some r) ∧ Aside0 (kq ≤ k5) ∧ Aside0 (Kd.R (Kd.int .i64) 3 w' w.heap.size (fun k_ => some k_ ≠ ((.slice Ao22 t883.length co22) : Value).ownBlock ∧ some k_ ≠ ((.slice Ao55 t897.length co55) : Value).ownBlock ∧ some k_ ≠ ((.slice Ao56 t900.length co56) : Value).ownBlock) (.slice Ao21 t880.length co21) t880) ∧ Aside0 (Kd.R (Kd.int .i64) 3 w' w.heap.size (fun k_ => some k_ ≠ ((.slice Ao21 t880.length co21) : Value).ownBlock ∧ some k_ ≠ ((.slice Ao55 t897.length co55) : Value).ownBlock ∧ some k_ ≠ ((.slice Ao56 t900.length co56) : Value).ownBlock) (.slice Ao22 t883.length co22) t883) ∧ Aside0 (Kd.R (Kd.int .i64) 3 w' w.heap.size (fun k_ => some k_ ≠ ((.slice Ao21 t880.length co21) : Value).ownBlock ∧ some k_ ≠ ((.slice Ao22 t883.length co22) : Value).ownBlock ∧ some k_ ≠ ((.slice Ao56 t900.length co56) : Value).ownBlock) (.slice Ao55 t897.length co55) t897) ∧ Aside0 (Kd.R (Kd.int .i64) 3 w' w.heap.size (fun k_ => some k_ ≠ ((.slice Ao21 t880.length co21) : Value).ownBlock ∧ some k_ ≠ ((.slice Ao22 t883.length co22) : Value).ownBlock ∧ some k_ ≠ ((.slice Ao55 t897.length co55) : Value).ownBlock) (.slice Ao56 t900.length co56) t900) ∧ Aside0 (w'.heap[gb887]? = some (.cells #[.string t879, (.slice Ao21 t880.length co21), (.slice Ao22 t883.length co22)] 64 (0, 0))) ∧ Aside0 (w'.heap[gb904]? = some (.cells #[.string t896, (.slice Ao55 t897.length co55), (.slice Ao56 t900.length co56)] 64 (0, 0))) ∧ Aside0 (Below w.heap.size w w'))
                 case atStart => exact ⟨(false), (0), (by first | rfl | (simp; done) | (simp [*]; done)), (by first | rfl | (simp; done) | (simp [*]; done)), H', ⟨Nat.le_refl _⟩, ⟨by (with_reducible repeat (first | apply Kd.R_alloc | apply Kd.R_drewN | apply Kd.R_drew)); exact HO_888001.out⟩, ⟨by (with_reducible repeat (first | apply Kd.R_alloc | apply Kd.R_drewN | apply Kd.R_drew)); exact HO_888002.out⟩, ⟨by (with_reducible repeat (first | apply Kd.R_alloc | apply Kd.R_drewN | apply Kd.R_drew)); exact HO_905001.out⟩, ⟨by (with_reducible repeat (first | apply Kd.R_alloc | apply Kd.R_drewN | apply Kd.R_drew)); exact HO_905002.out⟩, ⟨by (with_reducible repeat (first | refine blk_drewN ?_ _ | refine blk_drew ?_ | refine blk_alloc ?_ _)); exact BK887.out⟩, ⟨by (with_reducible repeat (first | refine blk_drewN ?_ _ | refine blk_drew ?_ | refine blk_alloc ?_ _)); exact BK904.out⟩, ⟨by repeat (first | (with_reducible first | exact HB.out | apply below_alloc | apply pw_below_drewN | apply below_drew1 | refine below_set ?_ GE887.out | refine below_set ?_ GE904.out) | exact HB.out)⟩⟩
                 case round =>
                  clear H'
                  try clear c1
                  try clear c2
                  try clear p2
                  try clear c3
                  try clear c4
                  try clear c5
                  try clear c6
                  try clear p6
                  try clear c7
                  try clear c8
                  try clear c8b0
                  try clear c8b1
                  try clear c9
                  try clear c9b0
                  try clear c9b1
                  try clear c12
                  try clear c23
                  try clear c23b0
                  try clear c23b1
                  try clear c25
                  try clear c26
                  try clear c26b0
                  try clear c27
                  try clear c27b0
                  try clear c27b1
                  try clear c27b2
                  try clear c29
                  try clear c29b0
                  try clear c29b1
                  try clear c30
                  try clear c30b0
                  try clear c30b1
                  try clear c36
                  try clear c36b0
                  try clear c36b1
                  try clear c37
                  try clear c38
                  try clear c38b0
                  try clear c38b1
                  try clear c39
                  try clear c40
                  try clear c40b0
                  try clear c40b1
                  try clear c53
                  try clear c57
                  try clear c57b0
                  try clear c57b1
                  try clear c58
                  try clear c58b0
                  try clear c58b1
                  try clear c59
                  try clear c59b0
                  try clear c59b1
                  try clear c60
                  try clear c60b0
                  try clear c60b1
                  try clear c61
                  try clear c62
                  try clear c63
                  try clear c63b0
                  try clear c63b1
                  try clear c64
                  try clear c64b0
                  try clear c64b1
                  try clear c64b2
                  try clear p64
                  try clear c65
                  try clear c65b0
                  try clear c65b1
                  try clear c65b2
                  try clear c66
                  try clear c66b0
                  try clear c67
                  try clear c70
                  try clear c71
                  try clear c74
                  try clear c77
                  try clear c80
                  try clear c83
                  try clear c86
                  try clear c87
                  try clear c87b0
                  try clear hcz13_0
                  try clear hcz13_1
                  try clear hcz13_2
                  try clear hcz20_0
                  try clear hcz20_1
                  try clear hcz20_2
                  try clear hcz41_0
                  try clear hcz41_1
                  try clear hcz41_2
                  try clear hcz46_0
                  try clear hcz46_1
                  try clear hcz46_2
                  try clear hcz48_0
                  try clear hcz48_1
                  try clear hcz48_2
                  try clear hcz50_0
                  try clear hcz50_1
                  try clear hcz50_2
                  try clear hcz54_0
                  try clear hcz54_1
                  try clear hcz54_2
                  try clear hcz68_0
                  try clear hcz68_1
                  try clear hcz68_2
                  try clear hcz69_0
                  try clear hcz69_1
                  try clear hcz69_2
                  try clear hcz72_0
                  try clear hcz72_1
                  try clear hcz72_2
                  try clear hcz73_0
                  try clear hcz73_1
                  try clear hcz73_2
                  try clear hcz75_0
                  try clear hcz75_1
                  try clear hcz75_2
                  try clear hcz76_0
                  try clear hcz76_1
                  try clear hcz76_2
                  try clear hcz78_0
                  try clear hcz78_1
                  try clear hcz78_2
                  try clear hcz79_0
                  try clear hcz79_1
                  try clear hcz79_2
                  try clear hcz81_0
                  try clear hcz81_1
                  try clear hcz81_2
                  try clear hcz82_0
                  try clear hcz82_1
                  try clear hcz82_2
                  try clear hcz84_0
                  try clear hcz84_1
                  try clear hcz84_2
                  try clear hcz85_0
                  try clear hcz85_1
                  try clear hcz85_2
                  try clear hfz13_0
                  try clear hfz13_1
                  try clear hfz13_2
                  try clear hfz20_0
                  try clear hfz20_1
                  try clear hfz20_2
                  try clear hfz41_0
                  try clear hfz41_1
                  try clear hfz41_2
                  try clear hfz46_0
                  try clear hfz46_1
                  try clear hfz46_2
                  try clear hfz48_0
                  try clear hfz48_1
                  try clear hfz48_2
                  try clear hfz50_0
                  try clear hfz50_1
                  try clear hfz50_2
                  try clear hfz54_0
                  try clear hfz54_1
                  try clear hfz54_2
                  try clear hfz68_0
                  try clear hfz68_1
                  try clear hfz68_2
                  try clear hfz69_0
                  try clear hfz69_1
                  try clear hfz69_2
                  try clear hfz72_0
                  try clear hfz72_1
                  try clear hfz72_2
                  try clear hfz73_0
                  try clear hfz73_1
                  try clear hfz73_2
                  try clear hfz75_0
                  try clear hfz75_1
                  try clear hfz75_2
                  try clear hfz76_0
                  try clear hfz76_1
                  try clear hfz76_2
                  try clear hfz78_0
                  try clear hfz78_1
                  try clear hfz78_2
                  try clear hfz79_0
                  try clear hfz79_1
                  try clear hfz79_2
                  try clear hfz81_0
                  try clear hfz81_1
                  try clear hfz81_2
                  try clear hfz82_0
                  try clear hfz82_1
                  try clear hfz82_2
                  try clear hfz84_0
                  try clear hfz84_1
                  try clear hfz84_2
                  try clear hfz85_0
                  try clear hfz85_1
                  try clear hfz85_2
                  try clear p2
                  try clear p6
                  try clear p64
                  obtain ⟨x22_6, x23_6, rfl, rfl, HA, HK6, HO_888001, HO_888002, HO_905001, HO_905002, BK887, BK904, HB⟩ := hrel
                  cases gk with
                  | zero => exact absurd HA.out (by simp [foghornlaw20_MendNever.l2])
                  | succ k6 =>
                   have H := HA.out
                   clear HA
                   simp only [foghornlaw20_MendNever.l2] at H
                   by_cases c88 : x23_6 < (l2.length : Int)
                   ·rw [if_pos c88] at H
                    have c88b0 : decide (x23_6 < (l2.length : Int)) = true := decide_eq_true c88
                    clear c88
                    by_cases c89 : x22_6 = true
                    ·subst c89
                     have H1 : (foghornlaw20_MendNever.l2 k6 a0 l2 x20_5 x21_5 true (wrap64 (x23_6 + 1)) t879 t880 t883) = some r := by rw [if_pos rfl] at H; exact H
                     clear H
                     have H := H1
                     clear H1
                     as_aux_lemma =>
                      have H' := Aside0.mk H
                      clear H
                      go_wp2
                      repeat (go_quiet (fail); try go_wp2)
                      first | go_roundg k6 | (simp only [add_plain] at *; go_roundg k6)
                      case measure => have := HJ15.out; have := HJ23.out; have := HJ33.out; have := HJ44.out; have := HK5.out; have := HK6.out; omega
                      case rel => exact ⟨(true), (wrap64 (x23_6 + 1)), (by first | rfl | (simp; done) | (simp [*]; done)), (by first | rfl | (simp; done) | (simp [*]; done)), H', ⟨by have := HJ15.out; have := HJ23.out; have := HJ33.out; have := HJ44.out; have := HK5.out; have := HK6.out; omega⟩, ⟨by (with_reducible repeat (first | apply Kd.R_alloc | apply Kd.R_drewN | apply Kd.R_drew)); exact HO_888001.out⟩, ⟨by (with_reducible repeat (first | apply Kd.R_alloc | apply Kd.R_drewN | apply Kd.R_drew)); exact HO_888002.out⟩, ⟨by (with_reducible repeat (first | apply Kd.R_alloc | apply Kd.R_drewN | apply Kd.R_drew)); exact HO_905001.out⟩, ⟨by (with_reducible repeat (first | apply Kd.R_alloc | apply Kd.R_drewN | apply Kd.R_drew)); exact HO_905002.out⟩, ⟨by (with_reducible repeat (first | refine blk_drewN ?_ _ | refine blk_drew ?_ | refine blk_alloc ?_ _)); exact BK887.out⟩, ⟨by (with_reducible repeat (first | refine blk_drewN ?_ _ | refine blk_drew ?_ | refine blk_alloc ?_ _)); exact BK904.out⟩, ⟨by repeat (first | (with_reducible first | exact HB.out | apply below_alloc | apply pw_below_drewN | apply below_drew1 | refine below_set ?_ GE887.out | refine below_set ?_ GE904.out) | exact HB.out)⟩⟩
                    ·replace c89 := Bool.eq_false_iff.mpr c89
                     subst c89
                     have H1 : (if 0 ≤ x23_6 then (foghornlaw20_MendNever.l2 k6 a0 l2 x20_5 x21_5 ((rd l2 x23_6) == x21_5) (wrap64 (x23_6 + 1)) t879 t880 t883) else (none)) = some r := by rw [if_neg (show ¬ (false = true) by decide)] at H; exact H
                     clear H
                     have H := H1
                     clear H1
                     by_cases c90 : 0 ≤ x23_6
                     ·rw [if_pos c90] at H
                      have c90b0 : decide (0 ≤ x23_6) = true := decide_eq_true c90
                      clear c90
                      as_aux_lemma =>
                       have H' := Aside0.mk H
                       clear H
                       have p905 : 0 ≤ (x23_6 : Int) := of_decide_eq_true (by first | (with_reducible assumption) | assumption)
                       have q905 : x23_6 < (l2.length : Int) := of_decide_eq_true (by first | (with_reducible assumption) | assumption)
                       obtain ⟨ad905, e905, hx905_0⟩ := Kd.at_int HR2.out x23_6 p905 q905
                       cases e905
                       replace hx905_0 := (HB.out.cell (World.block_lt_of_cell? w _ hx905_0)).trans hx905_0
                       replace p905 := eq_true p905
                       replace q905 := eq_true q905
                       go_wp2
                       repeat (go_quiet (fail); try go_wp2)
                       first | go_roundg k6 | (simp only [add_plain] at *; go_roundg k6)
                       case measure => have := HJ15.out; have := HJ23.out; have := HJ33.out; have := HJ44.out; have := HK5.out; have := HK6.out; omega
                       case rel => exact ⟨(((rd l2 x23_6) == x21_5)), (wrap64 (x23_6 + 1)), (by first | rfl | (simp; done) | (simp [*]; done)), (by first | rfl | (simp; done) | (simp [*]; done)), H', ⟨by have := HJ15.out; have := HJ23.out; have := HJ33.out; have := HJ44.out; have := HK5.out; have := HK6.out; omega⟩, ⟨by (with_reducible repeat (first | apply Kd.R_alloc | apply Kd.R_drewN | apply Kd.R_drew)); exact HO_888001.out⟩, ⟨by (with_reducible repeat (first | apply Kd.R_alloc | apply Kd.R_drewN | apply Kd.R_drew)); exact HO_888002.out⟩, ⟨by (with_reducible repeat (first | apply Kd.R_alloc | apply Kd.R_drewN | apply Kd.R_drew)); exact HO_905001.out⟩, ⟨by (with_reducible repeat (first | apply Kd.R_alloc | apply Kd.R_drewN | apply Kd.R_drew)); exact HO_905002.out⟩, ⟨by (with_reducible repeat (first | refine blk_drewN ?_ _ | refine blk_drew ?_ | refine blk_alloc ?_ _)); exact BK887.out⟩, ⟨by (with_reducible repeat (first | refine blk_drewN ?_ _ | refine blk_drew ?_ | refine blk_alloc ?_ _)); exact BK904.out⟩, ⟨by repeat (first | (with_reducible first | exact HB.out | apply below_alloc | apply pw_below_drewN | apply below_drew1 | refine below_set ?_ GE887.out | refine below_set ?_ GE904.out) | exact HB.out)⟩⟩
                     ·rw [if_neg c90] at H
                      exact absurd H (by simp)
                   ·rw [if_neg c88] at H
                    have c88b0 : decide (x23_6 < (l2.length : Int)) = false := decide_eq_false c88
                    clear c88
                    have HC91 := Aside0.mk H
                    clear H
                    go_upto_region 30 with (fail)
                    repeat (go_quiet (fail); go_upto_region 30 with (fail))
                    go_cut [231] (fun v231 wc => ∃ (kq : Nat) (x231_90 : Bool), v231 = .bool x231_90 ∧ Aside0 (foghornlaw20_MendNever.j7 kq a0 l2 x20_5 x21_5 x231_90 t879 t880 t883 = some r) ∧ Aside0 (kq ≤ k6) ∧ Aside0 (Kd.R (Kd.int .i64) 3 wc w.heap.size (fun k_ => some k_ ≠ ((.slice Ao22 t883.length co22) : Value).ownBlock ∧ some k_ ≠ ((.slice Ao55 t897.length co55) : Value).ownBlock ∧ some k_ ≠ ((.slice Ao56 t900.length co56) : Value).ownBlock) (.slice Ao21 t880.length co21) t880) ∧ Aside0 (Kd.R (Kd.int .i64) 3 wc w.heap.size (fun k_ => some k_ ≠ ((.slice Ao21 t880.length co21) : Value).ownBlock ∧ some k_ ≠ ((.slice Ao55 t897.length co55) : Value).ownBlock ∧ some k_ ≠ ((.slice Ao56 t900.length co56) : Value).ownBlock) (.slice Ao22 t883.length co22) t883) ∧ Aside0 (Kd.R (Kd.int .i64) 3 wc w.heap.size (fun k_ => some k_ ≠ ((.slice Ao21 t880.length co21) : Value).ownBlock ∧ some k_ ≠ ((.slice Ao22 t883.length co22) : Value).ownBlock ∧ some k_ ≠ ((.slice Ao56 t900.length co56) : Value).ownBlock) (.slice Ao55 t897.length co55) t897) ∧ Aside0 (Kd.R (Kd.int .i64) 3 wc w.heap.size (fun k_ => some k_ ≠ ((.slice Ao21 t880.length co21) : Value).ownBlock ∧ some k_ ≠ ((.slice Ao22 t883.length co22) : Value).ownBlock ∧ some k_ ≠ ((.slice Ao55 t897.length co55) : Value).ownBlock) (.slice Ao56 t900.length co56) t900) ∧ Aside0 (wc.heap[gb887]? = some (.cells #[.string t879, (.slice Ao21 t880.length co21), (.slice Ao22 t883.length co22)] 64 (0, 0))) ∧ Aside0 (wc.heap[gb904]? = some (.cells #[.string t896, (.slice Ao55 t897.length co55), (.slice Ao56 t900.length co56)] 64 (0, 0))) ∧ Aside0 (Below w.heap.size w wc))
                    case first =>
                     have H := HC91.out
                     clear HC91
                     by_cases c92 : x22_6 = true
                     ·subst c92
                      have H1 : (foghornlaw20_MendNever.j7 k6 a0 l2 x20_5 x21_5 false t879 t880 t883) = some r := by rw [if_pos rfl] at H; exact H
                      clear H
                      have H := H1
                      clear H1
                      as_aux_lemma =>
                       have H' := Aside0.mk H
                       clear H
                       go_wp2
                       repeat (go_quiet (fail); try go_wp2)
                       go_meet
                       case rel => exact ⟨_, (false), (by first | rfl | (simp; done) | (simp [*]; done)), H', ⟨by have := HJ15.out; have := HJ23.out; have := HJ33.out; have := HJ44.out; have := HK5.out; have := HK6.out; first | omega | exact Nat.le_refl _⟩, ⟨by (with_reducible repeat (first | apply Kd.R_alloc | apply Kd.R_drewN | apply Kd.R_drew)); exact HO_888001.out⟩, ⟨by (with_reducible repeat (first | apply Kd.R_alloc | apply Kd.R_drewN | apply Kd.R_drew)); exact HO_888002.out⟩, ⟨by (with_reducible repeat (first | apply Kd.R_alloc | apply Kd.R_drewN | apply Kd.R_drew)); exact HO_905001.out⟩, ⟨by (with_reducible repeat (first | apply Kd.R_alloc | apply Kd.R_drewN | apply Kd.R_drew)); exact HO_905002.out⟩, ⟨by (with_reducible repeat (first | refine blk_drewN ?_ _ | refine blk_drew ?_ | refine blk_alloc ?_ _)); exact BK887.out⟩, ⟨by (with_reducible repeat (first | refine blk_drewN ?_ _ | refine blk_drew ?_ | refine blk_alloc ?_ _)); exact BK904.out⟩, ⟨by repeat (first | (with_reducible first | exact HB.out | apply below_alloc | apply pw_below_drewN | apply below_drew1 | refine below_set ?_ GE887.out | refine below_set ?_ GE904.out) | exact HB.out)⟩⟩
                     ·replace c92 := Bool.eq_false_iff.mpr c92
                      subst c92
                      have H1 : (if 0 ≤ x21_5 then (if x21_5 < (a0.size : Int) then (if x21_5 < (t879.size : Int) then (foghornlaw20_MendNever.j7 k6 a0 l2 x20_5 x21_5 ((bt a0 x21_5) != (bt t879 x21_5)) t879 t880 t883) else (none)) else (none)) else (none)) = some r := by rw [if_neg (show ¬ (false = true) by decide)] at H; exact H
                      clear H
                      have H := H1
                      clear H1
                      by_cases c93 : 0 ≤ x21_5
                      ·rw [if_pos c93] at H
                       have c93b0 : decide (0 ≤ x21_5) = true := decide_eq_true c93
                       clear c93
                       (first | rw [c93b0] | (simp only [i64_w, i32_w]; rw [c93b0]) | skip)
                       by_cases c94 : x21_5 < (a0.size : Int)
                       ·rw [if_pos c94] at H
                        have c94b0 : decide (x21_5 < (a0.size : Int)) = true := decide_eq_true c94
                        clear c94
                        by_cases c96 : x21_5 < (t879.size : Int)
                        ·rw [if_pos c96] at H
                         have c96b0 : decide (x21_5 < (t879.size : Int)) = true := decide_eq_true c96
                         clear c96
                         as_aux_lemma =>
                          have H' := Aside0.mk H
                          clear H
                          have p95 : 0 ≤ (x21_5 : Int) := of_decide_eq_true (by first | (with_reducible assumption) | assumption)
                          have q95 : x21_5 < (a0.size : Int) := of_decide_eq_true (by first | (with_reducible assumption) | assumption)
                          have hx95 := bt_at a0 x21_5
                          replace p95 := eq_true p95
                          replace q95 := eq_true q95
                          have hnb98 := NB887_904.out
                          have hnc98 := NB904_887.out
                          have hcz99_0 : wr.cell? ⟨gb887, 0, none⟩ = some (.string t879) := (blk_cell BK887.out 0).trans rfl
                          have hcz99_1 : wr.cell? ⟨gb887, 1, none⟩ = some (.slice Ao21 t880.length co21) := (blk_cell BK887.out 1).trans rfl
                          have hcz99_2 : wr.cell? ⟨gb887, 2, none⟩ = some (.slice Ao22 t883.length co22) := (blk_cell BK887.out 2).trans rfl
                          have hfz99_0 := blk_frozen BK887.out 0
                          have hfz99_1 := blk_frozen BK887.out 1
                          have hfz99_2 := blk_frozen BK887.out 2
                          have p97 : 0 ≤ (x21_5 : Int) := of_decide_eq_true (by first | (with_reducible assumption) | assumption)
                          have q97 : x21_5 < (t879.size : Int) := of_decide_eq_true (by first | (with_reducible assumption) | assumption)
                          have hx97 := bt_at t879 x21_5
                          replace p97 := eq_true p97
                          replace q97 := eq_true q97
                          go_wp2
                          repeat (go_quiet (fail); try go_wp2)
                          go_meet
                          case rel => exact ⟨_, (((bt a0 x21_5) != (bt t879 x21_5))), (by first | rfl | (simp; done) | (simp [*]; done)), H', ⟨by have := HJ15.out; have := HJ23.out; have := HJ33.out; have := HJ44.out; have := HK5.out; have := HK6.out; first | omega | exact Nat.le_refl _⟩, ⟨by (with_reducible repeat (first | apply Kd.R_alloc | apply Kd.R_drewN | apply Kd.R_drew)); exact HO_888001.out⟩, ⟨by (with_reducible repeat (first | apply Kd.R_alloc | apply Kd.R_drewN | apply Kd.R_drew)); exact HO_888002.out⟩, ⟨by (with_reducible repeat (first | apply Kd.R_alloc | apply Kd.R_drewN | apply Kd.R_drew)); exact HO_905001.out⟩, ⟨by (with_reducible repeat (first | apply Kd.R_alloc | apply Kd.R_drewN | apply Kd.R_drew)); exact HO_905002.out⟩, ⟨by (with_reducible repeat (first | refine blk_drewN ?_ _ | refine blk_drew ?_ | refine blk_alloc ?_ _)); exact BK887.out⟩, ⟨by (with_reducible repeat (first | refine blk_drewN ?_ _ | refine blk_drew ?_ | refine blk_alloc ?_ _)); exact BK904.out⟩, ⟨by repeat (first | (with_reducible first | exact HB.out | apply below_alloc | apply pw_below_drewN | apply below_drew1 | refine below_set ?_ GE887.out | refine below_set ?_ GE904.out) | exact HB.out)⟩⟩
                        ·rw [if_neg c96] at H
                         exact absurd H (by simp)
                       ·rw [if_neg c94] at H
                        exact absurd H (by simp)
                      ·rw [if_neg c93] at H
                       exact absurd H (by simp)
                    case rest =>
                     clear HC91
                     try clear c1
                     try clear c2
                     try clear p2
                     try clear c3
                     try clear c4
                     try clear c5
                     try clear c6
                     try clear p6
                     try clear c7
                     try clear c8
                     try clear c8b0
                     try clear c8b1
                     try clear c9
                     try clear c9b0
                     try clear c9b1
                     try clear p9
                     try clear q9
                     try clear hx9
                     try clear c12
                     try clear c23
                     try clear c23b0
                     try clear c23b1
                     try clear c25
                     try clear c26
                     try clear c26b0
                     try clear c27
                     try clear c27b0
                     try clear c27b1
                     try clear c27b2
                     try clear c29
                     try clear c29b0
                     try clear c29b1
                     try clear c30
                     try clear c30b0
                     try clear c30b1
                     try clear c36
                     try clear c36b0
                     try clear c36b1
                     try clear c37
                     try clear c38
                     try clear c38b0
                     try clear c38b1
                     try clear c39
                     try clear c40
                     try clear c40b0
                     try clear c40b1
                     try clear c53
                     try clear c57
                     try clear c57b0
                     try clear c57b1
                     try clear c58
                     try clear c58b0
                     try clear c58b1
                     try clear c59
                     try clear c59b0
                     try clear c59b1
                     try clear c60
                     try clear c60b0
                     try clear c60b1
                     try clear c61
                     try clear c62
                     try clear c63
                     try clear c63b0
                     try clear c63b1
                     try clear c64
                     try clear c64b0
                     try clear c64b1
                     try clear c64b2
                     try clear p64
                     try clear c65
                     try clear c65b0
                     try clear c65b1
                     try clear c65b2
                     try clear c66
                     try clear c66b0
                     try clear c67
                     try clear c70
                     try clear c71
                     try clear c74
                     try clear c77
                     try clear c80
                     try clear c83
                     try clear c86
                     try clear c87
                     try clear c87b0
                     try clear c88
                     try clear c88b0
                     try clear c89
                     try clear c90
                     try clear c90b0
                     try clear p90
                     try clear q90
                     try clear hx90
                     try clear c92
                     try clear c93
                     try clear c93b0
                     try clear c94
                     try clear c94b0
                     try clear p95
                     try clear q95
                     try clear hx95
                     try clear c96
                     try clear c96b0
                     try clear p97
                     try clear q97
                     try clear hx97
                     try clear c98
                     try clear hcz13_0
                     try clear hcz13_1
                     try clear hcz13_2
                     try clear hcz20_0
                     try clear hcz20_1
                     try clear hcz20_2
                     try clear hcz41_0
                     try clear hcz41_1
                     try clear hcz41_2
                     try clear hcz46_0
                     try clear hcz46_1
                     try clear hcz46_2
                     try clear hcz48_0
                     try clear hcz48_1
                     try clear hcz48_2
                     try clear hcz50_0
                     try clear hcz50_1
                     try clear hcz50_2
                     try clear hcz54_0
                     try clear hcz54_1
                     try clear hcz54_2
                     try clear hcz68_0
                     try clear hcz68_1
                     try clear hcz68_2
                     try clear hcz69_0
                     try clear hcz69_1
                     try clear hcz69_2
                     try clear hcz72_0
                     try clear hcz72_1
                     try clear hcz72_2
                     try clear hcz73_0
                     try clear hcz73_1
                     try clear hcz73_2
                     try clear hcz75_0
                     try clear hcz75_1
                     try clear hcz75_2
                     try clear hcz76_0
                     try clear hcz76_1
                     try clear hcz76_2
                     try clear hcz78_0
                     try clear hcz78_1
                     try clear hcz78_2
                     try clear hcz79_0
                     try clear hcz79_1
                     try clear hcz79_2
                     try clear hcz81_0
                     try clear hcz81_1
                     try clear hcz81_2
                     try clear hcz82_0
                     try clear hcz82_1
                     try clear hcz82_2
                     try clear hcz84_0
                     try clear hcz84_1
                     try clear hcz84_2
                     try clear hcz85_0
                     try clear hcz85_1
                     try clear hcz85_2
                     try clear hcz99_0
                     try clear hcz99_1
                     try clear hcz99_2
                     try clear hfz13_0
                     try clear hfz13_1
                     try clear hfz13_2
                     try clear hfz20_0
                     try clear hfz20_1
                     try clear hfz20_2
                     try clear hfz41_0
                     try clear hfz41_1
                     try clear hfz41_2
                     try clear hfz46_0
                     try clear hfz46_1
                     try clear hfz46_2
                     try clear hfz48_0
                     try clear hfz48_1
                     try clear hfz48_2
                     try clear hfz50_0
                     try clear hfz50_1
                     try clear hfz50_2
                     try clear hfz54_0
                     try clear hfz54_1
                     try clear hfz54_2
                     try clear hfz68_0
                     try clear hfz68_1
                     try clear hfz68_2
                     try clear hfz69_0
                     try clear hfz69_1
                     try clear hfz69_2
                     try clear hfz72_0
                     try clear hfz72_1
                     try clear hfz72_2
                     try clear hfz73_0
                     try clear hfz73_1
                     try clear hfz73_2
                     try clear hfz75_0
                     try clear hfz75_1
                     try clear hfz75_2
                     try clear hfz76_0
                     try clear hfz76_1
                     try clear hfz76_2
                     try clear hfz78_0
                     try clear hfz78_1
                     try clear hfz78_2
                     try clear hfz79_0
                     try clear hfz79_1
                     try clear hfz79_2
                     try clear hfz81_0
                     try clear hfz81_1
                     try clear hfz81_2
                     try clear hfz82_0
                     try clear hfz82_1
                     try clear hfz82_2
                     try clear hfz84_0
                     try clear hfz84_1
                     try clear hfz84_2
                     try clear hfz85_0
                     try clear hfz85_1
                     try clear hfz85_2
                     try clear hfz99_0
                     try clear hfz99_1
                     try clear hfz99_2
                     try clear hx905_0
                     try clear p2
                     try clear p6
                     try clear p64
                     try clear p905
                     try clear p95
                     try clear p97
                     try clear q905
                     try clear q95
                     try clear q97
                     obtain ⟨kq, x231_90, rfl, HA, HJ90, HO_888001, HO_888002, HO_905001, HO_905002, BK887, BK904, HB⟩ := hcut
                     cases kq with
                     | zero => exact absurd HA.out (by simp [foghornlaw20_MendNever.j7])
                     | succ kj90 =>
                      have H := HA.out
                      clear HA
                      simp only [foghornlaw20_MendNever.j7] at H
                      by_cases c100 : x231_90 = true
                      ·subst c100
                       have H1 : (if x20_5 ≥ (t880.length : Int) then (some false) else (if 0 ≤ x20_5 then (if x20_5 < (t880.length : Int) then (if (rd t880 x20_5) = x21_5 then (foghornlaw20_MendNever.l1 kj90 a0 l2 (wrap64 (x20_5 + 1)) (wrap64 (x21_5 + 1)) t879 t880 t883) else (some false)) else (none)) else (none))) = some r := by rw [if_pos rfl] at H; exact H
                       clear H
                       have H := H1
                       clear H1
                       by_cases c101 : x20_5 ≥ (t880.length : Int)
                       ·rw [if_pos c101] at H
                        have c101b0 : decide ((t880.length : Int) ≤ x20_5) = true := decide_eq_true c101
                        clear c101
                        as_aux_lemma =>
                         exact absurd ((Option.some.inj H).trans HQ_.out) (by decide)
                       ·rw [if_neg c101] at H
                        have c101b0 : decide ((t880.length : Int) ≤ x20_5) = false := decide_eq_false c101
                        clear c101
                        by_cases c102 : 0 ≤ x20_5
                        ·rw [if_pos c102] at H
                         have c102b0 : decide (0 ≤ x20_5) = true := decide_eq_true c102
                         clear c102
                         by_cases c103 : x20_5 < (t880.length : Int)
                         ·rw [if_pos c103] at H
                          have c103b0 : decide (x20_5 < (t880.length : Int)) = true := decide_eq_true c103
                          clear c103
                          by_cases c104 : (rd t880 x20_5) = x21_5
                          ·rw [if_pos c104] at H
                           have c104b0 : ((rd t880 x20_5) == x21_5) = true := beq_iff_eq.mpr c104
                           have c104b1 : ((rd t880 x20_5) != x21_5) = false := bne_eq_false_iff_eq.mpr c104
                           clear c104
                           as_aux_lemma =>
                            have H' := Aside0.mk H
                            clear H
                            have hnb105 := NB887_904.out
                            have hnc105 := NB904_887.out
                            have hcz106_0 : wc.cell? ⟨gb887, 0, none⟩ = some (.string t879) := (blk_cell BK887.out 0).trans rfl
                            have hcz106_1 : wc.cell? ⟨gb887, 1, none⟩ = some (.slice Ao21 t880.length co21) := (blk_cell BK887.out 1).trans rfl
                            have hcz106_2 : wc.cell? ⟨gb887, 2, none⟩ = some (.slice Ao22 t883.length co22) := (blk_cell BK887.out 2).trans rfl
                            have hfz106_0 := blk_frozen BK887.out 0
                            have hfz106_1 := blk_frozen BK887.out 1
                            have hfz106_2 := blk_frozen BK887.out 2
                            have p906 : 0 ≤ (x20_5 : Int) := of_decide_eq_true (by first | (with_reducible assumption) | assumption)
                            have q906 : x20_5 < (t880.length : Int) := of_decide_eq_true (by first | (with_reducible assumption) | assumption)
                            obtain ⟨ad906, e906, hx906_0⟩ := Kd.at_int (Kd.R_reads' HO_888001.out).2.2 x20_5 p906 q906
                            cases e906
                            replace p906 := eq_true p906
                            replace q906 := eq_true q906
                            go_wp2
                            repeat (go_quiet (fail); try go_wp2)
                            first | go_roundg kj90 | (simp only [add_plain] at *; go_roundg kj90)
                            case measure => have := HJ15.out; have := HJ23.out; have := HJ33.out; have := HJ44.out; have := HK5.out; have := HK6.out; have := HJ90.out; omega
                            case rel => exact ⟨(wrap64 (x20_5 + 1)), (wrap64 (x21_5 + 1)), (by first | rfl | (simp; done) | (simp [*]; done)), (by first | rfl | (simp; done) | (simp [*]; done)), H', ⟨by have := HJ15.out; have := HJ23.out; have := HJ33.out; have := HJ44.out; have := HK5.out; have := HK6.out; have := HJ90.out; omega⟩, ⟨by (with_reducible repeat (first | apply Kd.R_alloc | apply Kd.R_drewN | apply Kd.R_drew)); exact HO_888001.out⟩, ⟨by (with_reducible repeat (first | apply Kd.R_alloc | apply Kd.R_drewN | apply Kd.R_drew)); exact HO_888002.out⟩, ⟨by (with_reducible repeat (first | apply Kd.R_alloc | apply Kd.R_drewN | apply Kd.R_drew)); exact HO_905001.out⟩, ⟨by (with_reducible repeat (first | apply Kd.R_alloc | apply Kd.R_drewN | apply Kd.R_drew)); exact HO_905002.out⟩, ⟨by (with_reducible repeat (first | refine blk_drewN ?_ _ | refine blk_drew ?_ | refine blk_alloc ?_ _)); exact BK887.out⟩, ⟨by (with_reducible repeat (first | refine blk_drewN ?_ _ | refine blk_drew ?_ | refine blk_alloc ?_ _)); exact BK904.out⟩, ⟨by repeat (first | (with_reducible first | exact HB.out | apply below_alloc | apply pw_below_drewN | apply below_drew1 | refine below_set ?_ GE887.out | refine below_set ?_ GE904.out) | exact HB.out)⟩⟩
                          ·rw [if_neg c104] at H
                           have c104b0 : ((rd t880 x20_5) == x21_5) = false := beq_eq_false_iff_ne.mpr c104
                           have c104b1 : ((rd t880 x20_5) != x21_5) = true := bne_iff_ne.mpr c104
                           as_aux_lemma =>
                            exact absurd ((Option.some.inj H).trans HQ_.out) (by decide)
                         ·rw [if_neg c103] at H
                          exact absurd H (by simp)
                        ·rw [if_neg c102] at H
                         exact absurd H (by simp)
                      ·replace c100 := Bool.eq_false_iff.mpr c100
                       subst c100
                       have H1 : (foghornlaw20_MendNever.l1 kj90 a0 l2 x20_5 (wrap64 (x21_5 + 1)) t879 t880 t883) = some r := by rw [if_neg (show ¬ (false = true) by decide)] at H; exact H
                       clear H
                       have H := H1
                       clear H1
                       as_aux_lemma =>
                        have H' := Aside0.mk H
                        clear H
                        go_wp2
                        repeat (go_quiet (fail); try go_wp2)
                        first | go_roundg kj90 | (simp only [add_plain] at *; go_roundg kj90)
                        case measure => have := HJ15.out; have := HJ23.out; have := HJ33.out; have := HJ44.out; have := HK5.out; have := HK6.out; have := HJ90.out; omega
                        case rel => exact ⟨(x20_5), (wrap64 (x21_5 + 1)), (by first | rfl | (simp; done) | (simp [*]; done)), (by first | rfl | (simp; done) | (simp [*]; done)), H', ⟨by have := HJ15.out; have := HJ23.out; have := HJ33.out; have := HJ44.out; have := HK5.out; have := HK6.out; have := HJ90.out; omega⟩, ⟨by (with_reducible repeat (first | apply Kd.R_alloc | apply Kd.R_drewN | apply Kd.R_drew)); exact HO_888001.out⟩, ⟨by (with_reducible repeat (first | apply Kd.R_alloc | apply Kd.R_drewN | apply Kd.R_drew)); exact HO_888002.out⟩, ⟨by (with_reducible repeat (first | apply Kd.R_alloc | apply Kd.R_drewN | apply Kd.R_drew)); exact HO_905001.out⟩, ⟨by (with_reducible repeat (first | apply Kd.R_alloc | apply Kd.R_drewN | apply Kd.R_drew)); exact HO_905002.out⟩, ⟨by (with_reducible repeat (first | refine blk_drewN ?_ _ | refine blk_drew ?_ | refine blk_alloc ?_ _)); exact BK887.out⟩, ⟨by (with_reducible repeat (first | refine blk_drewN ?_ _ | refine blk_drew ?_ | refine blk_alloc ?_ _)); exact BK904.out⟩, ⟨by repeat (first | (with_reducible first | exact HB.out | apply below_alloc | apply pw_below_drewN | apply below_drew1 | refine below_set ?_ GE887.out | refine below_set ?_ GE904.out) | exact HB.out)⟩⟩
                ·rw [if_neg c87] at H
                 have c87b0 : decide (x21_5 < (a0.size : Int)) = false := decide_eq_false c87
                 clear c87
                 as_aux_lemma =>
                  obtain rfl := Option.some.inj H
                  have hnb107 := NB887_904.out
                  have hnc107 := NB904_887.out
                  have hcz108_0 : wr.cell? ⟨gb887, 0, none⟩ = some (.string t879) := (blk_cell BK887.out 0).trans rfl
                  have hcz108_1 : wr.cell? ⟨gb887, 1, none⟩ = some (.slice Ao21 t880.length co21) := (blk_cell BK887.out 1).trans rfl
                  have hcz108_2 : wr.cell? ⟨gb887, 2, none⟩ = some (.slice Ao22 t883.length co22) := (blk_cell BK887.out 2).trans rfl
                  have hfz108_0 := blk_frozen BK887.out 0
                  have hfz108_1 := blk_frozen BK887.out 1
                  have hfz108_2 := blk_frozen BK887.out 2
                  go_wp2
                  repeat (go_quiet (fail); try go_wp2)
                  go_ret
                  exact ⟨by first | rfl | (simp [errW_none, errW_some] <;> rfl) | (simp [*, errW_none, errW_some] <;> rfl), by repeat (first | (with_reducible first | exact HB.out | apply below_alloc | apply pw_below_drewN | apply below_drew1 | refine below_set ?_ GE887.out | refine below_set ?_ GE904.out) | exact HB.out)⟩
 ·replace c6 := Bool.eq_false_iff.mpr c6
  subst c6
  have H1 : (some false) = some r := by rw [if_neg (show ¬ (false = true) by decide)] at H; exact H
  clear H
  have H := H1
  clear H1
  as_aux_lemma =>
   exact absurd ((Option.some.inj H).trans HQ_.out) (by decide)

theorem foghornlaw20_MendNever.walk (P : foghornlaw20_MendNever.Pure) (a0 : ByteArray) (a1 : Int) (a2 : Option Addr) (len2 cap2 : Nat) (z2 : List Int) (a3 : ByteArray) (w : World) (w0 : a0.size ≤ 140737488351232) (w1 : (Lit.int .i64 a1).wf = true) (w2 : (a2 = none ∧ len2 = 0 ∧ cap2 = 0 ∧ z2 = []) ∨ ∃ x, a2 = some x ∧ len2 ≤ cap2 ∧ cap2 ≤ maxLen ∧ z2.length = cap2 ∧ (∀ i, i < z2.length → w.cell? (x.add i) = some (.int .i64 (z2.getD i 0))) ∧ ∀ n ∈ z2, (Lit.int .i64 n).wf = true) (y2 : len2 * 8 ≤ 140737488351232) (w3 : a3.size ≤ 140737488351232) :
  Calls Try.prog 12 #[.string a0, .int .i64 a1, .slice a2 len2 cap2, .string a3] w fun e w' => e = .returned (.bool true) ∧ Below w.heap.size w w' := by
 obtain ⟨l2, rfl, hr2, hm2, hw2, hc2⟩ := ReadsInt.ofRowC w2
 obtain ⟨k, h⟩ := P a0 a1 l2 a3 w0 w1 hm2 y2 hw2 w3
 refine (foghornlaw20_MendNever.calls k a0 a1 _ _ l2 a3 true w (Kd.C_of_reads (d := (0 : Int)) (h1 := fun _ => rfl) hr2) hc2 h rfl).mono ?_
 rintro e w' ⟨rfl, hd⟩
 exact ⟨rfl, hd⟩

end Go.Proofs.Ytncoakokdajibaa.Q
