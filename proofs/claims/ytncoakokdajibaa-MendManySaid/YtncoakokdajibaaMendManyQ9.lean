import Derived.Test.YtncoakokdajibaaMendManyK0
import Derived.Test.YtncoakokdajibaaMendManyF1
import Derived.Test.YtncoakokdajibaaMendManyQ3
-- Printed by myprint.py (ours) over the kit's printer, out of the translation.
namespace Go.Proofs.Ytncoakokdajibaa.Q
open Go.RowKit Go.Proofs.YtncoakokdajibaaW.PrintWords Go.Proofs.YtncoakokdajibaaW.PrintLast Go.Proofs.YtncoakokdajibaaW.PrintMore
attribute [local go_sem] ArrW.ptrOf_slice unary_neg_float unary_neg_complex run_store_float run_store_complex max2_int min2_int max_two min_two max_three min_three max_four min_four   -- for this text's walks alone
set_option linter.unusedVariables false
set_option linter.unusedSimpArgs false
set_option maxHeartbeats 8000000 in
set_option maxRecDepth 100000 in
theorem foghornlaw20_alike.calls (k : Nat) (a0_0 : ByteArray) (A0_1 : Option Addr) (c0_1 : Nat) (l0_1 : List Int) (A0_2 : Option Addr) (c0_2 : Nat) (l0_2 : List Int) (a1_0 : ByteArray) (A1_1 : Option Addr) (c1_1 : Nat) (l1_1 : List Int) (A1_2 : Option Addr) (c1_2 : Nat) (l1_2 : List Int) (r : Bool) (w : World) (hr0_1 : Kd.C (Kd.int .i64) w A0_1 l0_1.length l0_1) (hc0_1 : l0_1.length ≤ c0_1) (hr0_2 : Kd.C (Kd.int .i64) w A0_2 l0_2.length l0_2) (hc0_2 : l0_2.length ≤ c0_2) (hr1_1 : Kd.C (Kd.int .i64) w A1_1 l1_1.length l1_1) (hc1_1 : l1_1.length ≤ c1_1) (hr1_2 : Kd.C (Kd.int .i64) w A1_2 l1_2.length l1_2) (hc1_2 : l1_2.length ≤ c1_2) (h : foghornlaw20_alike.f k a0_0 l0_1 l0_2 a1_0 l1_1 l1_2 = some r) :
  Calls Try.prog 56 #[.agg #[.string a0_0, .slice A0_1 l0_1.length c0_1, .slice A0_2 l0_2.length c0_2], .agg #[.string a1_0, .slice A1_1 l1_1.length c1_1, .slice A1_2 l1_2.length c1_2]] w fun e w' => e = .returned (.bool r) ∧ Below w.heap.size w w' := by
 have hu64 := Try.underlying64
 have hu76 := Try.underlying76
 have HR0_1 := Aside0.mk hr0_1
 have HC0_1 := Aside0.mk hc0_1
 clear hr0_1 hc0_1
 have HR0_2 := Aside0.mk hr0_2
 have HC0_2 := Aside0.mk hc0_2
 clear hr0_2 hc0_2
 have HR1_1 := Aside0.mk hr1_1
 have HC1_1 := Aside0.mk hc1_1
 clear hr1_1 hc1_1
 have HR1_2 := Aside0.mk hr1_2
 have HC1_2 := Aside0.mk hc1_2
 clear hr1_2 hc1_2
 have HB := Aside0.mk (Below.refl w.heap.size w)
 have H : (if a0_0.toList = a1_0.toList then ((foghornref20_Numbers.f k l0_1 l1_1).bind fun t1141 => (if t1141 = true then ((foghornref20_Numbers.f k l0_2 l1_2).bind fun t1142 => (some t1142)) else (some false))) else (some false)) = some r := h
 clear h
 by_cases c3 : a0_0.toList = a1_0.toList
 ·rw [if_pos c3] at H
  have c3b0 : (a0_0.toList == a1_0.toList) = true := beq_iff_eq.mpr c3
  have c3b1 : (a0_0.toList != a1_0.toList) = false := bne_eq_false_iff_eq.mpr c3
  clear c3
  replace H := Option.bind_eq_some_iff.mp H
  obtain ⟨t1141, A40, H⟩ := H
  replace H : (if t1141 = true then ((foghornref20_Numbers.f k l0_2 l1_2).bind fun t1142 => (some t1142)) else (some false)) = some r := H
  have A4 := Aside0.mk A40
  clear A40
  by_cases c5 : t1141 = true
  ·subst c5
   have H1 : ((foghornref20_Numbers.f k l0_2 l1_2).bind fun t1142 => (some t1142)) = some r := by rw [if_pos rfl] at H; exact H
   clear H
   have H := H1
   clear H1
   replace H := Option.bind_eq_some_iff.mp H
   obtain ⟨t1142, A60, H⟩ := H
   replace H : (some t1142) = some r := H
   have A6 := Aside0.mk A60
   clear A60
   obtain rfl := Option.some.inj H
   go_enter Try.func56, Try.ntmps56
   go_wp2_with (first | ((with_reducible refine gate_dst (N := 2) rfl ?_); refine box_event ?hg (N := 2) ?hd (cs := #[.string a0_0, .slice A0_1 l0_1.length c0_1, .slice A0_2 l0_2.length c0_2]) (t := 64) ?hr ?_; (case hd => rfl); (case hg => rfl); (case hr => first | (go_simp; done) | (go_simp; rfl)); intro gb1139 hg w7 hbox hb; have n0_ := Aside0.mk (below_step HB.out hb); have n1_ := Aside0.mk (hbox); have n2_ := Aside0.mk ((by rw [hg]; exact (below_size HB.out) : w.heap.size ≤ gb1139)); have n3_ := Aside0.mk ((by rw [hg]; exact (below_size HB.out) : w.heap.size ≤ gb1139)); clear HB; have HB := n0_; have BK1139 := n1_; have GW1139 := n2_; have GE1139 := n3_; clear n0_ n1_ n2_ n3_; clear hb hbox hg) | ((with_reducible refine gate_dst (N := 3) rfl ?_); refine box_event ?hg (N := 3) ?hd (cs := #[.string a1_0, .slice A1_1 l1_1.length c1_1, .slice A1_2 l1_2.length c1_2]) (t := 76) ?hr ?_; (case hd => rfl); (case hg => rfl); (case hr => first | (go_simp; done) | (go_simp; rfl)); intro gb1140 hg w8 hbox hb; have n0_ := Aside0.mk (blk_below (g := gb1139) (o := .cells #[.string a0_0, .slice A0_1 l0_1.length c0_1, .slice A0_2 l0_2.length c0_2] 64 (0, 0)) (by (with_reducible repeat (first | refine blk_drewN ?_ _ | refine blk_drew ?_ | refine blk_alloc ?_ _)); exact BK1139.out) hb); have n1_ := Aside0.mk (below_step HB.out hb); have n2_ := Aside0.mk (hbox); have n3_ := Aside0.mk ((by rw [hg]; exact (below_size HB.out) : w.heap.size ≤ gb1140)); have n4_ := Aside0.mk ((by rw [hg]; exact (below_size HB.out) : w.heap.size ≤ gb1140)); have n5_ := Aside0.mk ((by rw [hg]; exact Nat.ne_of_lt (blk_lt (g := gb1139) (o := .cells #[.string a0_0, .slice A0_1 l0_1.length c0_1, .slice A0_2 l0_2.length c0_2] 64 (0, 0)) (by (with_reducible repeat (first | refine blk_drewN ?_ _ | refine blk_drew ?_ | refine blk_alloc ?_ _)); exact BK1139.out)) : gb1139 ≠ gb1140)); have n6_ := Aside0.mk ((by rw [hg]; exact Nat.ne_of_gt (blk_lt (g := gb1139) (o := .cells #[.string a0_0, .slice A0_1 l0_1.length c0_1, .slice A0_2 l0_2.length c0_2] 64 (0, 0)) (by (with_reducible repeat (first | refine blk_drewN ?_ _ | refine blk_drew ?_ | refine blk_alloc ?_ _)); exact BK1139.out)) : gb1140 ≠ gb1139)); clear BK1139; clear HB; have BK1139 := n0_; have HB := n1_; have BK1140 := n2_; have GW1140 := n3_; have GE1140 := n4_; have NB1139_1140 := n5_; have NB1140_1139 := n6_; clear n0_ n1_ n2_ n3_ n4_ n5_ n6_; clear hb hbox hg; have hnb9 := NB1139_1140.out; have hnc9 := NB1140_1139.out; have hcz10_0 : w8.cell? ⟨gb1139, 0, none⟩ = some (.string a0_0) := (blk_cell BK1139.out 0).trans rfl; have hcz10_1 : w8.cell? ⟨gb1139, 1, none⟩ = some (.slice A0_1 l0_1.length c0_1) := (blk_cell BK1139.out 1).trans rfl; have hcz10_2 : w8.cell? ⟨gb1139, 2, none⟩ = some (.slice A0_2 l0_2.length c0_2) := (blk_cell BK1139.out 2).trans rfl; have hfz10_0 := blk_frozen BK1139.out 0; have hfz10_1 := blk_frozen BK1139.out 1; have hfz10_2 := blk_frozen BK1139.out 2; have hcz11_0 : w8.cell? ⟨gb1140, 0, none⟩ = some (.string a1_0) := (blk_cell BK1140.out 0).trans rfl; have hcz11_1 : w8.cell? ⟨gb1140, 1, none⟩ = some (.slice A1_1 l1_1.length c1_1) := (blk_cell BK1140.out 1).trans rfl; have hcz11_2 : w8.cell? ⟨gb1140, 2, none⟩ = some (.slice A1_2 l1_2.length c1_2) := (blk_cell BK1140.out 2).trans rfl; have hfz11_0 := blk_frozen BK1140.out 0; have hfz11_1 := blk_frozen BK1140.out 1; have hfz11_2 := blk_frozen BK1140.out 2) | (go_at_call 52; (with_reducible refine (foghornref20_Numbers.calls k _ _ l0_1 _ _ l1_1 true _ ?side1 ?side2 ?side3 ?side4 A4.out).mono ?_); (case side1 => exact (Kd.C_below HR0_1.out HB.out)); (case side2 => exact HC0_1.out); (case side3 => exact (Kd.C_below HR1_1.out HB.out)); (case side4 => exact HC1_1.out); rintro e w' ⟨rfl, ⟨nd, rfl⟩⟩) | (go_at_call 52; (with_reducible refine (foghornref20_Numbers.calls k _ _ l0_2 _ _ l1_2 t1142 _ ?side1 ?side2 ?side3 ?side4 A6.out).mono ?_); (case side1 => repeat (first | exact (Kd.C_below HR0_2.out (by repeat (first | (with_reducible first | exact HB.out | apply below_alloc | apply pw_below_drewN | apply below_drew1 | refine below_set ?_ GE1139.out | refine below_set ?_ GE1140.out) | exact HB.out))) | (with_reducible refine Kd.C_alloc ?_ _) | (with_reducible refine Kd.C_drewN ?_ _) | (with_reducible refine Kd.C_drew ?_))); (case side2 => exact HC0_2.out); (case side3 => repeat (first | exact (Kd.C_below HR1_2.out (by repeat (first | (with_reducible first | exact HB.out | apply below_alloc | apply pw_below_drewN | apply below_drew1 | refine below_set ?_ GE1139.out | refine below_set ?_ GE1140.out) | exact HB.out))) | (with_reducible refine Kd.C_alloc ?_ _) | (with_reducible refine Kd.C_drewN ?_ _) | (with_reducible refine Kd.C_drew ?_))); (case side4 => exact HC1_2.out); rintro e w' ⟨rfl, ⟨nd, rfl⟩⟩))
   go_ret
   exact ⟨by rfl, by repeat (first | (with_reducible first | exact HB.out | apply below_alloc | apply pw_below_drewN | apply below_drew1 | refine below_set ?_ GE1139.out | refine below_set ?_ GE1140.out) | exact HB.out)⟩
  ·replace c5 := Bool.eq_false_iff.mpr c5
   subst c5
   have H1 : (some false) = some r := by rw [if_neg (show ¬ (false = true) by decide)] at H; exact H
   clear H
   have H := H1
   clear H1
   obtain rfl := Option.some.inj H
   go_enter Try.func56, Try.ntmps56
   go_wp2_with (first | ((with_reducible refine gate_dst (N := 2) rfl ?_); refine box_event ?hg (N := 2) ?hd (cs := #[.string a0_0, .slice A0_1 l0_1.length c0_1, .slice A0_2 l0_2.length c0_2]) (t := 64) ?hr ?_; (case hd => rfl); (case hg => rfl); (case hr => first | (go_simp; done) | (go_simp; rfl)); intro gb1139 hg w12 hbox hb; have n0_ := Aside0.mk (below_step HB.out hb); have n1_ := Aside0.mk (hbox); have n2_ := Aside0.mk ((by rw [hg]; exact (below_size HB.out) : w.heap.size ≤ gb1139)); have n3_ := Aside0.mk ((by rw [hg]; exact (below_size HB.out) : w.heap.size ≤ gb1139)); clear HB; have HB := n0_; have BK1139 := n1_; have GW1139 := n2_; have GE1139 := n3_; clear n0_ n1_ n2_ n3_; clear hb hbox hg) | ((with_reducible refine gate_dst (N := 3) rfl ?_); refine box_event ?hg (N := 3) ?hd (cs := #[.string a1_0, .slice A1_1 l1_1.length c1_1, .slice A1_2 l1_2.length c1_2]) (t := 76) ?hr ?_; (case hd => rfl); (case hg => rfl); (case hr => first | (go_simp; done) | (go_simp; rfl)); intro gb1140 hg w13 hbox hb; have n0_ := Aside0.mk (blk_below (g := gb1139) (o := .cells #[.string a0_0, .slice A0_1 l0_1.length c0_1, .slice A0_2 l0_2.length c0_2] 64 (0, 0)) (by (with_reducible repeat (first | refine blk_drewN ?_ _ | refine blk_drew ?_ | refine blk_alloc ?_ _)); exact BK1139.out) hb); have n1_ := Aside0.mk (below_step HB.out hb); have n2_ := Aside0.mk (hbox); have n3_ := Aside0.mk ((by rw [hg]; exact (below_size HB.out) : w.heap.size ≤ gb1140)); have n4_ := Aside0.mk ((by rw [hg]; exact (below_size HB.out) : w.heap.size ≤ gb1140)); have n5_ := Aside0.mk ((by rw [hg]; exact Nat.ne_of_lt (blk_lt (g := gb1139) (o := .cells #[.string a0_0, .slice A0_1 l0_1.length c0_1, .slice A0_2 l0_2.length c0_2] 64 (0, 0)) (by (with_reducible repeat (first | refine blk_drewN ?_ _ | refine blk_drew ?_ | refine blk_alloc ?_ _)); exact BK1139.out)) : gb1139 ≠ gb1140)); have n6_ := Aside0.mk ((by rw [hg]; exact Nat.ne_of_gt (blk_lt (g := gb1139) (o := .cells #[.string a0_0, .slice A0_1 l0_1.length c0_1, .slice A0_2 l0_2.length c0_2] 64 (0, 0)) (by (with_reducible repeat (first | refine blk_drewN ?_ _ | refine blk_drew ?_ | refine blk_alloc ?_ _)); exact BK1139.out)) : gb1140 ≠ gb1139)); clear BK1139; clear HB; have BK1139 := n0_; have HB := n1_; have BK1140 := n2_; have GW1140 := n3_; have GE1140 := n4_; have NB1139_1140 := n5_; have NB1140_1139 := n6_; clear n0_ n1_ n2_ n3_ n4_ n5_ n6_; clear hb hbox hg; have hnb14 := NB1139_1140.out; have hnc14 := NB1140_1139.out; have hcz15_0 : w13.cell? ⟨gb1139, 0, none⟩ = some (.string a0_0) := (blk_cell BK1139.out 0).trans rfl; have hcz15_1 : w13.cell? ⟨gb1139, 1, none⟩ = some (.slice A0_1 l0_1.length c0_1) := (blk_cell BK1139.out 1).trans rfl; have hcz15_2 : w13.cell? ⟨gb1139, 2, none⟩ = some (.slice A0_2 l0_2.length c0_2) := (blk_cell BK1139.out 2).trans rfl; have hfz15_0 := blk_frozen BK1139.out 0; have hfz15_1 := blk_frozen BK1139.out 1; have hfz15_2 := blk_frozen BK1139.out 2; have hcz16_0 : w13.cell? ⟨gb1140, 0, none⟩ = some (.string a1_0) := (blk_cell BK1140.out 0).trans rfl; have hcz16_1 : w13.cell? ⟨gb1140, 1, none⟩ = some (.slice A1_1 l1_1.length c1_1) := (blk_cell BK1140.out 1).trans rfl; have hcz16_2 : w13.cell? ⟨gb1140, 2, none⟩ = some (.slice A1_2 l1_2.length c1_2) := (blk_cell BK1140.out 2).trans rfl; have hfz16_0 := blk_frozen BK1140.out 0; have hfz16_1 := blk_frozen BK1140.out 1; have hfz16_2 := blk_frozen BK1140.out 2) | (go_at_call 52; (with_reducible refine (foghornref20_Numbers.calls k _ _ l0_1 _ _ l1_1 false _ ?side1 ?side2 ?side3 ?side4 A4.out).mono ?_); (case side1 => exact (Kd.C_below HR0_1.out HB.out)); (case side2 => exact HC0_1.out); (case side3 => exact (Kd.C_below HR1_1.out HB.out)); (case side4 => exact HC1_1.out); rintro e w' ⟨rfl, ⟨nd, rfl⟩⟩))
   go_ret
   exact ⟨by rfl, by repeat (first | (with_reducible first | exact HB.out | apply below_alloc | apply pw_below_drewN | apply below_drew1 | refine below_set ?_ GE1139.out | refine below_set ?_ GE1140.out) | exact HB.out)⟩
 ·rw [if_neg c3] at H
  have c3b0 : (a0_0.toList == a1_0.toList) = false := beq_eq_false_iff_ne.mpr c3
  have c3b1 : (a0_0.toList != a1_0.toList) = true := bne_iff_ne.mpr c3
  obtain rfl := Option.some.inj H
  go_enter Try.func56, Try.ntmps56
  go_wp2_with (first | ((with_reducible refine gate_dst (N := 2) rfl ?_); refine box_event ?hg (N := 2) ?hd (cs := #[.string a0_0, .slice A0_1 l0_1.length c0_1, .slice A0_2 l0_2.length c0_2]) (t := 64) ?hr ?_; (case hd => rfl); (case hg => rfl); (case hr => first | (go_simp; done) | (go_simp; rfl)); intro gb1139 hg w17 hbox hb; have n0_ := Aside0.mk (below_step HB.out hb); have n1_ := Aside0.mk (hbox); have n2_ := Aside0.mk ((by rw [hg]; exact (below_size HB.out) : w.heap.size ≤ gb1139)); have n3_ := Aside0.mk ((by rw [hg]; exact (below_size HB.out) : w.heap.size ≤ gb1139)); clear HB; have HB := n0_; have BK1139 := n1_; have GW1139 := n2_; have GE1139 := n3_; clear n0_ n1_ n2_ n3_; clear hb hbox hg) | ((with_reducible refine gate_dst (N := 3) rfl ?_); refine box_event ?hg (N := 3) ?hd (cs := #[.string a1_0, .slice A1_1 l1_1.length c1_1, .slice A1_2 l1_2.length c1_2]) (t := 76) ?hr ?_; (case hd => rfl); (case hg => rfl); (case hr => first | (go_simp; done) | (go_simp; rfl)); intro gb1140 hg w18 hbox hb; have n0_ := Aside0.mk (blk_below (g := gb1139) (o := .cells #[.string a0_0, .slice A0_1 l0_1.length c0_1, .slice A0_2 l0_2.length c0_2] 64 (0, 0)) (by (with_reducible repeat (first | refine blk_drewN ?_ _ | refine blk_drew ?_ | refine blk_alloc ?_ _)); exact BK1139.out) hb); have n1_ := Aside0.mk (below_step HB.out hb); have n2_ := Aside0.mk (hbox); have n3_ := Aside0.mk ((by rw [hg]; exact (below_size HB.out) : w.heap.size ≤ gb1140)); have n4_ := Aside0.mk ((by rw [hg]; exact (below_size HB.out) : w.heap.size ≤ gb1140)); have n5_ := Aside0.mk ((by rw [hg]; exact Nat.ne_of_lt (blk_lt (g := gb1139) (o := .cells #[.string a0_0, .slice A0_1 l0_1.length c0_1, .slice A0_2 l0_2.length c0_2] 64 (0, 0)) (by (with_reducible repeat (first | refine blk_drewN ?_ _ | refine blk_drew ?_ | refine blk_alloc ?_ _)); exact BK1139.out)) : gb1139 ≠ gb1140)); have n6_ := Aside0.mk ((by rw [hg]; exact Nat.ne_of_gt (blk_lt (g := gb1139) (o := .cells #[.string a0_0, .slice A0_1 l0_1.length c0_1, .slice A0_2 l0_2.length c0_2] 64 (0, 0)) (by (with_reducible repeat (first | refine blk_drewN ?_ _ | refine blk_drew ?_ | refine blk_alloc ?_ _)); exact BK1139.out)) : gb1140 ≠ gb1139)); clear BK1139; clear HB; have BK1139 := n0_; have HB := n1_; have BK1140 := n2_; have GW1140 := n3_; have GE1140 := n4_; have NB1139_1140 := n5_; have NB1140_1139 := n6_; clear n0_ n1_ n2_ n3_ n4_ n5_ n6_; clear hb hbox hg; have hnb19 := NB1139_1140.out; have hnc19 := NB1140_1139.out; have hcz20_0 : w18.cell? ⟨gb1139, 0, none⟩ = some (.string a0_0) := (blk_cell BK1139.out 0).trans rfl; have hcz20_1 : w18.cell? ⟨gb1139, 1, none⟩ = some (.slice A0_1 l0_1.length c0_1) := (blk_cell BK1139.out 1).trans rfl; have hcz20_2 : w18.cell? ⟨gb1139, 2, none⟩ = some (.slice A0_2 l0_2.length c0_2) := (blk_cell BK1139.out 2).trans rfl; have hfz20_0 := blk_frozen BK1139.out 0; have hfz20_1 := blk_frozen BK1139.out 1; have hfz20_2 := blk_frozen BK1139.out 2; have hcz21_0 : w18.cell? ⟨gb1140, 0, none⟩ = some (.string a1_0) := (blk_cell BK1140.out 0).trans rfl; have hcz21_1 : w18.cell? ⟨gb1140, 1, none⟩ = some (.slice A1_1 l1_1.length c1_1) := (blk_cell BK1140.out 1).trans rfl; have hcz21_2 : w18.cell? ⟨gb1140, 2, none⟩ = some (.slice A1_2 l1_2.length c1_2) := (blk_cell BK1140.out 2).trans rfl; have hfz21_0 := blk_frozen BK1140.out 0; have hfz21_1 := blk_frozen BK1140.out 1; have hfz21_2 := blk_frozen BK1140.out 2))
  go_ret
  exact ⟨by rfl, HB.out⟩
set_option maxHeartbeats 8000000 in
set_option maxRecDepth 100000 in
theorem foghornlaw20_spoil.calls (k : Nat) (a0_0 : ByteArray) (P0_1_ : Nat → Prop) (u9000_ : Value) (l0_1 : List Int) (P0_2_ : Nat → Prop) (u9001_ : Value) (l0_2 : List Int) (w0 w : World) (hB : Below w0.heap.size w0 w) (ho0_1 : Kd.R (Kd.int .i64) 3 w w0.heap.size P0_1_ u9000_ l0_1) (hp0_1_0_2 : ∀ k_, P0_1_ k_ → ¬ P0_2_ k_) (ho0_2 : Kd.R (Kd.int .i64) 3 w w0.heap.size P0_2_ u9001_ l0_2) (hp0_2_0_1 : ∀ k_, P0_2_ k_ → ¬ P0_1_ k_) (h : foghornlaw20_spoil.f k a0_0 l0_1 l0_2 = some ()) :
  Calls Try.prog 57 #[.agg #[.string a0_0, u9000_, u9001_]] w fun e w' => e = .returned (.tuple #[]) ∧ Below w0.heap.size w0 w' ∧ Kept w w' (fun k_ => P0_1_ k_ ∨ P0_2_ k_) := by
 have hu64 := Try.underlying64
 have HO0_1 := Aside0.mk (show Kd.R (Kd.int .i64) 3 w w0.heap.size (fun k_ => ((P0_1_ k_ ∨ P0_2_ k_) ∨ w.heap.size ≤ k_) ∧ some k_ ≠ (u9001_ : Value).ownBlock) u9000_ l0_1 from Kd.R_mono ho0_1 (fun k_ hk => ⟨(.inl (.inl hk)), fun e_ => hp0_1_0_2 k_ hk (ho0_2.1 k_ e_.symm)⟩))
 have HO0_2 := Aside0.mk (show Kd.R (Kd.int .i64) 3 w w0.heap.size (fun k_ => ((P0_1_ k_ ∨ P0_2_ k_) ∨ w.heap.size ≤ k_) ∧ some k_ ≠ (u9000_ : Value).ownBlock) u9001_ l0_2 from Kd.R_mono ho0_2 (fun k_ hk => ⟨(.inl (.inr hk)), fun e_ => hp0_2_0_1 k_ hk (ho0_1.1 k_ e_.symm)⟩))
 have HK := Aside0.mk (Kept.refl w (fun k_ => P0_1_ k_ ∨ P0_2_ k_))
 have HW0 := Aside0.mk hB.size
 have HB := Aside0.mk hB
 clear hB
 have H : (foghornlaw20_spoil.l0 k 0 a0_0 l0_1 l0_2) = some () := h
 clear h
 have H' := Aside0.mk H
 clear H
 obtain ⟨Ao2, co2, eo2⟩ := Kd.R_slice HO0_1.out
 subst eo2
 obtain ⟨Ao3, co3, eo3⟩ := Kd.R_slice HO0_2.out
 subst eo3
 go_enter Try.func57, Try.ntmps57
 go_wp2_with (first | ((with_reducible refine gate_dst (N := 1) rfl ?_); refine box_event ?hg (N := 1) ?hd (cs := #[.string a0_0, .slice Ao2 l0_1.length co2, .slice Ao3 l0_2.length co3]) (t := 64) ?hr ?_; (case hd => rfl); (case hg => rfl); (case hr => first | (go_simp; done) | (go_simp; rfl)); intro gb1143 hg w4 hbox hb; have n0_ := Aside0.mk (Kd.R_below HO0_1.out hb); have n1_ := Aside0.mk (Kd.R_below HO0_2.out hb); have n2_ := Aside0.mk (Kept.below (S := (fun k_ => P0_1_ k_ ∨ P0_2_ k_)) (by repeat (first | (with_reducible first | exact HK.out | apply Kept.alloc | apply Kept.drewN | apply Kept.drew) | exact HK.out)) hb); have n3_ := Aside0.mk (below_step HB.out hb); have n4_ := Aside0.mk (hbox); have n5_ := Aside0.mk ((by rw [hg]; exact (by first | exact HK.out.1 | exact (show Kept w _ (fun k_ => P0_1_ k_ ∨ P0_2_ k_) from by repeat (first | (with_reducible first | exact HK.out | apply Kept.alloc | apply Kept.drewN | apply Kept.drew) | exact HK.out)).1) : w.heap.size ≤ gb1143)); have n6_ := Aside0.mk ((by rw [hg]; exact (below_size HB.out) : w0.heap.size ≤ gb1143)); clear HO0_1; clear HO0_2; clear HK; clear HB; have HO0_1 := n0_; have HO0_2 := n1_; have HK := n2_; have HB := n3_; have BK1143 := n4_; have GW1143 := n5_; have GE1143 := n6_; clear n0_ n1_ n2_ n3_ n4_ n5_ n6_; clear hb hbox hg))
 go_loopg [2] k (fun kq v2 w' => ∃ (x2_1 : Int) (x1144001_1 : List Int) (x1144002_1 : List Int) (u1144001 : Value) (u1144002 : Value), v2 = .int .i64 x2_1 ∧ Aside0 (foghornlaw20_spoil.l0 kq x2_1 a0_0 x1144001_1 x1144002_1 = some ()) ∧ Aside0 (kq ≤ k) ∧ Aside0 (Kd.R (Kd.int .i64) 3 w' w0.heap.size (fun k_ => ((P0_1_ k_ ∨ P0_2_ k_) ∨ w.heap.size ≤ k_) ∧ some k_ ≠ (u1144002 : Value).ownBlock) u1144001 x1144001_1) ∧ Aside0 (Kd.R (Kd.int .i64) 3 w' w0.heap.size (fun k_ => ((P0_1_ k_ ∨ P0_2_ k_) ∨ w.heap.size ≤ k_) ∧ some k_ ≠ (u1144001 : Value).ownBlock) u1144002 x1144002_1) ∧ Aside0 (w'.heap[gb1143]? = some (.cells #[.string a0_0, u1144001, u1144002] 64 (0, 0))) ∧ Aside0 (Kept w w' (fun k_ => P0_1_ k_ ∨ P0_2_ k_)) ∧ Aside0 (Below w0.heap.size w0 w'))
 case atStart => exact ⟨(0), (l0_1), (l0_2), (.slice Ao2 l0_1.length co2), (.slice Ao3 l0_2.length co3), (by rfl), H', ⟨Nat.le_refl _⟩, ⟨by (with_reducible repeat (first | apply Kd.R_alloc | apply Kd.R_drewN | apply Kd.R_drew)); exact HO0_1.out⟩, ⟨by (with_reducible repeat (first | apply Kd.R_alloc | apply Kd.R_drewN | apply Kd.R_drew)); exact HO0_2.out⟩, ⟨by (with_reducible repeat (first | refine blk_drewN ?_ _ | refine blk_drew ?_ | refine blk_alloc ?_ _)); exact BK1143.out⟩, ⟨by repeat (first | (with_reducible first | exact HK.out | apply Kept.alloc | apply Kept.drewN | apply Kept.drew | refine Kept.setCell ?_ (.inr GW1143.out) _) | exact HK.out)⟩, ⟨HB.out⟩⟩
 case round =>
  clear H'
  obtain ⟨x2_1, x1144001_1, x1144002_1, u1144001, u1144002, rfl, HA, HK1, HO_1144001, HO_1144002, BK1143, HK, HB⟩ := hrel
  cases gk with
  | zero => exact absurd HA.out (by simp [foghornlaw20_spoil.l0])
  | succ k1 =>
   have H := HA.out
   clear HA
   simp only [foghornlaw20_spoil.l0] at H
   by_cases c5 : x2_1 < (x1144001_1.length : Int)
   ·rw [if_pos c5] at H
    have c5b0 : decide (x2_1 < (x1144001_1.length : Int)) = true := decide_eq_true c5
    clear c5
    by_cases c6 : 0 ≤ x2_1
    ·rw [if_pos c6] at H
     have c6b0 : decide (0 ≤ x2_1) = true := decide_eq_true c6
     clear c6
     obtain ⟨y1144, hy1144⟩ : ∃ y_ : List Int, y_ = (x1144001_1.set (x2_1 : Int).toNat (-1)) := ⟨_, rfl⟩
     replace H : (foghornlaw20_spoil.l0 k1 (wrap64 (x2_1 + 1)) a0_0 y1144 x1144002_1) = some () := by first | (rw [hy1144]; exact H) | exact H
     have Ny1144 := Aside0.mk hy1144
     clear hy1144
     have H' := Aside0.mk H
     clear H
     have hcz8_0 : wr.cell? ⟨gb1143, 0, none⟩ = some (.string a0_0) := (blk_cell BK1143.out 0).trans rfl
     have hcz8_1 : wr.cell? ⟨gb1143, 1, none⟩ = some (u1144001) := (blk_cell BK1143.out 1).trans rfl
     have hcz8_2 : wr.cell? ⟨gb1143, 2, none⟩ = some (u1144002) := (blk_cell BK1143.out 2).trans rfl
     have hfz8_0 := blk_frozen BK1143.out 0
     have hfz8_1 := blk_frozen BK1143.out 1
     have hfz8_2 := blk_frozen BK1143.out 2
     obtain ⟨Ao9, co9, eo9⟩ := Kd.R_slice HO_1144001.out
     subst eo9
     have p7 : 0 ≤ (x2_1 : Int) := of_decide_eq_true (by assumption)
     have q7 : (x2_1 : Int) < ((x1144001_1.length : Int) : Int) := of_decide_eq_true (by assumption)
     obtain ⟨go7, co7, eo7, gb7, gl7, cl7, HG7⟩ := Kd.R_form HO_1144001.out (by omega)
     (first | cases eo7 | (injection eo7 with ea_ en_ ec_; (first | subst ea_ | (injection ea_ with ea_; subst ea_)); subst ec_; clear en_))
     have GB7 := Aside0.mk gb7
     have GG7 := Aside0.mk HG7
     clear gb7 gl7 HG7
     have HMgo7 := Aside0.mk (show ((P0_1_ go7 ∨ P0_2_ go7) ∨ w.heap.size ≤ go7) from (HO_1144001.out.1 _ rfl).1)
     obtain ⟨hx7_0, hf7_0⟩ := Kd.R_celln 0 HO_1144001.out (x2_1 : Int) p7 q7
     replace p7 := eq_true p7
     replace q7 := eq_true q7
     have HP10 := Kd.R_putg HO_1144001.out (x2_1 : Int) (-1)
     go_wp2_with (first | ((with_reducible refine gate_store (t := 3) (p := 15) rfl ?_); refine store_event (t := 3) (p := 15) (v := ?vo_w11) (w1 := (wr.setCell ⟨go7, (x2_1 : Int).toNat, none⟩ (.int .i64 (-1)))) ?hg ?ho ?hn ?hr ?_; (case ho => rfl); (case hg => rfl); (case hn => rfl); (case hr => first | (go_simp; done) | (go_simp; rfl)); intro w11 hw; have hg : wr.grownBy w11 (some go7) := (by rw [hw]; exact HP10.2); have hp_ : Kd.R (Kd.int .i64) 3 w11 w0.heap.size (fun k_ => ((P0_1_ k_ ∨ P0_2_ k_) ∨ w.heap.size ≤ k_) ∧ some k_ ≠ (u1144002 : Value).ownBlock) (.slice (some ⟨go7, 0, none⟩) x1144001_1.length co9) y1144 := (by rw [hw, Ny1144.out]; exact HP10.1); clear HP10; have n0_ := Aside0.mk (hp_); have n1_ := Aside0.mk (Kd.R_after (v := (.slice (some ⟨go7, 0, none⟩) x1144001_1.length co9)) (v1 := (.slice (some ⟨go7, 0, none⟩) x1144001_1.length co9)) (ok := (fun k_ => ((P0_1_ k_ ∨ P0_2_ k_) ∨ w.heap.size ≤ k_))) HO_1144002.out hg (.inl rfl)); have n2_ := Aside0.mk (blk_grown (g := gb1143) (o := .cells #[.string a0_0, .slice (some ⟨go7, 0, none⟩) x1144001_1.length co9, u1144002] 64 (0, 0)) (by (with_reducible repeat (first | refine blk_drewN ?_ _ | refine blk_drew ?_ | refine blk_alloc ?_ _)); exact BK1143.out) hg (Kd.R_ne HO_1144001.out BK1143.out (by decide))); have n3_ := Aside0.mk ((by rw [hw]; exact below_set HB.out GB7.out : Below w0.heap.size w0 w11)); have n4_ := Aside0.mk (Kept.of_grown (S := (fun k_ => P0_1_ k_ ∨ P0_2_ k_)) hg (by repeat (first | (with_reducible first | exact HK.out | apply Kept.alloc | apply Kept.drewN | apply Kept.drew | refine Kept.setCell ?_ (.inr GW1143.out) _) | exact HK.out)) (fun k_ e_ => (HO_1144001.out.1 k_ e_).1)); clear HO_1144001; clear HO_1144002; clear BK1143; clear HB; clear HK; have HO_1144001 := n0_; have HO_1144002 := n1_; have BK1143 := n2_; have HB := n3_; have HK := n4_; clear n0_ n1_ n2_ n3_ n4_; clear hg hw hp_))
     first | go_roundg k1 | (simp only [add_plain] at *; go_roundg k1)
     case measure => have := HK1.out; omega
     case rel => exact ⟨(wrap64 (x2_1 + 1)), (y1144), (x1144002_1), (.slice (some ⟨go7, 0, none⟩) x1144001_1.length co9), (u1144002), (by rfl), H', ⟨by have := HK1.out; omega⟩, ⟨by (with_reducible repeat (first | apply Kd.R_alloc | apply Kd.R_drewN | apply Kd.R_drew)); exact HO_1144001.out⟩, ⟨by (with_reducible repeat (first | apply Kd.R_alloc | apply Kd.R_drewN | apply Kd.R_drew)); exact HO_1144002.out⟩, ⟨by (with_reducible repeat (first | refine blk_drewN ?_ _ | refine blk_drew ?_ | refine blk_alloc ?_ _)); exact BK1143.out⟩, ⟨by repeat (first | (with_reducible first | exact HK.out | apply Kept.alloc | apply Kept.drewN | apply Kept.drew | refine Kept.setCell ?_ (.inr GW1143.out) _) | exact HK.out)⟩, ⟨HB.out⟩⟩
    ·rw [if_neg c6] at H
     exact absurd H (by simp)
   ·rw [if_neg c5] at H
    have c5b0 : decide (x2_1 < (x1144001_1.length : Int)) = false := decide_eq_false c5
    clear c5
    have H' := Aside0.mk H
    clear H
    have hcz12_0 : wr.cell? ⟨gb1143, 0, none⟩ = some (.string a0_0) := (blk_cell BK1143.out 0).trans rfl
    have hcz12_1 : wr.cell? ⟨gb1143, 1, none⟩ = some (u1144001) := (blk_cell BK1143.out 1).trans rfl
    have hcz12_2 : wr.cell? ⟨gb1143, 2, none⟩ = some (u1144002) := (blk_cell BK1143.out 2).trans rfl
    have hfz12_0 := blk_frozen BK1143.out 0
    have hfz12_1 := blk_frozen BK1143.out 1
    have hfz12_2 := blk_frozen BK1143.out 2
    obtain ⟨Ao13, co13, eo13⟩ := Kd.R_slice HO_1144001.out
    subst eo13
    go_wp2
    go_loopg [3] k1 (fun kq v3 w' => ∃ (x3_2 : Int) (x1144001_2 : List Int) (x1144002_2 : List Int) (u1144001 : Value) (u1144002 : Value), v3 = .int .i64 x3_2 ∧ Aside0 (foghornlaw20_spoil.l1 kq x3_2 a0_0 x1144001_2 x1144002_2 = some ()) ∧ Aside0 (kq ≤ k1) ∧ Aside0 (Kd.R (Kd.int .i64) 3 w' w0.heap.size (fun k_ => ((P0_1_ k_ ∨ P0_2_ k_) ∨ w.heap.size ≤ k_) ∧ some k_ ≠ (u1144002 : Value).ownBlock) u1144001 x1144001_2) ∧ Aside0 (Kd.R (Kd.int .i64) 3 w' w0.heap.size (fun k_ => ((P0_1_ k_ ∨ P0_2_ k_) ∨ w.heap.size ≤ k_) ∧ some k_ ≠ (u1144001 : Value).ownBlock) u1144002 x1144002_2) ∧ Aside0 (w'.heap[gb1143]? = some (.cells #[.string a0_0, u1144001, u1144002] 64 (0, 0))) ∧ Aside0 (Kept w w' (fun k_ => P0_1_ k_ ∨ P0_2_ k_)) ∧ Aside0 (Below w0.heap.size w0 w'))
    case atStart => exact ⟨(0), (x1144001_1), (x1144002_1), (.slice Ao13 x1144001_1.length co13), (u1144002), (by rfl), H', ⟨Nat.le_refl _⟩, ⟨by (with_reducible repeat (first | apply Kd.R_alloc | apply Kd.R_drewN | apply Kd.R_drew)); exact HO_1144001.out⟩, ⟨by (with_reducible repeat (first | apply Kd.R_alloc | apply Kd.R_drewN | apply Kd.R_drew)); exact HO_1144002.out⟩, ⟨by (with_reducible repeat (first | refine blk_drewN ?_ _ | refine blk_drew ?_ | refine blk_alloc ?_ _)); exact BK1143.out⟩, ⟨by repeat (first | (with_reducible first | exact HK.out | apply Kept.alloc | apply Kept.drewN | apply Kept.drew | refine Kept.setCell ?_ (.inr GW1143.out) _) | exact HK.out)⟩, ⟨HB.out⟩⟩
    case round =>
     clear H'
     try clear c5
     try clear c5b0
     try clear c6
     try clear c6b0
     try clear p7
     try clear q7
     try clear hcz12_0
     try clear hcz12_1
     try clear hcz12_2
     try clear hcz8_0
     try clear hcz8_1
     try clear hcz8_2
     try clear hfz12_0
     try clear hfz12_1
     try clear hfz12_2
     try clear hfz8_0
     try clear hfz8_1
     try clear hfz8_2
     try clear hx7_0
     try clear p7
     try clear q7
     obtain ⟨x3_2, x1144001_2, x1144002_2, u1144001, u1144002, rfl, HA, HK2, HO_1144001, HO_1144002, BK1143, HK, HB⟩ := hrel
     cases gk with
     | zero => exact absurd HA.out (by simp [foghornlaw20_spoil.l1])
     | succ k2 =>
      have H := HA.out
      clear HA
      simp only [foghornlaw20_spoil.l1] at H
      by_cases c14 : x3_2 < (x1144002_2.length : Int)
      ·rw [if_pos c14] at H
       have c14b0 : decide (x3_2 < (x1144002_2.length : Int)) = true := decide_eq_true c14
       clear c14
       by_cases c15 : 0 ≤ x3_2
       ·rw [if_pos c15] at H
        have c15b0 : decide (0 ≤ x3_2) = true := decide_eq_true c15
        clear c15
        obtain ⟨y1145, hy1145⟩ : ∃ y_ : List Int, y_ = (x1144002_2.set (x3_2 : Int).toNat (-2)) := ⟨_, rfl⟩
        replace H : (foghornlaw20_spoil.l1 k2 (wrap64 (x3_2 + 1)) a0_0 x1144001_2 y1145) = some () := by first | (rw [hy1145]; exact H) | exact H
        have Ny1145 := Aside0.mk hy1145
        clear hy1145
        have H' := Aside0.mk H
        clear H
        have hcz17_0 : wr.cell? ⟨gb1143, 0, none⟩ = some (.string a0_0) := (blk_cell BK1143.out 0).trans rfl
        have hcz17_1 : wr.cell? ⟨gb1143, 1, none⟩ = some (u1144001) := (blk_cell BK1143.out 1).trans rfl
        have hcz17_2 : wr.cell? ⟨gb1143, 2, none⟩ = some (u1144002) := (blk_cell BK1143.out 2).trans rfl
        have hfz17_0 := blk_frozen BK1143.out 0
        have hfz17_1 := blk_frozen BK1143.out 1
        have hfz17_2 := blk_frozen BK1143.out 2
        obtain ⟨Ao18, co18, eo18⟩ := Kd.R_slice HO_1144002.out
        subst eo18
        have p16 : 0 ≤ (x3_2 : Int) := of_decide_eq_true (by assumption)
        have q16 : (x3_2 : Int) < ((x1144002_2.length : Int) : Int) := of_decide_eq_true (by assumption)
        obtain ⟨go16, co16, eo16, gb16, gl16, cl16, HG16⟩ := Kd.R_form HO_1144002.out (by omega)
        (first | cases eo16 | (injection eo16 with ea_ en_ ec_; (first | subst ea_ | (injection ea_ with ea_; subst ea_)); subst ec_; clear en_))
        have GB16 := Aside0.mk gb16
        have GG16 := Aside0.mk HG16
        clear gb16 gl16 HG16
        have HMgo16 := Aside0.mk (show ((P0_1_ go16 ∨ P0_2_ go16) ∨ w.heap.size ≤ go16) from (HO_1144002.out.1 _ rfl).1)
        obtain ⟨hx16_0, hf16_0⟩ := Kd.R_celln 0 HO_1144002.out (x3_2 : Int) p16 q16
        replace p16 := eq_true p16
        replace q16 := eq_true q16
        have HP19 := Kd.R_putg HO_1144002.out (x3_2 : Int) (-2)
        go_wp2_with (first | ((with_reducible refine gate_store (t := 3) (p := 26) rfl ?_); refine store_event (t := 3) (p := 26) (v := ?vo_w20) (w1 := (wr.setCell ⟨go16, (x3_2 : Int).toNat, none⟩ (.int .i64 (-2)))) ?hg ?ho ?hn ?hr ?_; (case ho => rfl); (case hg => rfl); (case hn => rfl); (case hr => first | (go_simp; done) | (go_simp; rfl)); intro w20 hw; have hg : wr.grownBy w20 (some go16) := (by rw [hw]; exact HP19.2); have hp_ : Kd.R (Kd.int .i64) 3 w20 w0.heap.size (fun k_ => ((P0_1_ k_ ∨ P0_2_ k_) ∨ w.heap.size ≤ k_) ∧ some k_ ≠ (u1144001 : Value).ownBlock) (.slice (some ⟨go16, 0, none⟩) x1144002_2.length co18) y1145 := (by rw [hw, Ny1145.out]; exact HP19.1); clear HP19; have n0_ := Aside0.mk (Kd.R_after (v := (.slice (some ⟨go16, 0, none⟩) x1144002_2.length co18)) (v1 := (.slice (some ⟨go16, 0, none⟩) x1144002_2.length co18)) (ok := (fun k_ => ((P0_1_ k_ ∨ P0_2_ k_) ∨ w.heap.size ≤ k_))) HO_1144001.out hg (.inl rfl)); have n1_ := Aside0.mk (hp_); have n2_ := Aside0.mk (blk_grown (g := gb1143) (o := .cells #[.string a0_0, u1144001, .slice (some ⟨go16, 0, none⟩) x1144002_2.length co18] 64 (0, 0)) (by (with_reducible repeat (first | refine blk_drewN ?_ _ | refine blk_drew ?_ | refine blk_alloc ?_ _)); exact BK1143.out) hg (Kd.R_ne HO_1144002.out BK1143.out (by decide))); have n3_ := Aside0.mk ((by rw [hw]; exact below_set HB.out GB16.out : Below w0.heap.size w0 w20)); have n4_ := Aside0.mk (Kept.of_grown (S := (fun k_ => P0_1_ k_ ∨ P0_2_ k_)) hg (by repeat (first | (with_reducible first | exact HK.out | apply Kept.alloc | apply Kept.drewN | apply Kept.drew | refine Kept.setCell ?_ (.inr GW1143.out) _) | exact HK.out)) (fun k_ e_ => (HO_1144002.out.1 k_ e_).1)); clear HO_1144001; clear HO_1144002; clear BK1143; clear HB; clear HK; have HO_1144001 := n0_; have HO_1144002 := n1_; have BK1143 := n2_; have HB := n3_; have HK := n4_; clear n0_ n1_ n2_ n3_ n4_; clear hg hw hp_))
        first | go_roundg k2 | (simp only [add_plain] at *; go_roundg k2)
        case measure => have := HK1.out; have := HK2.out; omega
        case rel => exact ⟨(wrap64 (x3_2 + 1)), (x1144001_2), (y1145), (u1144001), (.slice (some ⟨go16, 0, none⟩) x1144002_2.length co18), (by rfl), H', ⟨by have := HK1.out; have := HK2.out; omega⟩, ⟨by (with_reducible repeat (first | apply Kd.R_alloc | apply Kd.R_drewN | apply Kd.R_drew)); exact HO_1144001.out⟩, ⟨by (with_reducible repeat (first | apply Kd.R_alloc | apply Kd.R_drewN | apply Kd.R_drew)); exact HO_1144002.out⟩, ⟨by (with_reducible repeat (first | refine blk_drewN ?_ _ | refine blk_drew ?_ | refine blk_alloc ?_ _)); exact BK1143.out⟩, ⟨by repeat (first | (with_reducible first | exact HK.out | apply Kept.alloc | apply Kept.drewN | apply Kept.drew | refine Kept.setCell ?_ (.inr GW1143.out) _) | exact HK.out)⟩, ⟨HB.out⟩⟩
       ·rw [if_neg c15] at H
        exact absurd H (by simp)
      ·rw [if_neg c14] at H
       have c14b0 : decide (x3_2 < (x1144002_2.length : Int)) = false := decide_eq_false c14
       clear c14
       have H' := Aside0.mk H
       clear H
       have hcz21_0 : wr.cell? ⟨gb1143, 0, none⟩ = some (.string a0_0) := (blk_cell BK1143.out 0).trans rfl
       have hcz21_1 : wr.cell? ⟨gb1143, 1, none⟩ = some (u1144001) := (blk_cell BK1143.out 1).trans rfl
       have hcz21_2 : wr.cell? ⟨gb1143, 2, none⟩ = some (u1144002) := (blk_cell BK1143.out 2).trans rfl
       have hfz21_0 := blk_frozen BK1143.out 0
       have hfz21_1 := blk_frozen BK1143.out 1
       have hfz21_2 := blk_frozen BK1143.out 2
       obtain ⟨Ao22, co22, eo22⟩ := Kd.R_slice HO_1144002.out
       subst eo22
       go_wp2
       go_loopg [4] k2 (fun kq v4 w' => ∃ (x4_3 : Int) (x1144001_3 : List Int) (x1144002_3 : List Int) (u1144001 : Value) (u1144002 : Value), v4 = .int .i64 x4_3 ∧ Aside0 (foghornlaw20_spoil.l2 kq x4_3 a0_0 x1144001_3 x1144002_3 = some ()) ∧ Aside0 (kq ≤ k2) ∧ Aside0 (Kd.R (Kd.int .i64) 3 w' w0.heap.size (fun k_ => ((P0_1_ k_ ∨ P0_2_ k_) ∨ w.heap.size ≤ k_) ∧ some k_ ≠ (u1144002 : Value).ownBlock) u1144001 x1144001_3) ∧ Aside0 (Kd.R (Kd.int .i64) 3 w' w0.heap.size (fun k_ => ((P0_1_ k_ ∨ P0_2_ k_) ∨ w.heap.size ≤ k_) ∧ some k_ ≠ (u1144001 : Value).ownBlock) u1144002 x1144002_3) ∧ Aside0 (w'.heap[gb1143]? = some (.cells #[.string a0_0, u1144001, u1144002] 64 (0, 0))) ∧ Aside0 (Kept w w' (fun k_ => P0_1_ k_ ∨ P0_2_ k_)) ∧ Aside0 (Below w0.heap.size w0 w'))
       case atStart => exact ⟨(0), (x1144001_2), (x1144002_2), (u1144001), (.slice Ao22 x1144002_2.length co22), (by rfl), H', ⟨Nat.le_refl _⟩, ⟨by (with_reducible repeat (first | apply Kd.R_alloc | apply Kd.R_drewN | apply Kd.R_drew)); exact HO_1144001.out⟩, ⟨by (with_reducible repeat (first | apply Kd.R_alloc | apply Kd.R_drewN | apply Kd.R_drew)); exact HO_1144002.out⟩, ⟨by (with_reducible repeat (first | refine blk_drewN ?_ _ | refine blk_drew ?_ | refine blk_alloc ?_ _)); exact BK1143.out⟩, ⟨by repeat (first | (with_reducible first | exact HK.out | apply Kept.alloc | apply Kept.drewN | apply Kept.drew | refine Kept.setCell ?_ (.inr GW1143.out) _) | exact HK.out)⟩, ⟨HB.out⟩⟩
       case round =>
        clear H'
        try clear c5
        try clear c5b0
        try clear c6
        try clear c6b0
        try clear p7
        try clear q7
        try clear c14
        try clear c14b0
        try clear c15
        try clear c15b0
        try clear p16
        try clear q16
        try clear hcz12_0
        try clear hcz12_1
        try clear hcz12_2
        try clear hcz17_0
        try clear hcz17_1
        try clear hcz17_2
        try clear hcz21_0
        try clear hcz21_1
        try clear hcz21_2
        try clear hcz8_0
        try clear hcz8_1
        try clear hcz8_2
        try clear hfz12_0
        try clear hfz12_1
        try clear hfz12_2
        try clear hfz17_0
        try clear hfz17_1
        try clear hfz17_2
        try clear hfz21_0
        try clear hfz21_1
        try clear hfz21_2
        try clear hfz8_0
        try clear hfz8_1
        try clear hfz8_2
        try clear hx16_0
        try clear hx7_0
        try clear p16
        try clear p7
        try clear q16
        try clear q7
        obtain ⟨x4_3, x1144001_3, x1144002_3, u1144001, u1144002, rfl, HA, HK3, HO_1144001, HO_1144002, BK1143, HK, HB⟩ := hrel
        cases gk with
        | zero => exact absurd HA.out (by simp [foghornlaw20_spoil.l2])
        | succ k3 =>
         have H := HA.out
         clear HA
         simp only [foghornlaw20_spoil.l2] at H
         by_cases c23 : x4_3 < 20
         ·rw [if_pos c23] at H
          have c23b0 : decide (x4_3 < 20) = true := decide_eq_true c23
          clear c23
          by_cases c24 : x1144001_3.length < 17592186044416
          ·rw [if_pos c24] at H
           have LMc24 := Aside0.mk c24
           clear c24
           obtain ⟨y1146, hy1146⟩ : ∃ y_ : List Int, y_ = (x1144001_3 ++ [(-3)]) := ⟨_, rfl⟩
           replace H : (if x1144002_3.length < 17592186044416 then (foghornlaw20_spoil.l2 k3 (wrap64 (x4_3 + 1)) a0_0 y1146 (x1144002_3 ++ [(-4)])) else (none)) = some () := by first | (rw [hy1146]; exact H) | exact H
           have Ny1146 := Aside0.mk hy1146
           clear hy1146
           by_cases c25 : x1144002_3.length < 17592186044416
           ·rw [if_pos c25] at H
            have LMc25 := Aside0.mk c25
            clear c25
            obtain ⟨y1149, hy1149⟩ : ∃ y_ : List Int, y_ = (x1144002_3 ++ [(-4)]) := ⟨_, rfl⟩
            replace H : (foghornlaw20_spoil.l2 k3 (wrap64 (x4_3 + 1)) a0_0 y1146 y1149) = some () := by first | (rw [hy1149]; exact H) | exact H
            have Ny1149 := Aside0.mk hy1149
            clear hy1149
            have H' := Aside0.mk H
            clear H
            have hcz26_0 : wr.cell? ⟨gb1143, 0, none⟩ = some (.string a0_0) := (blk_cell BK1143.out 0).trans rfl
            have hcz26_1 : wr.cell? ⟨gb1143, 1, none⟩ = some (u1144001) := (blk_cell BK1143.out 1).trans rfl
            have hcz26_2 : wr.cell? ⟨gb1143, 2, none⟩ = some (u1144002) := (blk_cell BK1143.out 2).trans rfl
            have hfz26_0 := blk_frozen BK1143.out 0
            have hfz26_1 := blk_frozen BK1143.out 1
            have hfz26_2 := blk_frozen BK1143.out 2
            go_wp2_with (first | ((with_reducible refine gate_builtin (b := .append) (xs := #[.tmp 32, .tmp 33]) rfl ?_); at_builtin; refine Kd.R_append (Kd.int .i64) (w0 := w0) w0.heap.size rfl (.tmp 32) (.tmp 33) 60 3 (.int .i64 0) 8 rfl Try.underlying60 info3 rfl (by decide) (by omega) u1144001 x1144001_3 (-3) [.int .i64 (-3)] (fun k_ => ((P0_1_ k_ ∨ P0_2_ k_) ∨ w.heap.size ≤ k_) ∧ some k_ ≠ (u1144002 : Value).ownBlock) (fun _ => False) rfl rfl ?aP (fun _ hk => hk.elim) ?aF ?aO ?aB ?aS ?aL ?_; (case aP => exact rfl); (case aB => exact HB.out); (case aF => exact (fun k_ hk => ⟨(.inr (Nat.le_trans (by first | exact HK.out.1 | exact (show Kept w _ (fun k_ => P0_1_ k_ ∨ P0_2_ k_) from by repeat (first | (with_reducible first | exact HK.out | apply Kept.alloc | apply Kept.drewN | apply Kept.drew | refine Kept.setCell ?_ (.inr GW1143.out) _) | exact HK.out)).1) hk)), Kd.fresh' (Kd.R_lt HO_1144002.out) k_ hk⟩)); (case aO => exact HO_1144001.out); (case aS => exact (below_size HB.out)); (case aL => have := LMc24.out; omega); intro v1147 w27 ho hb hg hat; rw [← Ny1146.out] at ho; have n0_ := Aside0.mk (Kd.R_after (ok := (fun k_ => ((P0_1_ k_ ∨ P0_2_ k_) ∨ w.heap.size ≤ k_))) HO_1144002.out hg hat); have n1_ := Aside0.mk (blk_grown (g := gb1143) (o := .cells #[.string a0_0, u1144001, u1144002] 64 (0, 0)) (by (with_reducible repeat (first | refine blk_drewN ?_ _ | refine blk_drew ?_ | refine blk_alloc ?_ _)); exact BK1143.out) hg (Kd.R_ne HO_1144001.out BK1143.out (by decide))); have n2_ := Aside0.mk (hb); have n3_ := Aside0.mk (Kept.of_grown (S := (fun k_ => P0_1_ k_ ∨ P0_2_ k_)) hg (by repeat (first | (with_reducible first | exact HK.out | apply Kept.alloc | apply Kept.drewN | apply Kept.drew | refine Kept.setCell ?_ (.inr GW1143.out) _) | exact HK.out)) (fun k_ e_ => (HO_1144001.out.1 k_ e_).1)); have n4_ := Aside0.mk (ho); clear HO_1144002; clear BK1143; clear HB; clear HK; clear HO_1144001; have HO_1144002 := n0_; have BK1143 := n1_; have HB := n2_; have HK := n3_; have HO1148 := n4_; clear n0_ n1_ n2_ n3_ n4_; clear ho hb hg hat; obtain ⟨Ao28, co28, eo28⟩ := Kd.R_slice HO1148.out; subst eo28; have hcz29_0 : w27.cell? ⟨gb1143, 0, none⟩ = some (.string a0_0) := (blk_cell BK1143.out 0).trans rfl; have hcz29_1 : w27.cell? ⟨gb1143, 1, none⟩ = some (u1144001) := (blk_cell BK1143.out 1).trans rfl; have hcz29_2 : w27.cell? ⟨gb1143, 2, none⟩ = some (u1144002) := (blk_cell BK1143.out 2).trans rfl; have hfz29_0 := blk_frozen BK1143.out 0; have hfz29_1 := blk_frozen BK1143.out 1; have hfz29_2 := blk_frozen BK1143.out 2) | ((with_reducible refine gate_builtin (b := .append) (xs := #[.tmp 37, .tmp 38]) rfl ?_); at_builtin; refine Kd.R_append (Kd.int .i64) (w0 := w0) w0.heap.size rfl (.tmp 37) (.tmp 38) 60 3 (.int .i64 0) 8 rfl Try.underlying60 info3 rfl (by decide) (by omega) u1144002 x1144002_3 (-4) [.int .i64 (-4)] (fun k_ => ((P0_1_ k_ ∨ P0_2_ k_) ∨ w.heap.size ≤ k_) ∧ some k_ ≠ (.slice Ao28 y1146.length co28 : Value).ownBlock) (fun _ => False) rfl (by first | (go_simp; done) | (go_simp; rfl)) ?aP (fun _ hk => hk.elim) ?aF ?aO ?aB ?aS ?aL ?_; (case aP => exact rfl); (case aB => exact (by repeat (first | (with_reducible first | exact HB.out | apply below_alloc | apply pw_below_drewN | apply below_drew1 | refine below_set ?_ GE1143.out) | exact HB.out))); (case aF => exact (fun k_ hk => ⟨(.inr (Nat.le_trans (show Kept w _ (fun k_ => P0_1_ k_ ∨ P0_2_ k_) from by repeat (first | (with_reducible first | exact HK.out | apply Kept.alloc | apply Kept.drewN | apply Kept.drew | refine Kept.setCell ?_ (.inr GW1143.out) _) | exact HK.out)).1 hk)), Kd.fresh' (Kd.R_lt (by (with_reducible repeat (first | apply Kd.R_alloc | apply Kd.R_drewN | apply Kd.R_drew)); exact (Kd.R_mono (Kd.R_far (p := ⟨gb1143, 1, none⟩) (Kd.R_types HO1148.out BK1143.out (by decide)) (fun _ hk => hk.2) (.slice Ao28 y1146.length co28)) (fun _ h_ => h_.1)))) k_ hk⟩)); (case aO => exact (by (with_reducible repeat (first | apply Kd.R_alloc | apply Kd.R_drewN | apply Kd.R_drew)); exact Kd.R_mono (Kd.R_far (p := ⟨gb1143, 1, none⟩) (Kd.R_types HO_1144002.out BK1143.out (by decide)) (fun _ hk => hk.2) (.slice Ao28 y1146.length co28)) (fun _ hk => ⟨hk.1.1, hk.1.2⟩))); (case aS => exact (below_size (by repeat (first | (with_reducible first | exact HB.out | apply below_alloc | apply pw_below_drewN | apply below_drew1 | refine below_set ?_ GE1143.out) | exact HB.out)))); (case aL => have := LMc25.out; omega); intro v1150 w30 ho hb hg hat; rw [← Ny1149.out] at ho; have n0_ := Aside0.mk (blk_grown (g := gb1143) (o := .cells #[.string a0_0, .slice Ao28 y1146.length co28, u1144002] 64 (0, 0)) (by (with_reducible repeat (first | refine blk_drewN ?_ _ | refine blk_drew ?_ | refine blk_alloc ?_ _)); refine blk_put (cs := #[.string a0_0, u1144001, u1144002]) ?_ 1 _ rfl; (with_reducible repeat (first | refine blk_drewN ?_ _ | refine blk_drew ?_ | refine blk_alloc ?_ _)); exact BK1143.out) hg (Kd.R_ne HO_1144002.out BK1143.out (by decide))); have n1_ := Aside0.mk (Kd.R_after (ok := (fun k_ => ((P0_1_ k_ ∨ P0_2_ k_) ∨ w.heap.size ≤ k_))) (by (with_reducible repeat (first | apply Kd.R_alloc | apply Kd.R_drewN | apply Kd.R_drew)); exact Kd.R_mono (Kd.R_far (p := ⟨gb1143, 1, none⟩) (Kd.R_types HO1148.out BK1143.out (by decide)) (fun _ hk => hk.2) (.slice Ao28 y1146.length co28)) (fun _ hk => ⟨hk.1.1, hk.1.2⟩)) hg hat); have n2_ := Aside0.mk (hb); have n3_ := Aside0.mk (Kept.of_grown (S := (fun k_ => P0_1_ k_ ∨ P0_2_ k_)) hg (by repeat (first | (with_reducible first | exact HK.out | apply Kept.alloc | apply Kept.drewN | apply Kept.drew | refine Kept.setCell ?_ (.inr GW1143.out) _) | exact HK.out)) (fun k_ e_ => (HO_1144002.out.1 k_ e_).1)); have n4_ := Aside0.mk (ho); clear BK1143; clear HO1148; clear HB; clear HK; clear HO_1144002; have BK1143 := n0_; have HO1148 := n1_; have HB := n2_; have HK := n3_; have HO1151 := n4_; clear n0_ n1_ n2_ n3_ n4_; clear ho hb hg hat; obtain ⟨Ao31, co31, eo31⟩ := Kd.R_slice HO1151.out; subst eo31; have hcz32_0 : w30.cell? ⟨gb1143, 0, none⟩ = some (.string a0_0) := (blk_cell BK1143.out 0).trans rfl; have hcz32_1 : w30.cell? ⟨gb1143, 1, none⟩ = some (.slice Ao28 y1146.length co28) := (blk_cell BK1143.out 1).trans rfl; have hcz32_2 : w30.cell? ⟨gb1143, 2, none⟩ = some (u1144002) := (blk_cell BK1143.out 2).trans rfl; have hfz32_0 := blk_frozen BK1143.out 0; have hfz32_1 := blk_frozen BK1143.out 1; have hfz32_2 := blk_frozen BK1143.out 2))
            first | go_roundg k3 | (simp only [add_plain] at *; go_roundg k3)
            case measure => have := HK1.out; have := HK2.out; have := HK3.out; omega
            case rel => exact ⟨(wrap64 (x4_3 + 1)), (y1146), (y1149), (.slice Ao28 y1146.length co28), (.slice Ao31 y1149.length co31), (by rfl), H', ⟨by have := HK1.out; have := HK2.out; have := HK3.out; omega⟩, ⟨by (with_reducible repeat (first | apply Kd.R_alloc | apply Kd.R_drewN | apply Kd.R_drew)); exact Kd.R_mono (Kd.R_far (p := ⟨gb1143, 2, none⟩) (Kd.R_types HO1148.out BK1143.out (by decide)) (fun _ hk => hk.2) (.slice Ao31 y1149.length co31)) (fun _ hk => ⟨hk.1.1, hk.1.2⟩)⟩, ⟨by (with_reducible repeat (first | apply Kd.R_alloc | apply Kd.R_drewN | apply Kd.R_drew)); exact Kd.R_mono (Kd.R_far (p := ⟨gb1143, 2, none⟩) (Kd.R_types HO1151.out BK1143.out (by decide)) (fun _ hk => hk.2) (.slice Ao31 y1149.length co31)) (fun _ hk => ⟨hk.1.1, hk.1.2⟩)⟩, ⟨by (with_reducible repeat (first | refine blk_drewN ?_ _ | refine blk_drew ?_ | refine blk_alloc ?_ _)); refine blk_put (cs := #[.string a0_0, .slice Ao28 y1146.length co28, u1144002]) ?_ 2 _ rfl; (with_reducible repeat (first | refine blk_drewN ?_ _ | refine blk_drew ?_ | refine blk_alloc ?_ _)); exact BK1143.out⟩, ⟨by repeat (first | (with_reducible first | exact HK.out | apply Kept.alloc | apply Kept.drewN | apply Kept.drew | refine Kept.setCell ?_ (.inr GW1143.out) _) | exact HK.out)⟩, ⟨by repeat (first | (with_reducible first | exact HB.out | apply below_alloc | apply pw_below_drewN | apply below_drew1 | refine below_set ?_ GE1143.out) | exact HB.out)⟩⟩
           ·rw [if_neg c25] at H
            exact absurd H (by simp)
          ·rw [if_neg c24] at H
           exact absurd H (by simp)
         ·rw [if_neg c23] at H
          have c23b0 : decide (x4_3 < 20) = false := decide_eq_false c23
          clear c23
          go_wp2
          first | go_end0 | ((try simp only [Exit.inBlock, Exit.then]); refine bodyPost_ret (results_none rfl _ _ _) rfl ?_)
          exact ⟨by rfl, HB.out, by repeat (first | (with_reducible first | exact HK.out | apply Kept.alloc | apply Kept.drewN | apply Kept.drew | refine Kept.setCell ?_ (.inr GW1143.out) _) | exact HK.out)⟩
end Go.Proofs.Ytncoakokdajibaa.Q
