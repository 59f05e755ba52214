import Derived.Test.YthfcafllcgjepaaFeedbackReachK0
import Derived.Test.YthfcafllcgjepaaFeedbackReachF1
import Derived.Test.YthfcafllcgjepaaFeedbackReachQ1
import Derived.Test.YthfcafllcgjepaaFeedbackReachQ2
-- Printed by myprint.py (ours) over the kit's printer, out of the translation.
namespace Go.Proofs.Ythfcafllcgjepaa.Q
open Go.RowKit Go.Proofs.YthfcafllcgjepaaW.PrintWords Go.Proofs.YthfcafllcgjepaaW.PrintLast Go.Proofs.YthfcafllcgjepaaW.PrintMore
attribute [local go_sem] ArrW.ptrOf_slice unary_neg_float unary_neg_complex run_store_float run_store_complex max2_int min2_int max_two min_two max_three min_three max_four min_four   -- for this text's walks alone
set_option linter.unusedVariables false
set_option linter.unusedSimpArgs false
set_option maxHeartbeats 8000000 in
set_option maxRecDepth 100000 in
theorem foghornref04_Points.calls (k : Nat) (a0 : Int) (r1 : List (S220)) (r2 : Int) (w : World) (h : foghornref04_Points.f k a0 = some (r1, r2)) :
  Calls Try.prog 140 #[.int .i64 a0] w fun e w' => ∃ v0_ : Value, e = .returned (.tuple #[v0_, .int .i64 r2]) ∧ Kd.R k220 220 w' w.heap.size (fun _ => True) v0_ r1 ∧ Below w.heap.size w w' := by
 have hu220 := Try.underlying220
 have HB := Aside0.mk (Below.refl w.heap.size w)
 have H : ((foghornref04_Edge.f a0).bind fun bt530 => (if bt530.2 = 0 then (if 0 ≤ a0 then (if (a0 : Int).toNat ≤ 17592186044416 then (foghornref04_Points.l0 k a0 bt530.1 (List.replicate (a0 : Int).toNat z220) (wrap64 (-bt530.1))) else (none)) else (none)) else (some (([] : List (S220)), bt530.2)))) = some (r1, r2) := h
 clear h
 replace H := Option.bind_eq_some_iff.mp H
 obtain ⟨⟨t530, t531⟩, A20, H⟩ := H
 replace H : (if t531 = 0 then (if 0 ≤ a0 then (if (a0 : Int).toNat ≤ 17592186044416 then (foghornref04_Points.l0 k a0 t530 (List.replicate (a0 : Int).toNat z220) (wrap64 (-t530))) else (none)) else (none)) else (some (([] : List (S220)), t531))) = some (r1, r2) := H
 have A2 := Aside0.mk A20
 clear A20
 by_cases c3 : t531 = 0
 ·rw [if_pos c3] at H
  have c3b0 : (t531 == 0) = true := beq_iff_eq.mpr c3
  have c3b1 : (t531 != 0) = false := bne_eq_false_iff_eq.mpr c3
  clear c3
  by_cases c4 : 0 ≤ a0
  ·rw [if_pos c4] at H
   have c4b0 := eq_true c4
   have c4b1 : decide (0 ≤ a0) = true := decide_eq_true c4
   clear c4
   by_cases c5 : (a0 : Int).toNat ≤ 17592186044416
   ·rw [if_pos c5] at H
    have c5b0 := eq_true c5
    have c5b1 : decide ((a0 : Int).toNat ≤ 17592186044416) = true := decide_eq_true c5
    clear c5
    obtain ⟨y532, hy532⟩ : ∃ y_ : List (S220), y_ = (List.replicate (a0 : Int).toNat z220) := ⟨_, rfl⟩
    replace H : (foghornref04_Points.l0 k a0 t530 y532 (wrap64 (-t530))) = some (r1, r2) := by first | (rw [hy532]; with_reducible exact H) | (have H2_ := (Option.bind_some _ _).symm.trans H; rw [hy532]; with_reducible exact H2_) | (have H2_ := (Option.bind_some _ _).symm.trans H; with_reducible exact H2_) | with_reducible exact H | (rw [hy532]; exact H) | exact H
    have Ny532 := Aside0.mk hy532
    clear hy532
    have H' := Aside0.mk H
    clear H
    go_enter Try.func140, Try.ntmps140
    go_wp2_with (first | ((with_reducible refine gate_callee (f := 65) rfl ?_); refine goesL_ (some 11) rfl rfl Try.func65 (by kernel_rfl) rfl #[.int .i64 a0] rfl (by (try simp only [List.map_toArray, List.map_cons, List.map_nil]); first | done | rfl | (simp only [List.length_drop, List.length_take]; rfl)) ?_; (with_reducible refine (foghornref04_Edge.calls a0 t530 t531 _ A2.out).mono ?_); rintro e w' ⟨rfl, ⟨nd, rfl⟩⟩; refine ⟨_, rfl, ?_⟩) | ((with_reducible refine gate_dst (N := 18) rfl ?_); refine Kd.R_make k220 _ 220 rfl (N := 18) rfl 215 _ _ rfl a0 rfl rfl Try.underlying215 (.agg #[(.int .i64 0), (.int .i64 0)]) 16 info220 rfl (by decide) (by omega) z220 (ok := fun _ => True) (okp := fun _ => True) (k220_mkM _ _ _ z220 ) (fun _ hk => hk) trivial (of_decide_eq_true (by first | (with_reducible assumption) | assumption)) (Nat.le_trans (Nat.mul_le_mul_right _ (of_decide_eq_true (by first | (with_reducible assumption) | assumption) : a0.toNat ≤ 17592186044416)) (by omega)) (Below.refl _ _) (Nat.le_refl _) ?_; intro v533 w6 ho7 hb hg_ hnew_; clear hg_ hnew_; (first | rw [← Ny532.out] at ho7 | (simp only [Int.reduceToNat] at ho7; rw [← Ny532.out] at ho7)); have n0_ := Aside0.mk (Kd.R_lower ho7 (below_size (by repeat (first | (with_reducible first | exact HB.out | apply below_alloc | apply pw_below_drewN | apply below_drew1) | exact HB.out)))); have n1_ := Aside0.mk (below_step (by repeat (first | (with_reducible first | exact HB.out | apply below_alloc | apply pw_below_drewN | apply below_drew1) | exact HB.out)) hb); clear HB; have HO534 := n0_; have HB := n1_; clear n0_ n1_; clear hb ho7))
    go_loopg [7] k (fun kq v7 w' => ∃ (x6_1 : List (S220)) (x7_1 : Int), v7 = .int .i64 x7_1 ∧ Aside0 (foghornref04_Points.l0 kq a0 t530 x6_1 x7_1 = some (r1, r2)) ∧ Aside0 (kq ≤ k) ∧ Aside0 (Kd.R k220 220 w' w.heap.size (fun _ => True) v533 x6_1) ∧ Aside0 (Below w.heap.size w w'))
    case atStart => exact ⟨(y532), (wrap64 (-t530)), (by first | rfl | (simp; done) | (simp [*]; done)), H', ⟨Nat.le_refl _⟩, ⟨by (with_reducible repeat (first | apply Kd.R_alloc | apply Kd.R_drewN | apply Kd.R_drew)); exact HO534.out⟩, ⟨by repeat (first | (with_reducible first | exact HB.out | apply below_alloc | apply pw_below_drewN | apply below_drew1) | exact HB.out)⟩⟩
    case round =>
     clear H'
     try clear c1
     try clear p2
     try clear c3
     try clear c3b0
     try clear c3b1
     try clear c4
     try clear c4b0
     try clear c4b1
     try clear c5
     try clear c5b0
     try clear c5b1
     try clear c6
     try clear p6
     obtain ⟨x6_1, x7_1, rfl, HA, HK1, HO_6, HB⟩ := hrel
     cases gk with
     | zero => exact absurd HA.out (by simp [foghornref04_Points.l0])
     | succ k1 =>
      have H := HA.out
      clear HA
      simp only [foghornref04_Points.l0] at H
      by_cases c8 : x7_1 ≤ t530
      ·rw [if_pos c8] at H
       have c8b0 : decide (x7_1 ≤ t530) = true := decide_eq_true c8
       clear c8
       have H' := Aside0.mk H
       clear H
       go_wp2
       go_loopg [8] k1 (fun kq v8 w' => ∃ (x6_2 : List (S220)) (x8_2 : Int), v8 = .int .i64 x8_2 ∧ Aside0 (foghornref04_Points.l1 kq a0 t530 x6_2 x7_1 x8_2 = some (r1, r2)) ∧ Aside0 (kq ≤ k1) ∧ Aside0 (Kd.R k220 220 w' w.heap.size (fun _ => True) v533 x6_2) ∧ Aside0 (Below w.heap.size w w'))
       case atStart => exact ⟨(x6_1), (wrap64 (-t530)), (by first | rfl | (simp; done) | (simp [*]; done)), H', ⟨Nat.le_refl _⟩, ⟨by (with_reducible repeat (first | apply Kd.R_alloc | apply Kd.R_drewN | apply Kd.R_drew)); exact HO_6.out⟩, ⟨by repeat (first | (with_reducible first | exact HB.out | apply below_alloc | apply pw_below_drewN | apply below_drew1) | exact HB.out)⟩⟩
       case round =>
        clear H'
        try clear c1
        try clear p2
        try clear c3
        try clear c3b0
        try clear c3b1
        try clear c4
        try clear c4b0
        try clear c4b1
        try clear c5
        try clear c5b0
        try clear c5b1
        try clear c6
        try clear p6
        try clear c8
        try clear c8b0
        try clear p2
        try clear p6
        obtain ⟨x6_2, x8_2, rfl, HA, HK2, HO_6, HB⟩ := hrel
        cases gk with
        | zero => exact absurd HA.out (by simp [foghornref04_Points.l1])
        | succ k2 =>
         have H := HA.out
         clear HA
         simp only [foghornref04_Points.l1] at H
         by_cases c9 : x8_2 ≤ t530
         ·rw [if_pos c9] at H
          have c9b0 : decide (x8_2 ≤ t530) = true := decide_eq_true c9
          clear c9
          replace H := Option.bind_eq_some_iff.mp H
          obtain ⟨t535, A100, H⟩ := H
          replace H : (if t535 = true then ((foghornref04_label.f k2 a0 x7_1 x8_2).bind fun t536 => (if 0 ≤ t536 then (if t536 < (x6_2.length : Int) then (foghornref04_Points.l1 k2 a0 t530 (x6_2.set (t536 : Int).toNat (⟨x7_1, x8_2⟩ : S220)) x7_1 (wrap64 (x8_2 + 1))) else (none)) else (none))) else (foghornref04_Points.l1 k2 a0 t530 x6_2 x7_1 (wrap64 (x8_2 + 1)))) = some (r1, r2) := H
          have A10 := Aside0.mk A100
          clear A100
          by_cases c11 : t535 = true
          ·subst c11
           have H1 : ((foghornref04_label.f k2 a0 x7_1 x8_2).bind fun t536 => (if 0 ≤ t536 then (if t536 < (x6_2.length : Int) then (foghornref04_Points.l1 k2 a0 t530 (x6_2.set (t536 : Int).toNat (⟨x7_1, x8_2⟩ : S220)) x7_1 (wrap64 (x8_2 + 1))) else (none)) else (none))) = some (r1, r2) := by rw [if_pos rfl] at H; exact H
           clear H
           have H := H1
           clear H1
           replace H := Option.bind_eq_some_iff.mp H
           obtain ⟨t536, A120, H⟩ := H
           replace H : (if 0 ≤ t536 then (if t536 < (x6_2.length : Int) then (foghornref04_Points.l1 k2 a0 t530 (x6_2.set (t536 : Int).toNat (⟨x7_1, x8_2⟩ : S220)) x7_1 (wrap64 (x8_2 + 1))) else (none)) else (none)) = some (r1, r2) := H
           have A12 := Aside0.mk A120
           clear A120
           by_cases c13 : 0 ≤ t536
           ·rw [if_pos c13] at H
            have c13b0 : decide (0 ≤ t536) = true := decide_eq_true c13
            clear c13
            by_cases c14 : t536 < (x6_2.length : Int)
            ·rw [if_pos c14] at H
             have c14b0 : decide (t536 < (x6_2.length : Int)) = true := decide_eq_true c14
             clear c14
             obtain ⟨y537, hy537⟩ : ∃ y_ : List (S220), y_ = (x6_2.set (t536 : Int).toNat (⟨x7_1, x8_2⟩ : S220)) := ⟨_, rfl⟩
             replace H : (foghornref04_Points.l1 k2 a0 t530 y537 x7_1 (wrap64 (x8_2 + 1))) = some (r1, r2) := by first | (rw [hy537]; with_reducible exact H) | (have H2_ := (Option.bind_some _ _).symm.trans H; rw [hy537]; with_reducible exact H2_) | (have H2_ := (Option.bind_some _ _).symm.trans H; with_reducible exact H2_) | with_reducible exact H | (rw [hy537]; exact H) | exact H
             have Ny537 := Aside0.mk hy537
             clear hy537
             have H' := Aside0.mk H
             clear H
             go_wp2_with (first | ((with_reducible refine gate_callee (f := 161) rfl ?_); refine goesL_ (some 37) rfl rfl Try.func161 (by kernel_rfl) rfl #[.int .i64 a0, .agg #[.int .i64 x7_1, .int .i64 x8_2]] rfl (by (try simp only [List.map_toArray, List.map_cons, List.map_nil]); first | done | rfl | (simp only [List.length_drop, List.length_take]; rfl)) ?_; (with_reducible refine (foghornref04_in.calls k2 a0 x7_1 x8_2 true _ A10.out).mono ?_); rintro e w16 ⟨rfl, hb⟩; refine ⟨_, rfl, ?_⟩; have n0_ := Aside0.mk (Kd.R_below (by (with_reducible repeat (first | apply Kd.R_alloc | apply Kd.R_drewN | apply Kd.R_drew)); exact HO_6.out) hb); have n1_ := Aside0.mk (below_step (by repeat (first | (with_reducible first | exact HB.out | apply below_alloc | apply pw_below_drewN | apply below_drew1) | exact HB.out)) hb); clear HO_6; clear HB; have HO_6 := n0_; have HB := n1_; clear n0_ n1_; (try clear hb); (try clear hb2); (try clear hk); (try clear hi)) | ((with_reducible refine gate_callee (f := 162) rfl ?_); refine goesL_ (some 43) rfl rfl Try.func162 (by kernel_rfl) rfl #[.int .i64 a0, .agg #[.int .i64 x7_1, .int .i64 x8_2]] rfl (by (try simp only [List.map_toArray, List.map_cons, List.map_nil]); first | done | rfl | (simp only [List.length_drop, List.length_take]; rfl)) ?_; (with_reducible refine (foghornref04_label.calls k2 a0 x7_1 x8_2 t536 _ A12.out).mono ?_); rintro e w17 ⟨rfl, hb⟩; refine ⟨_, rfl, ?_⟩; have n0_ := Aside0.mk (Kd.R_below (by (with_reducible repeat (first | apply Kd.R_alloc | apply Kd.R_drewN | apply Kd.R_drew)); exact HO_6.out) hb); have n1_ := Aside0.mk (below_step (by repeat (first | (with_reducible first | exact HB.out | apply below_alloc | apply pw_below_drewN | apply below_drew1) | exact HB.out)) hb); clear HO_6; clear HB; have HO_6 := n0_; have HB := n1_; clear n0_ n1_; (try clear hb); (try clear hb2); (try clear hk); (try clear hi); have p15 : 0 ≤ (t536 : Int) := of_decide_eq_true (by first | (with_reducible assumption) | assumption); have q15 : (t536 : Int) < ((x6_2.length : Int) : Int) := of_decide_eq_true (by first | (with_reducible assumption) | assumption); obtain ⟨go15, co15, eo15, gb15, gl15, cl15, HG15⟩ := Kd.R_form HO_6.out (by omega); (first | cases eo15 | (injection eo15 with ea_ en_ ec_; (first | subst ea_ | (injection ea_ with ea_; subst ea_)); subst ec_; clear en_)); have GB15 := Aside0.mk gb15; have GG15 := Aside0.mk HG15; clear gb15 gl15 HG15; obtain ⟨ce15, hcl15, hM15, hcc15, hfr15⟩ := Kd.R_elem HO_6.out z220 (t536 : Int) p15 q15; obtain rfl := k220_openM hM15; have hx15_0 : w17.cell? ⟨go15, (t536 : Int).toNat * 2, none⟩ = some (.int .i64 ((rd_T220 x6_2 t536).f0)) := hcc15 0 _ rfl; have hx15_1 : w17.cell? ⟨go15, (t536 : Int).toNat * 2 + 1, none⟩ = some (.int .i64 ((rd_T220 x6_2 t536).f1)) := hcc15 1 _ rfl; have hf15_0 : w17.frozen? ⟨go15, (t536 : Int).toNat * 2, none⟩ = false := hfr15 0; have hf15_1 : w17.frozen? ⟨go15, (t536 : Int).toNat * 2 + 1, none⟩ = false := hfr15 1; clear hcl15 hcc15 hfr15 hM15; replace p15 := eq_true p15; replace q15 := eq_true q15; have HX18 := Aside0.mk (show Kd.R k220 220 w17 w.heap.size (fun _ => True) (.slice (some ⟨go15, 0, none⟩) x6_2.length co15) x6_2 from (by (with_reducible repeat (first | apply Kd.R_alloc | apply Kd.R_drewN | apply Kd.R_drew)); exact HO_6.out)); obtain ⟨ce18, hcl18, hM18, hcc18, hfr18⟩ := Kd.R_elem HX18.out z220 (t536 : Int) (of_decide_eq_true (by first | (with_reducible assumption) | assumption)) (by have h_ : (t536 : Int) < ((x6_2.length : Int) : Int) := of_decide_eq_true (by first | (with_reducible assumption) | assumption); first | exact h_ | (have e_ := (Kd.R_reads' HO_6.out).1; omega) | simpa using h_); obtain rfl := k220_openM hM18; have HP18 := Kd.R_seg HX18.out (t536 : Int) (of_decide_eq_true (by first | (with_reducible assumption) | assumption)) (by have h_ : (t536 : Int) < ((x6_2.length : Int) : Int) := of_decide_eq_true (by first | (with_reducible assumption) | assumption); first | exact h_ | (have e_ := (Kd.R_reads' HO_6.out).1; omega) | simpa using h_) (seg := [.int .i64 x7_1, .int .i64 x8_2]) (j := 0) hcl18 hcc18 (show 2 ≤ 2 from by decide) (x' := (⟨x7_1, x8_2⟩ : S220)) (k220_mkM _ _ _ (⟨x7_1, x8_2⟩ : S220) ) (fun _ hk => hk); have hx18_0 := hcc18 0 _ rfl; (try simp only [show (k220).sz = 2 from rfl, Nat.mul_one, Nat.add_zero] at hx18_0); have hf18_0 := hfr18 0; (try simp only [show (k220).sz = 2 from rfl, Nat.mul_one, Nat.add_zero] at hf18_0); have hx18_1 := hcc18 1 _ rfl; (try simp only [show (k220).sz = 2 from rfl, Nat.mul_one, Nat.add_zero] at hx18_1); have hf18_1 := hfr18 1; (try simp only [show (k220).sz = 2 from rfl, Nat.mul_one, Nat.add_zero] at hf18_1); clear hcl18 hcc18 hfr18 hM18) | ((with_reducible refine gate_store (t := 220) (p := 47) rfl ?_); refine store_event (t := 220) (p := 47) (v := ?vo_w19) (w1 := ((w17.setCell ⟨go15, (t536 : Int).toNat * 2, none⟩ (.int .i64 x7_1)).setCell ⟨go15, (t536 : Int).toNat * 2 + 1, none⟩ (.int .i64 x8_2))) ?hg ?ho ?hn ?hr ?_; (case ho => rfl); (case hg => rfl); (case hn => rfl); (case hr => first | (go_simp; done) | (go_simp; rfl)); intro w19 hw; have hg : w17.grownBy w19 (some go15) := (by rw [hw]; exact HP18.2); have hp_ : Kd.R k220 220 w19 w.heap.size (fun _ => True) (.slice (some ⟨go15, 0, none⟩) x6_2.length co15) y537 := (by rw [hw, Ny537.out]; exact HP18.1); clear HP18; have n0_ := Aside0.mk (hp_); have n1_ := Aside0.mk ((by rw [hw]; exact below_set (below_set (HB.out) GB15.out) GB15.out : Below w.heap.size w w19)); clear HO_6; clear HB; have HO_6 := n0_; have HB := n1_; clear n0_ n1_; clear hg hw hp_))
             first | go_roundg k2 | (simp only [add_plain] at *; go_roundg k2)
             case measure => have := HK1.out; have := HK2.out; omega
             case rel => exact ⟨(y537), (wrap64 (x8_2 + 1)), (by first | rfl | (simp; done) | (simp [*]; done)), H', ⟨by have := HK1.out; have := HK2.out; omega⟩, ⟨by (with_reducible repeat (first | apply Kd.R_alloc | apply Kd.R_drewN | apply Kd.R_drew)); exact HO_6.out⟩, ⟨by repeat (first | (with_reducible first | exact HB.out | apply below_alloc | apply pw_below_drewN | apply below_drew1) | exact HB.out)⟩⟩
            ·rw [if_neg c14] at H
             exact absurd H (by simp)
           ·rw [if_neg c13] at H
            exact absurd H (by simp)
          ·replace c11 := Bool.eq_false_iff.mpr c11
           subst c11
           have H1 : (foghornref04_Points.l1 k2 a0 t530 x6_2 x7_1 (wrap64 (x8_2 + 1))) = some (r1, r2) := by rw [if_neg (show ¬ (false = true) by decide)] at H; exact H
           clear H
           have H := H1
           clear H1
           have H' := Aside0.mk H
           clear H
           go_wp2_with ((with_reducible refine gate_callee (f := 161) rfl ?_); refine goesL_ (some 37) rfl rfl Try.func161 (by kernel_rfl) rfl #[.int .i64 a0, .agg #[.int .i64 x7_1, .int .i64 x8_2]] rfl (by (try simp only [List.map_toArray, List.map_cons, List.map_nil]); first | done | rfl | (simp only [List.length_drop, List.length_take]; rfl)) ?_; (with_reducible refine (foghornref04_in.calls k2 a0 x7_1 x8_2 false _ A10.out).mono ?_); rintro e w20 ⟨rfl, hb⟩; refine ⟨_, rfl, ?_⟩; have n0_ := Aside0.mk (Kd.R_below (by (with_reducible repeat (first | apply Kd.R_alloc | apply Kd.R_drewN | apply Kd.R_drew)); exact HO_6.out) hb); have n1_ := Aside0.mk (below_step (by repeat (first | (with_reducible first | exact HB.out | apply below_alloc | apply pw_below_drewN | apply below_drew1) | exact HB.out)) hb); clear HO_6; clear HB; have HO_6 := n0_; have HB := n1_; clear n0_ n1_; (try clear hb); (try clear hb2); (try clear hk); (try clear hi))
           first | go_roundg k2 | (simp only [add_plain] at *; go_roundg k2)
           case measure => have := HK1.out; have := HK2.out; omega
           case rel => exact ⟨(x6_2), (wrap64 (x8_2 + 1)), (by first | rfl | (simp; done) | (simp [*]; done)), H', ⟨by have := HK1.out; have := HK2.out; omega⟩, ⟨by (with_reducible repeat (first | apply Kd.R_alloc | apply Kd.R_drewN | apply Kd.R_drew)); exact HO_6.out⟩, ⟨by repeat (first | (with_reducible first | exact HB.out | apply below_alloc | apply pw_below_drewN | apply below_drew1) | exact HB.out)⟩⟩
         ·rw [if_neg c9] at H
          have c9b0 : decide (x8_2 ≤ t530) = false := decide_eq_false c9
          clear c9
          have H' := Aside0.mk H
          clear H
          go_wp2
          first | go_roundg k2 | (simp only [add_plain] at *; go_roundg k2)
          case measure => have := HK1.out; have := HK2.out; omega
          case rel => exact ⟨(x6_2), (wrap64 (x7_1 + 1)), (by first | rfl | (simp; done) | (simp [*]; done)), H', ⟨by have := HK1.out; have := HK2.out; omega⟩, ⟨by (with_reducible repeat (first | apply Kd.R_alloc | apply Kd.R_drewN | apply Kd.R_drew)); exact HO_6.out⟩, ⟨by repeat (first | (with_reducible first | exact HB.out | apply below_alloc | apply pw_below_drewN | apply below_drew1) | exact HB.out)⟩⟩
      ·rw [if_neg c8] at H
       have c8b0 : decide (x7_1 ≤ t530) = false := decide_eq_false c8
       clear c8
       simp only [Option.some.injEq, Prod.mk.injEq] at H
       obtain ⟨rfl, rfl⟩ := H
       go_wp2
       go_ret2
       exact ⟨_, by first | rfl | (simp [errW_none, errW_some] <;> rfl) | (simp [*, errW_none, errW_some] <;> rfl), by (with_reducible repeat (first | apply Kd.R_alloc | apply Kd.R_drewN | apply Kd.R_drew)); exact HO_6.out, by repeat (first | (with_reducible first | exact HB.out | apply below_alloc | apply pw_below_drewN | apply below_drew1) | exact HB.out)⟩
   ·rw [if_neg c5] at H
    exact absurd H (by simp)
  ·rw [if_neg c4] at H
   exact absurd H (by simp)
 ·rw [if_neg c3] at H
  have c3b0 : (t531 == 0) = false := beq_eq_false_iff_ne.mpr c3
  have c3b1 : (t531 != 0) = true := bne_iff_ne.mpr c3
  simp only [Option.some.injEq, Prod.mk.injEq] at H
  obtain ⟨rfl, rfl⟩ := H
  go_enter Try.func140, Try.ntmps140
  go_wp2_with ((with_reducible refine gate_callee (f := 65) rfl ?_); refine goesL_ (some 11) rfl rfl Try.func65 (by kernel_rfl) rfl #[.int .i64 a0] rfl (by (try simp only [List.map_toArray, List.map_cons, List.map_nil]); first | done | rfl | (simp only [List.length_drop, List.length_take]; rfl)) ?_; (with_reducible refine (foghornref04_Edge.calls a0 t530 t531 _ A2.out).mono ?_); rintro e w' ⟨rfl, ⟨nd, rfl⟩⟩; refine ⟨_, rfl, ?_⟩)
  go_ret2
  exact ⟨_, by first | rfl | (simp [errW_none, errW_some] <;> rfl) | (simp [*, errW_none, errW_some] <;> rfl), by first | exact Kd.R_nil _ _ _ _ _ | exact Kd.N_nil _ _ _ _ _ | exact Kd.V_nil _ _ _ _ _ | exact Kd.Q_nil _ _ _ _ _ | exact Kd.S_nil _ _ _ _ _, by repeat (first | (with_reducible first | exact HB.out | apply below_alloc | apply pw_below_drewN | apply below_drew1) | exact HB.out)⟩
set_option maxHeartbeats 8000000 in
set_option maxRecDepth 100000 in
theorem foghornref04_Number.calls (a0_0 : Int) (a0_1 : Int) (r : (Nat × Nat)) (w : World) (h : foghornref04_Number.f a0_0 a0_1 = some r) :
  Calls Try.prog 141 #[.agg #[.int .i64 a0_0, .int .i64 a0_1]] w fun e w' => e = .returned (.complex .f64 r.1 r.2) ∧ Below w.heap.size w w' := by
 have hu220 := Try.underlying220
 have HB := Aside0.mk (Below.refl w.heap.size w)
 have H : (some (floatOfInt .f64 a0_0, floatOfInt .f64 a0_1)) = some r := h
 clear h
 obtain rfl := Option.some.inj H
 go_enter Try.func141, Try.ntmps141
 go_wp2_with ((with_reducible refine gate_dst (N := 1) rfl ?_); refine box_event ?hg (N := 1) ?hd (cs := #[.int .i64 a0_0, .int .i64 a0_1]) (t := 220) ?hr ?_; (case hd => rfl); (case hg => rfl); (case hr => first | (go_simp; done) | (go_simp; rfl)); intro gb538 hg w2 hbox hb; have n0_ := Aside0.mk (below_step (by repeat (first | (with_reducible first | exact HB.out | apply below_alloc | apply pw_below_drewN | apply below_drew1) | exact HB.out)) hb); have n1_ := Aside0.mk (hbox); have n2_ := Aside0.mk ((by rw [hg]; exact (below_size (by repeat (first | (with_reducible first | exact HB.out | apply below_alloc | apply pw_below_drewN | apply below_drew1) | exact HB.out))) : w.heap.size ≤ gb538)); have n3_ := Aside0.mk ((by rw [hg]; exact (below_size (by repeat (first | (with_reducible first | exact HB.out | apply below_alloc | apply pw_below_drewN | apply below_drew1) | exact HB.out))) : w.heap.size ≤ gb538)); clear HB; have HB := n0_; have BK538 := n1_; have GW538 := n2_; have GE538 := n3_; clear n0_ n1_ n2_ n3_; clear hb hbox hg; have hcz3_0 : w2.cell? ⟨gb538, 0, none⟩ = some (.int .i64 a0_0) := (blk_cell BK538.out 0).trans rfl; have hcz3_1 : w2.cell? ⟨gb538, 1, none⟩ = some (.int .i64 a0_1) := (blk_cell BK538.out 1).trans rfl; have hfz3_0 := blk_frozen BK538.out 0; have hfz3_1 := blk_frozen BK538.out 1)
 go_ret
 exact ⟨by first | rfl | (simp [errW_none, errW_some] <;> rfl) | (simp [*, errW_none, errW_some] <;> rfl), by repeat (first | (with_reducible first | exact HB.out | apply below_alloc | apply pw_below_drewN | apply below_drew1 | refine below_set ?_ GE538.out) | exact HB.out)⟩
set_option maxHeartbeats 8000000 in
set_option maxRecDepth 100000 in
theorem foghornref04_All.calls (k : Nat) (a0 : Int) (r1 : List (Nat × Nat)) (r2 : Int) (w : World) (h : foghornref04_All.f k a0 = some (r1, r2)) :
  Calls Try.prog 98 #[.int .i64 a0] w fun e w' => ∃ v0_ : Value, e = .returned (.tuple #[v0_, .int .i64 r2]) ∧ Kd.R Kd.cplx 32 w' w.heap.size (fun _ => True) v0_ r1 ∧ Below w.heap.size w w' := by
 have hu220 := Try.underlying220
 have HB := Aside0.mk (Below.refl w.heap.size w)
 have H : ((foghornref04_Points.f k a0).bind fun bt539 => (foghornref04_All.l0 k bt539.1 bt539.2 ([] : List (Nat × Nat)) 0)) = some (r1, r2) := h
 clear h
 replace H := Option.bind_eq_some_iff.mp H
 obtain ⟨⟨t539, t540⟩, A20, H⟩ := H
 replace H : (foghornref04_All.l0 k t539 t540 ([] : List (Nat × Nat)) 0) = some (r1, r2) := H
 have A2 := Aside0.mk A20
 clear A20
 have H' := Aside0.mk H
 clear H
 go_enter Try.func98, Try.ntmps98
 go_wp2_with ((with_reducible refine gate_callee (f := 140) rfl ?_); refine goesL_ (some 10) rfl rfl Try.func140 (by kernel_rfl) rfl #[.int .i64 a0] rfl (by (try simp only [List.map_toArray, List.map_cons, List.map_nil]); first | done | rfl | (simp only [List.length_drop, List.length_take]; rfl)) ?_; (with_reducible refine (foghornref04_Points.calls k a0 t539 t540 _ A2.out).mono ?_); rintro e w3 ⟨v541, rfl, ho0, hb⟩; refine ⟨_, rfl, ?_⟩; have n0_ := Aside0.mk (Kd.R_lower ho0 (below_size (by repeat (first | (with_reducible first | exact HB.out | apply below_alloc | apply pw_below_drewN | apply below_drew1) | exact HB.out)))); have n1_ := Aside0.mk (below_step (by repeat (first | (with_reducible first | exact HB.out | apply below_alloc | apply pw_below_drewN | apply below_drew1) | exact HB.out)) hb); clear HB; have HO542 := n0_; have HB := n1_; clear n0_ n1_; (try clear hb); (try clear hb2); (try clear hk); (try clear hi); (try clear ho0))
 go_loopg [6, 7] k (fun kq v6 v7 w' => ∃ (x6_1 : List (Nat × Nat)) (x7_1 : Int), v7 = .int .i64 x7_1 ∧ Aside0 (foghornref04_All.l0 kq t539 t540 x6_1 x7_1 = some (r1, r2)) ∧ Aside0 (kq ≤ k) ∧ Aside0 (Kd.R k220 220 w' w.heap.size (fun _ => True) v541 t539) ∧ Aside0 (Kd.R Kd.cplx 32 w' w.heap.size (fun _ => True) v6 x6_1) ∧ Aside0 (Below w.heap.size w w'))
 case atStart => exact ⟨(([] : List (Nat × Nat))), (0), (by first | rfl | (simp; done) | (simp [*]; done)), H', ⟨Nat.le_refl _⟩, ⟨by (with_reducible repeat (first | apply Kd.R_alloc | apply Kd.R_drewN | apply Kd.R_drew)); exact HO542.out⟩, ⟨by first | exact Kd.R_nil _ _ _ _ _ | exact Kd.N_nil _ _ _ _ _ | exact Kd.V_nil _ _ _ _ _ | exact Kd.Q_nil _ _ _ _ _ | exact Kd.S_nil _ _ _ _ _⟩, ⟨by repeat (first | (with_reducible first | exact HB.out | apply below_alloc | apply pw_below_drewN | apply below_drew1) | exact HB.out)⟩⟩
 case round =>
  clear H'
  try clear c1
  try clear p2
  obtain ⟨x6_1, x7_1, rfl, HA, HK1, HO_4, HO_6, HB⟩ := hrel
  cases gk with
  | zero => exact absurd HA.out (by simp [foghornref04_All.l0])
  | succ k1 =>
   have H := HA.out
   clear HA
   simp only [foghornref04_All.l0] at H
   by_cases c4 : x7_1 < (t539.length : Int)
   ·rw [if_pos c4] at H
    have c4b0 : decide (x7_1 < (t539.length : Int)) = true := decide_eq_true c4
    clear c4
    by_cases c5 : 0 ≤ x7_1
    ·rw [if_pos c5] at H
     have c5b0 : decide (0 ≤ x7_1) = true := decide_eq_true c5
     clear c5
     replace H := Option.bind_eq_some_iff.mp H
     obtain ⟨t544, A60, H⟩ := H
     replace H : (if x6_1.length < 8796093022208 then (foghornref04_All.l0 k1 t539 t540 (x6_1 ++ [t544]) (wrap64 (x7_1 + 1))) else (none)) = some (r1, r2) := H
     have A6 := Aside0.mk A60
     clear A60
     by_cases c7 : x6_1.length < 8796093022208
     ·rw [if_pos c7] at H
      have LMc7 := Aside0.mk c7
      clear c7
      obtain ⟨y545, hy545⟩ : ∃ y_ : List (Nat × Nat), y_ = (x6_1 ++ [t544]) := ⟨_, rfl⟩
      replace H : (foghornref04_All.l0 k1 t539 t540 y545 (wrap64 (x7_1 + 1))) = some (r1, r2) := by first | (rw [hy545]; with_reducible exact H) | (have H2_ := (Option.bind_some _ _).symm.trans H; rw [hy545]; with_reducible exact H2_) | (have H2_ := (Option.bind_some _ _).symm.trans H; with_reducible exact H2_) | with_reducible exact H | (rw [hy545]; exact H) | exact H
      have Ny545 := Aside0.mk hy545
      clear hy545
      have H' := Aside0.mk H
      clear H
      obtain ⟨Ao8, co8, eo8⟩ := Kd.R_slice HO_4.out
      subst eo8
      have p543 : 0 ≤ (x7_1 : Int) := of_decide_eq_true (by first | (with_reducible assumption) | assumption)
      have q543 : x7_1 < (t539.length : Int) := of_decide_eq_true (by first | (with_reducible assumption) | assumption)
      obtain ⟨ad543, e543, hx543_0, hx543_1⟩ := at_T220 (Kd.R_reads' HO_4.out).2.2 x7_1 p543 q543
      cases e543
      replace p543 := eq_true p543
      replace q543 := eq_true q543
      go_wp2_with (first | ((with_reducible refine gate_callee (f := 141) rfl ?_); refine goesL_ (some 24) rfl rfl Try.func141 (by kernel_rfl) rfl #[.agg #[.int .i64 ((rd_T220 t539 x7_1).f0), .int .i64 ((rd_T220 t539 x7_1).f1)]] rfl (by (try simp only [List.map_toArray, List.map_cons, List.map_nil]); first | done | rfl | (simp only [List.length_drop, List.length_take]; rfl)) ?_; (with_reducible refine (foghornref04_Number.calls ((rd_T220 t539 x7_1).f0) ((rd_T220 t539 x7_1).f1) t544 _ A6.out).mono ?_); rintro e w9 ⟨rfl, hb⟩; refine ⟨_, rfl, ?_⟩; have n0_ := Aside0.mk (Kd.R_below (by (with_reducible repeat (first | apply Kd.R_alloc | apply Kd.R_drewN | apply Kd.R_drew)); exact HO_4.out) hb); have n1_ := Aside0.mk (Kd.R_below (by (with_reducible repeat (first | apply Kd.R_alloc | apply Kd.R_drewN | apply Kd.R_drew)); exact HO_6.out) hb); have n2_ := Aside0.mk (below_step (by repeat (first | (with_reducible first | exact HB.out | apply below_alloc | apply pw_below_drewN | apply below_drew1) | exact HB.out)) hb); clear HO_4; clear HO_6; clear HB; have HO_4 := n0_; have HO_6 := n1_; have HB := n2_; clear n0_ n1_ n2_; (try clear hb); (try clear hb2); (try clear hk); (try clear hi)) | ((with_reducible refine gate_builtin (b := .append) (xs := #[.tmp 19, .tmp 25]) rfl ?_); at_builtin; refine Kd.R_append Kd.cplx (w0 := w) w.heap.size rfl (.tmp 19) (.tmp 25) 24 32 (.complex .f64 0 0) 16 rfl Try.underlying24 info32 rfl (by decide) (by omega) u6 x6_1 t544 [.complex .f64 t544.1 t544.2] (fun _ => True) (fun _ => False) rfl rfl ?aP (fun _ hk => hk.elim) ?aF ?aO ?aB ?aS ?aL ?_; (case aP => exact rfl); (case aB => exact (by repeat (first | (with_reducible first | exact HB.out | apply below_alloc | apply pw_below_drewN | apply below_drew1) | exact HB.out))); (case aF => exact (fun _ _ => trivial)); (case aO => exact (by (with_reducible repeat (first | apply Kd.R_alloc | apply Kd.R_drewN | apply Kd.R_drew)); exact HO_6.out)); (case aS => exact (below_size (by repeat (first | (with_reducible first | exact HB.out | apply below_alloc | apply pw_below_drewN | apply below_drew1) | exact HB.out)))); (case aL => have := LMc7.out; omega); intro v546 w10 ho hb hg hat; rw [← Ny545.out] at ho; have n0_ := Aside0.mk (Kd.R_over' (by (with_reducible repeat (first | apply Kd.R_alloc | apply Kd.R_drewN | apply Kd.R_drew)); exact HO_4.out) (Kd.R_typed (by (with_reducible repeat (first | apply Kd.R_alloc | apply Kd.R_drewN | apply Kd.R_drew)); exact HO_6.out)) (by decide) hg); have n1_ := Aside0.mk (hb); have n2_ := Aside0.mk (ho); clear HO_4; clear HB; clear HO_6; have HO_4 := n0_; have HB := n1_; have HO547 := n2_; clear n0_ n1_ n2_; clear ho hb hg hat))
      first | go_roundg k1 | (simp only [add_plain] at *; go_roundg k1)
      case measure => have := HK1.out; omega
      case rel => exact ⟨(y545), (wrap64 (x7_1 + 1)), (by first | rfl | (simp; done) | (simp [*]; done)), H', ⟨by have := HK1.out; omega⟩, ⟨by (with_reducible repeat (first | apply Kd.R_alloc | apply Kd.R_drewN | apply Kd.R_drew)); exact HO_4.out⟩, ⟨by (with_reducible repeat (first | apply Kd.R_alloc | apply Kd.R_drewN | apply Kd.R_drew)); exact HO547.out⟩, ⟨by repeat (first | (with_reducible first | exact HB.out | apply below_alloc | apply pw_below_drewN | apply below_drew1) | exact HB.out)⟩⟩
     ·rw [if_neg c7] at H
      exact absurd H (by simp)
    ·rw [if_neg c5] at H
     exact absurd H (by simp)
   ·rw [if_neg c4] at H
    have c4b0 : decide (x7_1 < (t539.length : Int)) = false := decide_eq_false c4
    clear c4
    simp only [Option.some.injEq, Prod.mk.injEq] at H
    obtain ⟨rfl, rfl⟩ := H
    obtain ⟨Ao11, co11, eo11⟩ := Kd.R_slice HO_4.out
    subst eo11
    go_wp2
    go_ret2
    exact ⟨_, by first | rfl | (simp [errW_none, errW_some] <;> rfl) | (simp [*, errW_none, errW_some] <;> rfl), by (with_reducible repeat (first | apply Kd.R_alloc | apply Kd.R_drewN | apply Kd.R_drew)); exact HO_6.out, by repeat (first | (with_reducible first | exact HB.out | apply below_alloc | apply pw_below_drewN | apply below_drew1) | exact HB.out)⟩
set_option maxHeartbeats 8000000 in
set_option maxRecDepth 100000 in
theorem slice_gap.calls (a0 : (Nat × Nat)) (a1 : (Nat × Nat)) (r : Nat) (w : World) (h : slice_gap.f a0 a1 = some r) :
  Calls Try.prog 123 #[.complex .f64 a0.1 a0.2, .complex .f64 a1.1 a1.2] w fun e w' => e = .returned (.float .f64 r) ∧ Below w.heap.size w w' := by
 have HB := Aside0.mk (Below.refl w.heap.size w)
 have H : ((floatBits .sub .f64 a0.1 a1.1).bind fun t563 => ((floatBits .sub .f64 a0.2 a1.2).bind fun t564 => ((floatBits .mul .f64 t563 t563).bind fun t565 => ((floatBits .mul .f64 t564 t564).bind fun t566 => ((floatBits .add .f64 t565 t566).bind fun t567 => (some t567)))))) = some r := h
 clear h
 replace H := Option.bind_eq_some_iff.mp H
 obtain ⟨t563, A30, H⟩ := H
 replace H : ((floatBits .sub .f64 a0.2 a1.2).bind fun t564 => ((floatBits .mul .f64 t563 t563).bind fun t565 => ((floatBits .mul .f64 t564 t564).bind fun t566 => ((floatBits .add .f64 t565 t566).bind fun t567 => (some t567))))) = some r := H
 have A3 := Aside0.mk A30
 clear A30
 replace H := Option.bind_eq_some_iff.mp H
 obtain ⟨t564, A40, H⟩ := H
 replace H : ((floatBits .mul .f64 t563 t563).bind fun t565 => ((floatBits .mul .f64 t564 t564).bind fun t566 => ((floatBits .add .f64 t565 t566).bind fun t567 => (some t567)))) = some r := H
 have A4 := Aside0.mk A40
 clear A40
 replace H := Option.bind_eq_some_iff.mp H
 obtain ⟨t565, A50, H⟩ := H
 replace H : ((floatBits .mul .f64 t564 t564).bind fun t566 => ((floatBits .add .f64 t565 t566).bind fun t567 => (some t567))) = some r := H
 have A5 := Aside0.mk A50
 clear A50
 replace H := Option.bind_eq_some_iff.mp H
 obtain ⟨t566, A60, H⟩ := H
 replace H : ((floatBits .add .f64 t565 t566).bind fun t567 => (some t567)) = some r := H
 have A6 := Aside0.mk A60
 clear A60
 replace H := Option.bind_eq_some_iff.mp H
 obtain ⟨t567, A70, H⟩ := H
 replace H : (some t567) = some r := H
 have A7 := Aside0.mk A70
 clear A70
 obtain rfl := Option.some.inj H
 have hfoA3_ := fun (t_ : TypeId) (w_ : World) => run_float_arith (P := Try.prog) w_ .sub t_ .f64 a0.1 a1.1 t563 A3.out
 have hfoA4_ := fun (t_ : TypeId) (w_ : World) => run_float_arith (P := Try.prog) w_ .sub t_ .f64 a0.2 a1.2 t564 A4.out
 have hfoA5_ := fun (t_ : TypeId) (w_ : World) => run_float_arith (P := Try.prog) w_ .mul t_ .f64 t563 t563 t565 A5.out
 have hfoA6_ := fun (t_ : TypeId) (w_ : World) => run_float_arith (P := Try.prog) w_ .mul t_ .f64 t564 t564 t566 A6.out
 have hfoA7_ := fun (t_ : TypeId) (w_ : World) => run_float_arith (P := Try.prog) w_ .add t_ .f64 t565 t566 t567 A7.out
 go_enter Try.func123, Try.ntmps123
 go_wp2
 go_ret
 exact ⟨by first | rfl | (simp [errW_none, errW_some] <;> rfl) | (simp [*, errW_none, errW_some] <;> rfl), by repeat (first | (with_reducible first | exact HB.out | apply below_alloc | apply pw_below_drewN | apply below_drew1) | exact HB.out)⟩
set_option maxHeartbeats 8000000 in
set_option maxRecDepth 100000 in
theorem points_Label.calls (k : Nat) (a0 : Int) (a1 : (Nat × Nat)) (r1 : Int) (r2 : Int) (w : World) (h : points_Label.f k a0 a1 = some (r1, r2)) :
  Calls Try.prog 176 #[.int .i64 a0, .complex .f64 a1.1 a1.2] w fun e w' => e = .returned (.tuple #[.int .i64 r1, .int .i64 r2]) ∧ Below w.heap.size w w' := by
 have HB := Aside0.mk (Below.refl w.heap.size w)
 have H : ((points_All.f a0).bind fun bt613 => (if bt613.2 = 0 then (points_Label.l0 k a1 bt613.1 (bt613.1.length : Int) 0) else (some (0, bt613.2)))) = some (r1, r2) := h
 clear h
 replace H := Option.bind_eq_some_iff.mp H
 obtain ⟨⟨t613, t614⟩, A30, H⟩ := H
 replace H : (if t614 = 0 then (points_Label.l0 k a1 t613 (t613.length : Int) 0) else (some (0, t614))) = some (r1, r2) := H
 have A3 := Aside0.mk A30
 clear A30
 by_cases c4 : t614 = 0
 ·rw [if_pos c4] at H
  have c4b0 : (t614 == 0) = true := beq_iff_eq.mpr c4
  have c4b1 : (t614 != 0) = false := bne_eq_false_iff_eq.mpr c4
  clear c4
  have H' := Aside0.mk H
  clear H
  go_enter Try.func176, Try.ntmps176
  go_wp2_with ((with_reducible refine gate_callee (f := 56) rfl ?_); refine goesL_ (some 12) rfl rfl Try.func56 (by kernel_rfl) rfl #[.int .i64 a0] rfl (by (try simp only [List.map_toArray, List.map_cons, List.map_nil]); first | done | rfl | (simp only [List.length_drop, List.length_take]; rfl)) ?_; (with_reducible refine (points_All.calls a0 t613 t614 _ A3.out).mono ?_); rintro e w5 ⟨v615, rfl, ho0, hb⟩; refine ⟨_, rfl, ?_⟩; have n0_ := Aside0.mk (Kd.R_lower ho0 (below_size (by repeat (first | (with_reducible first | exact HB.out | apply below_alloc | apply pw_below_drewN | apply below_drew1) | exact HB.out)))); have n1_ := Aside0.mk (below_step (by repeat (first | (with_reducible first | exact HB.out | apply below_alloc | apply pw_below_drewN | apply below_drew1) | exact HB.out)) hb); clear HB; have HO616 := n0_; have HB := n1_; clear n0_ n1_; (try clear hb); (try clear hb2); (try clear hk); (try clear hi); (try clear ho0); obtain ⟨Ao6, co6, eo6⟩ := Kd.R_slice HO616.out; subst eo6)
  go_loopg [20] k (fun kq v20 w' => ∃ (x20_1 : Int), v20 = .int .i64 x20_1 ∧ Aside0 (points_Label.l0 kq a1 t613 (t613.length : Int) x20_1 = some (r1, r2)) ∧ Aside0 (kq ≤ k) ∧ Aside0 (Kd.R Kd.cplx 32 w' w.heap.size (fun _ => True) (.slice Ao6 t613.length co6) t613) ∧ Aside0 (Below w.heap.size w w'))
  case atStart => exact ⟨(0), (by first | rfl | (simp; done) | (simp [*]; done)), H', ⟨Nat.le_refl _⟩, ⟨by (with_reducible repeat (first | apply Kd.R_alloc | apply Kd.R_drewN | apply Kd.R_drew)); exact HO616.out⟩, ⟨by repeat (first | (with_reducible first | exact HB.out | apply below_alloc | apply pw_below_drewN | apply below_drew1) | exact HB.out)⟩⟩
  case round =>
   clear H'
   try clear c1
   try clear p2
   try clear c4
   try clear c4b0
   try clear c4b1
   try clear c5
   obtain ⟨x20_1, rfl, HA, HK1, HO_18, HB⟩ := hrel
   cases gk with
   | zero => exact absurd HA.out (by simp [points_Label.l0])
   | succ k1 =>
    have H := HA.out
    clear HA
    simp only [points_Label.l0] at H
    by_cases c7 : x20_1 < (t613.length : Int)
    ·rw [if_pos c7] at H
     have c7b0 : decide (x20_1 < (t613.length : Int)) = true := decide_eq_true c7
     clear c7
     by_cases c8 : 0 ≤ x20_1
     ·rw [if_pos c8] at H
      have c8b0 : decide (0 ≤ x20_1) = true := decide_eq_true c8
      clear c8
      by_cases c9 : x20_1 < (t613.length : Int)
      ·rw [if_pos c9] at H
       have c9b0 : decide (x20_1 < (t613.length : Int)) = true := decide_eq_true c9
       clear c9
       by_cases c10 : ((FloatKind.f64.format.order ((rdOf (0, 0) t613 x20_1).1) a1.1 == some .eq) && (FloatKind.f64.format.order ((rdOf (0, 0) t613 x20_1).2) a1.2 == some .eq)) = true
       ·rw [if_pos c10] at H
        have c10b0 : ((FloatKind.f64.format.order ((rdOf (0, 0) t613 x20_1).1) a1.1 == some .eq) && (FloatKind.f64.format.order ((rdOf (0, 0) t613 x20_1).2) a1.2 == some .eq)) = true := c10
        clear c10
        simp only [Option.some.injEq, Prod.mk.injEq] at H
        obtain ⟨rfl, rfl⟩ := H
        have p617 : 0 ≤ (x20_1 : Int) := of_decide_eq_true (by first | (with_reducible assumption) | assumption)
        have q617 : x20_1 < (t613.length : Int) := of_decide_eq_true (by first | (with_reducible assumption) | assumption)
        obtain ⟨ad617, e617, hx617_0⟩ := Kd.at_cplx (Kd.R_reads' HO_18.out).2.2 x20_1 p617 q617
        cases e617
        replace p617 := eq_true p617
        replace q617 := eq_true q617
        go_wp2
        go_ret2
        exact ⟨by first | rfl | (simp [errW_none, errW_some] <;> rfl) | (simp [*, errW_none, errW_some] <;> rfl), by repeat (first | (with_reducible first | exact HB.out | apply below_alloc | apply pw_below_drewN | apply below_drew1) | exact HB.out)⟩
       ·rw [if_neg c10] at H
        have c10b0 : ((FloatKind.f64.format.order ((rdOf (0, 0) t613 x20_1).1) a1.1 == some .eq) && (FloatKind.f64.format.order ((rdOf (0, 0) t613 x20_1).2) a1.2 == some .eq)) = false := by simpa using c10
        clear c10
        have H' := Aside0.mk H
        clear H
        have p617 : 0 ≤ (x20_1 : Int) := of_decide_eq_true (by first | (with_reducible assumption) | assumption)
        have q617 : x20_1 < (t613.length : Int) := of_decide_eq_true (by first | (with_reducible assumption) | assumption)
        obtain ⟨ad617, e617, hx617_0⟩ := Kd.at_cplx (Kd.R_reads' HO_18.out).2.2 x20_1 p617 q617
        cases e617
        replace p617 := eq_true p617
        replace q617 := eq_true q617
        go_wp2
        first | go_roundg k1 | (simp only [add_plain] at *; go_roundg k1)
        case measure => have := HK1.out; omega
        case rel => exact ⟨(wrap64 (x20_1 + 1)), (by first | rfl | (simp; done) | (simp [*]; done)), H', ⟨by have := HK1.out; omega⟩, ⟨by (with_reducible repeat (first | apply Kd.R_alloc | apply Kd.R_drewN | apply Kd.R_drew)); exact HO_18.out⟩, ⟨by repeat (first | (with_reducible first | exact HB.out | apply below_alloc | apply pw_below_drewN | apply below_drew1) | exact HB.out)⟩⟩
      ·rw [if_neg c9] at H
       exact absurd H (by simp)
     ·rw [if_neg c8] at H
      exact absurd H (by simp)
    ·rw [if_neg c7] at H
     have c7b0 : decide (x20_1 < (t613.length : Int)) = false := decide_eq_false c7
     clear c7
     simp only [Option.some.injEq, Prod.mk.injEq] at H
     obtain ⟨rfl, rfl⟩ := H
     go_wp2
     go_ret2
     exact ⟨by first | rfl | (simp [errW_none, errW_some] <;> rfl) | (simp [*, errW_none, errW_some] <;> rfl), by repeat (first | (with_reducible first | exact HB.out | apply below_alloc | apply pw_below_drewN | apply below_drew1) | exact HB.out)⟩
 ·rw [if_neg c4] at H
  have c4b0 : (t614 == 0) = false := beq_eq_false_iff_ne.mpr c4
  have c4b1 : (t614 != 0) = true := bne_iff_ne.mpr c4
  simp only [Option.some.injEq, Prod.mk.injEq] at H
  obtain ⟨rfl, rfl⟩ := H
  go_enter Try.func176, Try.ntmps176
  go_wp2_with ((with_reducible refine gate_callee (f := 56) rfl ?_); refine goesL_ (some 12) rfl rfl Try.func56 (by kernel_rfl) rfl #[.int .i64 a0] rfl (by (try simp only [List.map_toArray, List.map_cons, List.map_nil]); first | done | rfl | (simp only [List.length_drop, List.length_take]; rfl)) ?_; (with_reducible refine (points_All.calls a0 t613 t614 _ A3.out).mono ?_); rintro e w11 ⟨v615, rfl, ho0, hb⟩; refine ⟨_, rfl, ?_⟩; have n0_ := Aside0.mk (Kd.R_lower ho0 (below_size (by repeat (first | (with_reducible first | exact HB.out | apply below_alloc | apply pw_below_drewN | apply below_drew1) | exact HB.out)))); have n1_ := Aside0.mk (below_step (by repeat (first | (with_reducible first | exact HB.out | apply below_alloc | apply pw_below_drewN | apply below_drew1) | exact HB.out)) hb); clear HB; have HO616 := n0_; have HB := n1_; clear n0_ n1_; (try clear hb); (try clear hb2); (try clear hk); (try clear hi); (try clear ho0))
  go_ret2
  exact ⟨by first | rfl | (simp [errW_none, errW_some] <;> rfl) | (simp [*, errW_none, errW_some] <;> rfl), by repeat (first | (with_reducible first | exact HB.out | apply below_alloc | apply pw_below_drewN | apply below_drew1) | exact HB.out)⟩
set_option maxHeartbeats 8000000 in
set_option maxRecDepth 100000 in
theorem slice_axes.calls (k : Nat) (a0 : Int) (a1 : Int) (a2 : (Nat × Nat)) (r1 : Int) (r2 : (Nat × Nat)) (r3 : Bool) (w : World) (h : slice_axes.f k a0 a1 a2 = some (r1, r2, r3)) :
  Calls Try.prog 166 #[.int .i64 a0, .int .i64 a1, .complex .f64 a2.1 a2.2] w fun e w' => e = .returned (.agg #[.int .i64 r1, .complex .f64 r2.1 r2.2, .bool r3]) ∧ Below w.heap.size w w' := by
 have hu83 := Try.underlying83
 have HB := Aside0.mk (Below.refl w.heap.size w)
 have H : ((slice_Axis.f k a2.1 a1).bind fun bt619 => ((slice_Axis.f k a2.2 a1).bind fun bt621 => ((points_Label.f k a0 (floatOfInt .f64 bt619.1, floatOfInt .f64 bt621.1)).bind fun bt623 => (some (bt623.1, (floatOfInt .f64 bt619.1, floatOfInt .f64 bt621.1), false))))) = some (r1, r2, r3) := h
 clear h
 replace H := Option.bind_eq_some_iff.mp H
 obtain ⟨⟨t619, t620⟩, A40, H⟩ := H
 replace H : ((slice_Axis.f k a2.2 a1).bind fun bt621 => ((points_Label.f k a0 (floatOfInt .f64 t619, floatOfInt .f64 bt621.1)).bind fun bt623 => (some (bt623.1, (floatOfInt .f64 t619, floatOfInt .f64 bt621.1), false)))) = some (r1, r2, r3) := H
 have A4 := Aside0.mk A40
 clear A40
 replace H := Option.bind_eq_some_iff.mp H
 obtain ⟨⟨t621, t622⟩, A50, H⟩ := H
 replace H : ((points_Label.f k a0 (floatOfInt .f64 t619, floatOfInt .f64 t621)).bind fun bt623 => (some (bt623.1, (floatOfInt .f64 t619, floatOfInt .f64 t621), false))) = some (r1, r2, r3) := H
 have A5 := Aside0.mk A50
 clear A50
 replace H := Option.bind_eq_some_iff.mp H
 obtain ⟨⟨t623, t624⟩, A60, H⟩ := H
 replace H : (some (t623, (floatOfInt .f64 t619, floatOfInt .f64 t621), false)) = some (r1, r2, r3) := H
 have A6 := Aside0.mk A60
 clear A60
 simp only [Option.some.injEq, Prod.mk.injEq] at H
 obtain ⟨rfl, rfl, rfl⟩ := H
 go_enter Try.func166, Try.ntmps166
 go_wp2_with (first | ((with_reducible refine gate_dst (N := 6) rfl ?_); refine box_event ?hg (N := 6) ?hd (cs := #[.int .i64 0, .complex .f64 0 0, .bool false]) (t := 83) ?hr ?_; (case hd => rfl); (case hg => rfl); (case hr => first | (go_simp; done) | (go_simp; rfl)); intro gb618 hg w7 hbox hb; have n0_ := Aside0.mk (below_step (by repeat (first | (with_reducible first | exact HB.out | apply below_alloc | apply pw_below_drewN | apply below_drew1) | exact HB.out)) hb); have n1_ := Aside0.mk (hbox); have n2_ := Aside0.mk ((by rw [hg]; exact (below_size (by repeat (first | (with_reducible first | exact HB.out | apply below_alloc | apply pw_below_drewN | apply below_drew1) | exact HB.out))) : w.heap.size ≤ gb618)); have n3_ := Aside0.mk ((by rw [hg]; exact (below_size (by repeat (first | (with_reducible first | exact HB.out | apply below_alloc | apply pw_below_drewN | apply below_drew1) | exact HB.out))) : w.heap.size ≤ gb618)); clear HB; have HB := n0_; have BK618 := n1_; have GW618 := n2_; have GE618 := n3_; clear n0_ n1_ n2_ n3_; clear hb hbox hg) | ((with_reducible refine gate_callee (f := 47) rfl ?_); refine goesL_ (some 18) rfl rfl Try.func47 (by kernel_rfl) rfl #[.float .f64 a2.1, .int .i64 a1] rfl (by (try simp only [List.map_toArray, List.map_cons, List.map_nil]); first | done | rfl | (simp only [List.length_drop, List.length_take]; rfl)) ?_; (with_reducible refine (slice_Axis.calls k a2.1 a1 t619 t620 _ A4.out).mono ?_); rintro e w8 ⟨rfl, hb⟩; refine ⟨_, rfl, ?_⟩; have n0_ := Aside0.mk (blk_below (g := gb618) (o := .cells #[.int .i64 0, .complex .f64 0 0, .bool false] 83 (0, 0)) (by (with_reducible repeat (first | refine blk_drewN ?_ _ | refine blk_drew ?_ | refine blk_alloc ?_ _)); exact BK618.out) hb); have n1_ := Aside0.mk (below_step (by repeat (first | (with_reducible first | exact HB.out | apply below_alloc | apply pw_below_drewN | apply below_drew1 | refine below_set ?_ GE618.out) | exact HB.out)) hb); clear BK618; clear HB; have BK618 := n0_; have HB := n1_; clear n0_ n1_; (try clear hb); (try clear hb2); (try clear hk); (try clear hi)) | ((with_reducible refine gate_callee (f := 47) rfl ?_); refine goesL_ (some 25) rfl rfl Try.func47 (by kernel_rfl) rfl #[.float .f64 a2.2, .int .i64 a1] rfl (by (try simp only [List.map_toArray, List.map_cons, List.map_nil]); first | done | rfl | (simp only [List.length_drop, List.length_take]; rfl)) ?_; (with_reducible refine (slice_Axis.calls k a2.2 a1 t621 t622 _ A5.out).mono ?_); rintro e w9 ⟨rfl, hb⟩; refine ⟨_, rfl, ?_⟩; have n0_ := Aside0.mk (blk_below (g := gb618) (o := .cells #[.int .i64 0, .complex .f64 0 0, .bool false] 83 (0, 0)) (by (with_reducible repeat (first | refine blk_drewN ?_ _ | refine blk_drew ?_ | refine blk_alloc ?_ _)); exact BK618.out) hb); have n1_ := Aside0.mk (below_step (by repeat (first | (with_reducible first | exact HB.out | apply below_alloc | apply pw_below_drewN | apply below_drew1 | refine below_set ?_ GE618.out) | exact HB.out)) hb); clear BK618; clear HB; have BK618 := n0_; have HB := n1_; clear n0_ n1_; (try clear hb); (try clear hb2); (try clear hk); (try clear hi)) | ((with_reducible refine gate_callee (f := 176) rfl ?_); refine goesL_ (some 36) rfl rfl Try.func176 (by kernel_rfl) rfl #[.int .i64 a0, .complex .f64 (floatOfInt .f64 t619) (floatOfInt .f64 t621)] rfl (by (try simp only [List.map_toArray, List.map_cons, List.map_nil]); first | done | rfl | (simp only [List.length_drop, List.length_take]; rfl)) ?_; (with_reducible refine (points_Label.calls k a0 (floatOfInt .f64 t619, floatOfInt .f64 t621) t623 t624 _ A6.out).mono ?_); rintro e w10 ⟨rfl, hb⟩; refine ⟨_, rfl, ?_⟩; have n0_ := Aside0.mk (blk_below (g := gb618) (o := .cells #[.int .i64 0, .complex .f64 0 0, .bool false] 83 (0, 0)) (by (with_reducible repeat (first | refine blk_drewN ?_ _ | refine blk_drew ?_ | refine blk_alloc ?_ _)); exact BK618.out) hb); have n1_ := Aside0.mk (below_step (by repeat (first | (with_reducible first | exact HB.out | apply below_alloc | apply pw_below_drewN | apply below_drew1 | refine below_set ?_ GE618.out) | exact HB.out)) hb); clear BK618; clear HB; have BK618 := n0_; have HB := n1_; clear n0_ n1_; (try clear hb); (try clear hb2); (try clear hk); (try clear hi); have hcz11_0 : w10.cell? ⟨gb618, 0, none⟩ = some (.int .i64 0) := (blk_cell BK618.out 0).trans rfl; have hcz11_1 : w10.cell? ⟨gb618, 1, none⟩ = some (.complex .f64 0 0) := (blk_cell BK618.out 1).trans rfl; have hcz11_2 : w10.cell? ⟨gb618, 2, none⟩ = some (.bool false) := (blk_cell BK618.out 2).trans rfl; have hfz11_0 := blk_frozen BK618.out 0; have hfz11_1 := blk_frozen BK618.out 1; have hfz11_2 := blk_frozen BK618.out 2))
 refine bodyPost_ret (results_cell_row rfl _ _ gb618 83 #[.int .i64 t623, .complex .f64 (floatOfInt .f64 t619) (floatOfInt .f64 t621), .bool false] (0, 0) _ rfl (by (with_reducible repeat (first | refine blk_drewN ?_ _ | refine blk_drew ?_ | refine blk_alloc ?_ _)); refine blk_put (cs := #[.int .i64 t623, .complex .f64 (floatOfInt .f64 t619) (floatOfInt .f64 t621), .bool false]) ?_ 2 _ rfl; (with_reducible repeat (first | refine blk_drewN ?_ _ | refine blk_drew ?_ | refine blk_alloc ?_ _)); refine blk_put (cs := #[.int .i64 t623, .complex .f64 0 0, .bool false]) ?_ 1 _ rfl; (with_reducible repeat (first | refine blk_drewN ?_ _ | refine blk_drew ?_ | refine blk_alloc ?_ _)); refine blk_put (cs := #[.int .i64 0, .complex .f64 0 0, .bool false]) ?_ 0 _ rfl; (with_reducible repeat (first | refine blk_drewN ?_ _ | refine blk_drew ?_ | refine blk_alloc ?_ _)); exact BK618.out) Try.underlying83 rfl (by kernel_rfl)) rfl ?_
 exact ⟨by first | rfl | (simp [errW_none, errW_some] <;> rfl) | (simp [*, errW_none, errW_some] <;> rfl), by repeat (first | (with_reducible first | exact HB.out | apply below_alloc | apply pw_below_drewN | apply below_drew1 | refine below_set ?_ GE618.out) | exact HB.out)⟩
set_option maxHeartbeats 8000000 in
set_option maxRecDepth 100000 in
theorem slice_nearest.calls (k : Nat) (a0 : Int) (a1 : Int) (a2 : (Nat × Nat)) (r1 : Int) (r2 : (Nat × Nat)) (r3 : Bool) (w : World) (h : slice_nearest.f k a0 a1 a2 = some (r1, r2, r3)) :
  Calls Try.prog 167 #[.int .i64 a0, .int .i64 a1, .complex .f64 a2.1 a2.2] w fun e w' => e = .returned (.agg #[.int .i64 r1, .complex .f64 r2.1 r2.2, .bool r3]) ∧ Below w.heap.size w w' := by
 have hu83 := Try.underlying83
 have HB := Aside0.mk (Below.refl w.heap.size w)
 have H : ((points_All.f a0).bind fun bt626 => ((slice_cut.f a2 a1).bind fun t630 => ((math_Inf.f 1).bind fun t631 => (slice_nearest.l0 k t630 t631 bt626.1 (bt626.1.length : Int) 0 0 (0, 0) false)))) = some (r1, r2, r3) := h
 clear h
 replace H := Option.bind_eq_some_iff.mp H
 obtain ⟨⟨t626, t627⟩, A40, H⟩ := H
 replace H : ((slice_cut.f a2 a1).bind fun t630 => ((math_Inf.f 1).bind fun t631 => (slice_nearest.l0 k t630 t631 t626 (t626.length : Int) 0 0 (0, 0) false))) = some (r1, r2, r3) := H
 have A4 := Aside0.mk A40
 clear A40
 replace H := Option.bind_eq_some_iff.mp H
 obtain ⟨t630, A50, H⟩ := H
 replace H : ((math_Inf.f 1).bind fun t631 => (slice_nearest.l0 k t630 t631 t626 (t626.length : Int) 0 0 (0, 0) false)) = some (r1, r2, r3) := H
 have A5 := Aside0.mk A50
 clear A50
 replace H := Option.bind_eq_some_iff.mp H
 obtain ⟨t631, A60, H⟩ := H
 replace H : (slice_nearest.l0 k t630 t631 t626 (t626.length : Int) 0 0 (0, 0) false) = some (r1, r2, r3) := H
 have A6 := Aside0.mk A60
 clear A60
 have H' := Aside0.mk H
 clear H
 go_enter Try.func167, Try.ntmps167
 go_wp2_with (first | ((with_reducible refine gate_dst (N := 6) rfl ?_); refine box_event ?hg (N := 6) ?hd (cs := #[.int .i64 0, .complex .f64 0 0, .bool false]) (t := 83) ?hr ?_; (case hd => rfl); (case hg => rfl); (case hr => first | (go_simp; done) | (go_simp; rfl)); intro gb625 hg w7 hbox hb; have n0_ := Aside0.mk (below_step (by repeat (first | (with_reducible first | exact HB.out | apply below_alloc | apply pw_below_drewN | apply below_drew1) | exact HB.out)) hb); have n1_ := Aside0.mk (hbox); have n2_ := Aside0.mk ((by rw [hg]; exact (below_size (by repeat (first | (with_reducible first | exact HB.out | apply below_alloc | apply pw_below_drewN | apply below_drew1) | exact HB.out))) : w.heap.size ≤ gb625)); have n3_ := Aside0.mk ((by rw [hg]; exact (below_size (by repeat (first | (with_reducible first | exact HB.out | apply below_alloc | apply pw_below_drewN | apply below_drew1) | exact HB.out))) : w.heap.size ≤ gb625)); clear HB; have HB := n0_; have BK625 := n1_; have GW625 := n2_; have GE625 := n3_; clear n0_ n1_ n2_ n3_; clear hb hbox hg) | ((with_reducible refine gate_callee (f := 56) rfl ?_); refine goesL_ (some 16) rfl rfl Try.func56 (by kernel_rfl) rfl #[.int .i64 a0] rfl (by (try simp only [List.map_toArray, List.map_cons, List.map_nil]); first | done | rfl | (simp only [List.length_drop, List.length_take]; rfl)) ?_; (with_reducible refine (points_All.calls a0 t626 t627 _ A4.out).mono ?_); rintro e w8 ⟨v628, rfl, ho0, hb⟩; refine ⟨_, rfl, ?_⟩; have n0_ := Aside0.mk (Kd.R_lower ho0 (below_size (by repeat (first | (with_reducible first | exact HB.out | apply below_alloc | apply pw_below_drewN | apply below_drew1 | refine below_set ?_ GE625.out) | exact HB.out)))); have n1_ := Aside0.mk (blk_below (g := gb625) (o := .cells #[.int .i64 0, .complex .f64 0 0, .bool false] 83 (0, 0)) (by (with_reducible repeat (first | refine blk_drewN ?_ _ | refine blk_drew ?_ | refine blk_alloc ?_ _)); exact BK625.out) hb); have n2_ := Aside0.mk (below_step (by repeat (first | (with_reducible first | exact HB.out | apply below_alloc | apply pw_below_drewN | apply below_drew1 | refine below_set ?_ GE625.out) | exact HB.out)) hb); clear BK625; clear HB; have HO629 := n0_; have BK625 := n1_; have HB := n2_; clear n0_ n1_ n2_; (try clear hb); (try clear hb2); (try clear hk); (try clear hi); (try clear ho0)) | ((with_reducible refine gate_callee (f := 120) rfl ?_); refine goesL_ (some 21) rfl rfl Try.func120 (by kernel_rfl) rfl #[.complex .f64 a2.1 a2.2, .int .i64 a1] rfl (by (try simp only [List.map_toArray, List.map_cons, List.map_nil]); first | done | rfl | (simp only [List.length_drop, List.length_take]; rfl)) ?_; (with_reducible refine (slice_cut.calls a2 a1 t630 _ A5.out).mono ?_); rintro e w9 ⟨rfl, hb⟩; refine ⟨_, rfl, ?_⟩; have n0_ := Aside0.mk (Kd.R_below (by (with_reducible repeat (first | apply Kd.R_alloc | apply Kd.R_drewN | apply Kd.R_drew)); exact HO629.out) hb); have n1_ := Aside0.mk (blk_below (g := gb625) (o := .cells #[.int .i64 0, .complex .f64 0 0, .bool false] 83 (0, 0)) (by (with_reducible repeat (first | refine blk_drewN ?_ _ | refine blk_drew ?_ | refine blk_alloc ?_ _)); exact BK625.out) hb); have n2_ := Aside0.mk (below_step (by repeat (first | (with_reducible first | exact HB.out | apply below_alloc | apply pw_below_drewN | apply below_drew1 | refine below_set ?_ GE625.out) | exact HB.out)) hb); clear HO629; clear BK625; clear HB; have HO629 := n0_; have BK625 := n1_; have HB := n2_; clear n0_ n1_ n2_; (try clear hb); (try clear hb2); (try clear hk); (try clear hi)) | ((with_reducible refine gate_callee (f := 76) rfl ?_); refine goesL_ (some 23) rfl rfl Try.func76 (by kernel_rfl) rfl #[.int .i64 1] rfl (by (try simp only [List.map_toArray, List.map_cons, List.map_nil]); first | done | rfl | (simp only [List.length_drop, List.length_take]; rfl)) ?_; (with_reducible refine (math_Inf.calls 1 t631 _ A6.out).mono ?_); rintro e w' ⟨rfl, ⟨nd, rfl⟩⟩; refine ⟨_, rfl, ?_⟩; (try (rw [drewN_self w9]; generalize hq_ : World.drewN w9 _ = w9; have n0_ : Aside0 (Kd.R Kd.cplx 32 w9 w.heap.size (fun _ => True) v628 t626) := ⟨by rw [← hq_]; exact (by (with_reducible repeat (first | apply Kd.R_alloc | apply Kd.R_drewN | apply Kd.R_drew)); exact HO629.out)⟩; have n1_ : Aside0 (w9.heap[gb625]? = some (.cells #[.int .i64 0, .complex .f64 0 0, .bool false] 83 (0, 0))) := ⟨by rw [← hq_]; exact (by (with_reducible repeat (first | refine blk_drewN ?_ _ | refine blk_drew ?_ | refine blk_alloc ?_ _)); exact BK625.out)⟩; have n2_ : Aside0 (Below w.heap.size w w9) := ⟨by rw [← hq_]; exact (by repeat (first | (with_reducible first | exact HB.out | apply below_alloc | apply pw_below_drewN | apply below_drew1 | refine below_set ?_ GE625.out) | exact HB.out))⟩; clear HO629 BK625 HB hq_; have HO629 := n0_; have BK625 := n1_; have HB := n2_; clear n0_ n1_ n2_))) | ((with_reducible refine gate_dst (N := 9) rfl ?_); refine box_event ?hg (N := 9) ?hd (cs := #[.int .i64 0, .complex .f64 0 0, .bool false]) (t := 83) ?hr ?_; (case hd => rfl); (case hg => rfl); (case hr => first | (go_simp; done) | (go_simp; rfl)); intro gb632 hg w10 hbox hb; have n0_ := Aside0.mk (Kd.R_below (by (with_reducible repeat (first | apply Kd.R_alloc | apply Kd.R_drewN | apply Kd.R_drew)); exact HO629.out) hb); have n1_ := Aside0.mk (blk_below (g := gb625) (o := .cells #[.int .i64 0, .complex .f64 0 0, .bool false] 83 (0, 0)) (by (with_reducible repeat (first | refine blk_drewN ?_ _ | refine blk_drew ?_ | refine blk_alloc ?_ _)); exact BK625.out) hb); have n2_ := Aside0.mk (below_step (by repeat (first | (with_reducible first | exact HB.out | apply below_alloc | apply pw_below_drewN | apply below_drew1 | refine below_set ?_ GE625.out) | exact HB.out)) hb); have n3_ := Aside0.mk (hbox); have n4_ := Aside0.mk ((by rw [hg]; exact (below_size (by repeat (first | (with_reducible first | exact HB.out | apply below_alloc | apply pw_below_drewN | apply below_drew1 | refine below_set ?_ GE625.out) | exact HB.out))) : w.heap.size ≤ gb632)); have n5_ := Aside0.mk ((by rw [hg]; exact (below_size (by repeat (first | (with_reducible first | exact HB.out | apply below_alloc | apply pw_below_drewN | apply below_drew1 | refine below_set ?_ GE625.out) | exact HB.out))) : w.heap.size ≤ gb632)); have n6_ := Aside0.mk ((by rw [hg]; exact Nat.ne_of_lt (blk_lt (g := gb625) (o := .cells #[.int .i64 0, .complex .f64 0 0, .bool false] 83 (0, 0)) (by (with_reducible repeat (first | refine blk_drewN ?_ _ | refine blk_drew ?_ | refine blk_alloc ?_ _)); exact BK625.out)) : gb625 ≠ gb632)); have n7_ := Aside0.mk ((by rw [hg]; exact Nat.ne_of_gt (blk_lt (g := gb625) (o := .cells #[.int .i64 0, .complex .f64 0 0, .bool false] 83 (0, 0)) (by (with_reducible repeat (first | refine blk_drewN ?_ _ | refine blk_drew ?_ | refine blk_alloc ?_ _)); exact BK625.out)) : gb632 ≠ gb625)); clear HO629; clear BK625; clear HB; have HO629 := n0_; have BK625 := n1_; have HB := n2_; have BK632 := n3_; have GW632 := n4_; have GE632 := n5_; have NB625_632 := n6_; have NB632_625 := n7_; clear n0_ n1_ n2_ n3_ n4_ n5_ n6_ n7_; clear hb hbox hg; have hnb11 := NB632_625.out; have hnc11 := NB625_632.out; have hcz12_0 : w10.cell? ⟨gb632, 0, none⟩ = some (.int .i64 0) := (blk_cell BK632.out 0).trans rfl; have hcz12_1 : w10.cell? ⟨gb632, 1, none⟩ = some (.complex .f64 0 0) := (blk_cell BK632.out 1).trans rfl; have hcz12_2 : w10.cell? ⟨gb632, 2, none⟩ = some (.bool false) := (blk_cell BK632.out 2).trans rfl; have hfz12_0 := blk_frozen BK632.out 0; have hfz12_1 := blk_frozen BK632.out 1; have hfz12_2 := blk_frozen BK632.out 2; obtain ⟨Ao13, co13, eo13⟩ := Kd.R_slice HO629.out; subst eo13))
 go_loopg [10, 26] k (fun kq v10 v26 w' => ∃ (x10_1 : Nat) (x26_1 : Int) (x633000_1 : Int) (x633001_1 : (Nat × Nat)) (x633002_1 : Bool), v10 = .float .f64 x10_1 ∧ v26 = .int .i64 x26_1 ∧ Aside0 (slice_nearest.l0 kq t630 x10_1 t626 (t626.length : Int) x26_1 x633000_1 x633001_1 x633002_1 = some (r1, r2, r3)) ∧ Aside0 (kq ≤ k) ∧ Aside0 (Kd.R Kd.cplx 32 w' w.heap.size (fun _ => True) (.slice Ao13 t626.length co13) t626) ∧ Aside0 (w'.heap[gb625]? = some (.cells #[.int .i64 0, .complex .f64 0 0, .bool false] 83 (0, 0))) ∧ Aside0 (w'.heap[gb632]? = some (.cells #[.int .i64 x633000_1, .complex .f64 x633001_1.1 x633001_1.2, .bool x633002_1] 83 (0, 0))) ∧ Aside0 (Below w.heap.size w w'))
 case atStart => exact ⟨(t631), (0), (0), ((0, 0)), (false), (by first | rfl | (simp; done) | (simp [*]; done)), (by first | rfl | (simp; done) | (simp [*]; done)), H', ⟨Nat.le_refl _⟩, ⟨by (with_reducible repeat (first | apply Kd.R_alloc | apply Kd.R_drewN | apply Kd.R_drew)); exact Kd.R_mono (Kd.R_far (p := ⟨gb632, 2, none⟩) (Kd.R_far (p := ⟨gb632, 1, none⟩) (Kd.R_far (p := ⟨gb632, 0, none⟩) (Kd.R_types HO629.out BK632.out (by decide)) (fun _ hk => hk.2) (.int .i64 0)) (fun _ hk => hk.2) (.complex .f64 0 0)) (fun _ hk => hk.2) (.bool false)) (fun _ hk => trivial)⟩, ⟨by (with_reducible repeat (first | refine blk_drewN ?_ _ | refine blk_drew ?_ | refine blk_alloc ?_ _)); refine blk_far ?_ NB625_632.out _; (with_reducible repeat (first | refine blk_drewN ?_ _ | refine blk_drew ?_ | refine blk_alloc ?_ _)); refine blk_far ?_ NB625_632.out _; (with_reducible repeat (first | refine blk_drewN ?_ _ | refine blk_drew ?_ | refine blk_alloc ?_ _)); refine blk_far ?_ NB625_632.out _; (with_reducible repeat (first | refine blk_drewN ?_ _ | refine blk_drew ?_ | refine blk_alloc ?_ _)); exact BK625.out⟩, ⟨by (with_reducible repeat (first | refine blk_drewN ?_ _ | refine blk_drew ?_ | refine blk_alloc ?_ _)); refine blk_put (cs := #[.int .i64 0, .complex .f64 0 0, .bool false]) ?_ 2 _ rfl; (with_reducible repeat (first | refine blk_drewN ?_ _ | refine blk_drew ?_ | refine blk_alloc ?_ _)); refine blk_put (cs := #[.int .i64 0, .complex .f64 0 0, .bool false]) ?_ 1 _ rfl; (with_reducible repeat (first | refine blk_drewN ?_ _ | refine blk_drew ?_ | refine blk_alloc ?_ _)); refine blk_put (cs := #[.int .i64 0, .complex .f64 0 0, .bool false]) ?_ 0 _ rfl; (with_reducible repeat (first | refine blk_drewN ?_ _ | refine blk_drew ?_ | refine blk_alloc ?_ _)); exact BK632.out⟩, ⟨by repeat (first | (with_reducible first | exact HB.out | apply below_alloc | apply pw_below_drewN | apply below_drew1 | refine below_set ?_ GE625.out | refine below_set ?_ GE632.out) | exact HB.out)⟩⟩
 case round =>
  clear H'
  try clear c1
  try clear p2
  try clear c5
  try clear c7
  try clear c11
  try clear c12
  try clear hcz12_0
  try clear hcz12_1
  try clear hcz12_2
  try clear hfz12_0
  try clear hfz12_1
  try clear hfz12_2
  obtain ⟨x10_1, x26_1, x633000_1, x633001_1, x633002_1, rfl, rfl, HA, HK1, HO_24, BK625, BK632, HB⟩ := hrel
  cases gk with
  | zero => exact absurd HA.out (by simp [slice_nearest.l0])
  | succ k1 =>
   have H := HA.out
   clear HA
   simp only [slice_nearest.l0] at H
   by_cases c14 : x26_1 < (t626.length : Int)
   ·rw [if_pos c14] at H
    have c14b0 : decide (x26_1 < (t626.length : Int)) = true := decide_eq_true c14
    clear c14
    by_cases c15 : 0 ≤ x26_1
    ·rw [if_pos c15] at H
     have c15b0 : decide (0 ≤ x26_1) = true := decide_eq_true c15
     clear c15
     by_cases c16 : x26_1 < (t626.length : Int)
     ·rw [if_pos c16] at H
      have c16b0 : decide (x26_1 < (t626.length : Int)) = true := decide_eq_true c16
      clear c16
      replace H := Option.bind_eq_some_iff.mp H
      obtain ⟨t634, A170, H⟩ := H
      replace H : (if (FloatKind.f64.format.order t634 x10_1 == some .lt) = true then (slice_nearest.l0 k1 t630 t634 t626 (t626.length : Int) (wrap64 (x26_1 + 1)) x26_1 (rdOf (0, 0) t626 x26_1) false) else (slice_nearest.l0 k1 t630 x10_1 t626 (t626.length : Int) (wrap64 (x26_1 + 1)) x633000_1 x633001_1 x633002_1)) = some (r1, r2, r3) := H
      have A17 := Aside0.mk A170
      clear A170
      by_cases c18 : (FloatKind.f64.format.order t634 x10_1 == some .lt) = true
      ·rw [if_pos c18] at H
       have c18b0 : (FloatKind.f64.format.order t634 x10_1 == some .lt) = true := c18
       (try (have c18b1 : decide (FloatKind.f64.format.order t634 x10_1 = some .lt) = true := by simpa using c18))
       (try (have c18b2 : (FloatKind.f64.format.order t634 x10_1 == some .lt) = true := by simpa using c18))
       clear c18
       have H' := Aside0.mk H
       clear H
       have p633 : 0 ≤ (x26_1 : Int) := of_decide_eq_true (by first | (with_reducible assumption) | assumption)
       have q633 : x26_1 < (t626.length : Int) := of_decide_eq_true (by first | (with_reducible assumption) | assumption)
       obtain ⟨ad633, e633, hx633_0⟩ := Kd.at_cplx (Kd.R_reads' HO_24.out).2.2 x26_1 p633 q633
       cases e633
       replace p633 := eq_true p633
       replace q633 := eq_true q633
       go_wp2_with ((with_reducible refine gate_callee (f := 123) rfl ?_); refine goesL_ (some 33) rfl rfl Try.func123 (by kernel_rfl) rfl #[.complex .f64 t630.1 t630.2, .complex .f64 ((rdOf (0, 0) t626 x26_1).1) ((rdOf (0, 0) t626 x26_1).2)] rfl (by (try simp only [List.map_toArray, List.map_cons, List.map_nil]); first | done | rfl | (simp only [List.length_drop, List.length_take]; rfl)) ?_; (with_reducible refine (slice_gap.calls t630 (rdOf (0, 0) t626 x26_1) t634 _ A17.out).mono ?_); rintro e w19 ⟨rfl, hb⟩; refine ⟨_, rfl, ?_⟩; have n0_ := Aside0.mk (Kd.R_below (by (with_reducible repeat (first | apply Kd.R_alloc | apply Kd.R_drewN | apply Kd.R_drew)); exact HO_24.out) hb); have n1_ := Aside0.mk (blk_below (g := gb625) (o := .cells #[.int .i64 0, .complex .f64 0 0, .bool false] 83 (0, 0)) (by (with_reducible repeat (first | refine blk_drewN ?_ _ | refine blk_drew ?_ | refine blk_alloc ?_ _)); exact BK625.out) hb); have n2_ := Aside0.mk (blk_below (g := gb632) (o := .cells #[.int .i64 x633000_1, .complex .f64 x633001_1.1 x633001_1.2, .bool x633002_1] 83 (0, 0)) (by (with_reducible repeat (first | refine blk_drewN ?_ _ | refine blk_drew ?_ | refine blk_alloc ?_ _)); exact BK632.out) hb); have n3_ := Aside0.mk (below_step (by repeat (first | (with_reducible first | exact HB.out | apply below_alloc | apply pw_below_drewN | apply below_drew1 | refine below_set ?_ GE625.out | refine below_set ?_ GE632.out) | exact HB.out)) hb); clear HO_24; clear BK625; clear BK632; clear HB; have HO_24 := n0_; have BK625 := n1_; have BK632 := n2_; have HB := n3_; clear n0_ n1_ n2_ n3_; (try clear hb); (try clear hb2); (try clear hk); (try clear hi); have hnb20 := NB632_625.out; have hnc20 := NB625_632.out; have hcz21_0 : w19.cell? ⟨gb632, 0, none⟩ = some (.int .i64 x633000_1) := (blk_cell BK632.out 0).trans rfl; have hcz21_1 : w19.cell? ⟨gb632, 1, none⟩ = some (.complex .f64 x633001_1.1 x633001_1.2) := (blk_cell BK632.out 1).trans rfl; have hcz21_2 : w19.cell? ⟨gb632, 2, none⟩ = some (.bool x633002_1) := (blk_cell BK632.out 2).trans rfl; have hfz21_0 := blk_frozen BK632.out 0; have hfz21_1 := blk_frozen BK632.out 1; have hfz21_2 := blk_frozen BK632.out 2)
       first | go_roundg k1 | (simp only [add_plain] at *; go_roundg k1)
       case measure => have := HK1.out; omega
       case rel => exact ⟨(t634), (wrap64 (x26_1 + 1)), (x26_1), (rdOf (0, 0) t626 x26_1), (false), (by first | rfl | (simp; done) | (simp [*]; done)), (by first | rfl | (simp; done) | (simp [*]; done)), H', ⟨by have := HK1.out; omega⟩, ⟨by (with_reducible repeat (first | apply Kd.R_alloc | apply Kd.R_drewN | apply Kd.R_drew)); exact Kd.R_mono (Kd.R_far (p := ⟨gb632, 2, none⟩) (Kd.R_far (p := ⟨gb632, 1, none⟩) (Kd.R_far (p := ⟨gb632, 0, none⟩) (Kd.R_types HO_24.out BK632.out (by decide)) (fun _ hk => hk.2) (.int .i64 x26_1)) (fun _ hk => hk.2) (.complex .f64 ((rdOf (0, 0) t626 x26_1).1) ((rdOf (0, 0) t626 x26_1).2))) (fun _ hk => hk.2) (.bool false)) (fun _ hk => trivial)⟩, ⟨by (with_reducible repeat (first | refine blk_drewN ?_ _ | refine blk_drew ?_ | refine blk_alloc ?_ _)); refine blk_far ?_ NB625_632.out _; (with_reducible repeat (first | refine blk_drewN ?_ _ | refine blk_drew ?_ | refine blk_alloc ?_ _)); refine blk_far ?_ NB625_632.out _; (with_reducible repeat (first | refine blk_drewN ?_ _ | refine blk_drew ?_ | refine blk_alloc ?_ _)); refine blk_far ?_ NB625_632.out _; (with_reducible repeat (first | refine blk_drewN ?_ _ | refine blk_drew ?_ | refine blk_alloc ?_ _)); exact BK625.out⟩, ⟨by (with_reducible repeat (first | refine blk_drewN ?_ _ | refine blk_drew ?_ | refine blk_alloc ?_ _)); refine blk_put (cs := #[.int .i64 x26_1, .complex .f64 ((rdOf (0, 0) t626 x26_1).1) ((rdOf (0, 0) t626 x26_1).2), .bool x633002_1]) ?_ 2 _ rfl; (with_reducible repeat (first | refine blk_drewN ?_ _ | refine blk_drew ?_ | refine blk_alloc ?_ _)); refine blk_put (cs := #[.int .i64 x26_1, .complex .f64 x633001_1.1 x633001_1.2, .bool x633002_1]) ?_ 1 _ rfl; (with_reducible repeat (first | refine blk_drewN ?_ _ | refine blk_drew ?_ | refine blk_alloc ?_ _)); refine blk_put (cs := #[.int .i64 x633000_1, .complex .f64 x633001_1.1 x633001_1.2, .bool x633002_1]) ?_ 0 _ rfl; (with_reducible repeat (first | refine blk_drewN ?_ _ | refine blk_drew ?_ | refine blk_alloc ?_ _)); exact BK632.out⟩, ⟨by repeat (first | (with_reducible first | exact HB.out | apply below_alloc | apply pw_below_drewN | apply below_drew1 | refine below_set ?_ GE625.out | refine below_set ?_ GE632.out) | exact HB.out)⟩⟩
      ·rw [if_neg c18] at H
       have c18b0 : (FloatKind.f64.format.order t634 x10_1 == some .lt) = false := by simpa using c18
       (try (have c18b1 : decide (FloatKind.f64.format.order t634 x10_1 = some .lt) = false := by simpa using c18))
       (try (have c18b2 : (FloatKind.f64.format.order t634 x10_1 == some .lt) = false := by simpa using c18))
       (try (have c18b3 : ¬ (FloatKind.f64.format.order t634 x10_1 = some .lt) := by simpa using c18))
       clear c18
       have H' := Aside0.mk H
       clear H
       have p633 : 0 ≤ (x26_1 : Int) := of_decide_eq_true (by first | (with_reducible assumption) | assumption)
       have q633 : x26_1 < (t626.length : Int) := of_decide_eq_true (by first | (with_reducible assumption) | assumption)
       obtain ⟨ad633, e633, hx633_0⟩ := Kd.at_cplx (Kd.R_reads' HO_24.out).2.2 x26_1 p633 q633
       cases e633
       replace p633 := eq_true p633
       replace q633 := eq_true q633
       go_wp2_with ((with_reducible refine gate_callee (f := 123) rfl ?_); refine goesL_ (some 33) rfl rfl Try.func123 (by kernel_rfl) rfl #[.complex .f64 t630.1 t630.2, .complex .f64 ((rdOf (0, 0) t626 x26_1).1) ((rdOf (0, 0) t626 x26_1).2)] rfl (by (try simp only [List.map_toArray, List.map_cons, List.map_nil]); first | done | rfl | (simp only [List.length_drop, List.length_take]; rfl)) ?_; (with_reducible refine (slice_gap.calls t630 (rdOf (0, 0) t626 x26_1) t634 _ A17.out).mono ?_); rintro e w22 ⟨rfl, hb⟩; refine ⟨_, rfl, ?_⟩; have n0_ := Aside0.mk (Kd.R_below (by (with_reducible repeat (first | apply Kd.R_alloc | apply Kd.R_drewN | apply Kd.R_drew)); exact HO_24.out) hb); have n1_ := Aside0.mk (blk_below (g := gb625) (o := .cells #[.int .i64 0, .complex .f64 0 0, .bool false] 83 (0, 0)) (by (with_reducible repeat (first | refine blk_drewN ?_ _ | refine blk_drew ?_ | refine blk_alloc ?_ _)); exact BK625.out) hb); have n2_ := Aside0.mk (blk_below (g := gb632) (o := .cells #[.int .i64 x633000_1, .complex .f64 x633001_1.1 x633001_1.2, .bool x633002_1] 83 (0, 0)) (by (with_reducible repeat (first | refine blk_drewN ?_ _ | refine blk_drew ?_ | refine blk_alloc ?_ _)); exact BK632.out) hb); have n3_ := Aside0.mk (below_step (by repeat (first | (with_reducible first | exact HB.out | apply below_alloc | apply pw_below_drewN | apply below_drew1 | refine below_set ?_ GE625.out | refine below_set ?_ GE632.out) | exact HB.out)) hb); clear HO_24; clear BK625; clear BK632; clear HB; have HO_24 := n0_; have BK625 := n1_; have BK632 := n2_; have HB := n3_; clear n0_ n1_ n2_ n3_; (try clear hb); (try clear hb2); (try clear hk); (try clear hi))
       first | go_roundg k1 | (simp only [add_plain] at *; go_roundg k1)
       case measure => have := HK1.out; omega
       case rel => exact ⟨(x10_1), (wrap64 (x26_1 + 1)), (x633000_1), (x633001_1), (x633002_1), (by first | rfl | (simp; done) | (simp [*]; done)), (by first | rfl | (simp; done) | (simp [*]; done)), H', ⟨by have := HK1.out; omega⟩, ⟨by (with_reducible repeat (first | apply Kd.R_alloc | apply Kd.R_drewN | apply Kd.R_drew)); exact HO_24.out⟩, ⟨by (with_reducible repeat (first | refine blk_drewN ?_ _ | refine blk_drew ?_ | refine blk_alloc ?_ _)); exact BK625.out⟩, ⟨by (with_reducible repeat (first | refine blk_drewN ?_ _ | refine blk_drew ?_ | refine blk_alloc ?_ _)); exact BK632.out⟩, ⟨by repeat (first | (with_reducible first | exact HB.out | apply below_alloc | apply pw_below_drewN | apply below_drew1 | refine below_set ?_ GE625.out | refine below_set ?_ GE632.out) | exact HB.out)⟩⟩
     ·rw [if_neg c16] at H
      exact absurd H (by simp)
    ·rw [if_neg c15] at H
     exact absurd H (by simp)
   ·rw [if_neg c14] at H
    have c14b0 : decide (x26_1 < (t626.length : Int)) = false := decide_eq_false c14
    clear c14
    simp only [Option.some.injEq, Prod.mk.injEq] at H
    obtain ⟨rfl, rfl, rfl⟩ := H
    have hnb23 := NB632_625.out
    have hnc23 := NB625_632.out
    have hcz24_0 : wr.cell? ⟨gb632, 0, none⟩ = some (.int .i64 x633000_1) := (blk_cell BK632.out 0).trans rfl
    have hcz24_1 : wr.cell? ⟨gb632, 1, none⟩ = some (.complex .f64 x633001_1.1 x633001_1.2) := (blk_cell BK632.out 1).trans rfl
    have hcz24_2 : wr.cell? ⟨gb632, 2, none⟩ = some (.bool x633002_1) := (blk_cell BK632.out 2).trans rfl
    have hfz24_0 := blk_frozen BK632.out 0
    have hfz24_1 := blk_frozen BK632.out 1
    have hfz24_2 := blk_frozen BK632.out 2
    have hcz25_0 : wr.cell? ⟨gb625, 0, none⟩ = some (.int .i64 0) := (blk_cell BK625.out 0).trans rfl
    have hcz25_1 : wr.cell? ⟨gb625, 1, none⟩ = some (.complex .f64 0 0) := (blk_cell BK625.out 1).trans rfl
    have hcz25_2 : wr.cell? ⟨gb625, 2, none⟩ = some (.bool false) := (blk_cell BK625.out 2).trans rfl
    have hfz25_0 := blk_frozen BK625.out 0
    have hfz25_1 := blk_frozen BK625.out 1
    have hfz25_2 := blk_frozen BK625.out 2
    go_wp2
    refine bodyPost_ret (results_cell_row rfl _ _ gb625 83 #[.int .i64 x633000_1, .complex .f64 x633001_1.1 x633001_1.2, .bool x633002_1] (0, 0) _ rfl (by (with_reducible repeat (first | refine blk_drewN ?_ _ | refine blk_drew ?_ | refine blk_alloc ?_ _)); refine blk_put (cs := #[.int .i64 x633000_1, .complex .f64 x633001_1.1 x633001_1.2, .bool false]) ?_ 2 _ rfl; (with_reducible repeat (first | refine blk_drewN ?_ _ | refine blk_drew ?_ | refine blk_alloc ?_ _)); refine blk_put (cs := #[.int .i64 x633000_1, .complex .f64 0 0, .bool false]) ?_ 1 _ rfl; (with_reducible repeat (first | refine blk_drewN ?_ _ | refine blk_drew ?_ | refine blk_alloc ?_ _)); refine blk_put (cs := #[.int .i64 0, .complex .f64 0 0, .bool false]) ?_ 0 _ rfl; (with_reducible repeat (first | refine blk_drewN ?_ _ | refine blk_drew ?_ | refine blk_alloc ?_ _)); exact BK625.out) Try.underlying83 rfl (by kernel_rfl)) rfl ?_
    exact ⟨by first | rfl | (simp [errW_none, errW_some] <;> rfl) | (simp [*, errW_none, errW_some] <;> rfl), by repeat (first | (with_reducible first | exact HB.out | apply below_alloc | apply pw_below_drewN | apply below_drew1 | refine below_set ?_ GE625.out | refine below_set ?_ GE632.out) | exact HB.out)⟩
--WALK
theorem dec_run_store_func {P : Program} (w : World) (a : Addr) (m : Mode) (fn : Fn) (x y : Array Value) : (store a (.func fn x y) m).run P w = stored P w a (.func fn x y) m := run_store P w a _ m rfl
theorem dec_push_set {α : Type} (xs : Array α) (a b : α) : (xs.push a).setIfInBounds xs.size b = xs.push b := by
 apply Array.ext'
 simp
theorem dec_map_make {P : Program} (t : TypeId) (w : World) : (Instr.makeMap t none).run P w = .ok (.map (some w.heap.size)) (w.alloc (.map #[] 0)) := by
 simp [Instr.makeMap, Result.andThen]
theorem dec_map_insert {P : Program} {t k e : TypeId} (ht : P.underlying t = some (.map k e)) (hk : P.underlying k = some (.int .i64)) (w : World) (b : Nat) (n : Int) (v : Value) (es : Array MapEntry) (c : Nat) (hb : b = w.heap.size) (hf : Instr.findNow (.int .i64) (.int .i64 n) es.toList 0 = some none) :
  (Instr.mapUpdate t (.map (some b)) (.int .i64 n) v).run P (w.alloc (.map es c)) = .ok () (w.alloc (.map (es.push ⟨.int .i64 n, v, c⟩) (c + 1))) := by
 subst hb
 have hg : (w.alloc (.map es c)).heap[w.heap.size]? = some (.map es c) := by
  show (w.heap.push _)[w.heap.size]? = _
  simp
 have hck : (Instr.checkKey false 10000 k (.int .i64 n)).run P (w.alloc (.map es c)) = .ok () (w.alloc (.map es c)) := by
  unfold Instr.checkKey
  simp [run_underlying hk, Result.andThen]
 have hfk : (Instr.findKey k (.int .i64 n) es.toList).run P (w.alloc (.map es c)) = .ok none (w.alloc (.map es c)) := by
  unfold Instr.findKey
  simp [run_underlying hk, Result.andThen, hf]
 simp only [Instr.mapUpdate, Sem.run_bind, run_underlying ht, Result.andThen, MapKept.run_getObj_map hg, hck, hfk, MapKept.run_setObj_map _ hg]
 show Result.ok () { w with heap := (w.heap.push _).setIfInBounds w.heap.size _ } = Result.ok () { w with heap := w.heap.push _ }
 rw [dec_push_set]
theorem dec_map_lookup {P : Program} {t k e : TypeId} (ht : P.underlying t = some (.map k e)) (hk : P.underlying k = some (.int .i64)) (w : World) (b : Nat) (n : Int) (v : Value) (j : Nat) (es : Array MapEntry) (c : Nat) (hb : w.heap[b]? = some (.map es c)) (hf : Instr.findNow (.int .i64) (.int .i64 n) es.toList 0 = some (some (j, v))) :
  (Instr.lookup t (.map (some b)) (.int .i64 n) false).run P w = .ok v w := by
 have hck : ∀ e, (Instr.checkKey e 10000 k (.int .i64 n)).run P w = .ok () w := fun e => by
  unfold Instr.checkKey
  simp [run_underlying hk, Result.andThen]
 have hfk : (Instr.findKey k (.int .i64 n) es.toList).run P w = .ok (some (j, v)) w := by
  unfold Instr.findKey
  simp [run_underlying hk, Result.andThen, hf]
 simp [Instr.lookup, run_underlying ht, Result.andThen, MapKept.run_getObj_map hb, hck, hfk]
def dec_ways : Array MapEntry := #[⟨.int .i64 4, .agg #[.func (.func 166) #[] #[]], 0⟩, ⟨.int .i64 16, .agg #[.func (.func 166) #[] #[]], 1⟩, ⟨.int .i64 32, .agg #[.func (.func 167) #[] #[]], 2⟩, ⟨.int .i64 64, .agg #[.func (.func 166) #[] #[]], 3⟩, ⟨.int .i64 128, .agg #[.func (.func 167) #[] #[]], 4⟩, ⟨.int .i64 256, .agg #[.func (.func 166) #[] #[]], 5⟩]
section
attribute [local go_sem] dec_run_store_func dec_map_make
set_option maxRecDepth 10000 in
theorem slice_ways.calls (w : World) :
  Calls Try.prog 154 #[] w fun e w' => ∃ b, e = .returned (.map (some b)) ∧ w'.heap[b]? = some (.map dec_ways 6) ∧ Below w.heap.size w w' := by
 have hu224 := Try.underlying224
 have hi4 : ∀ (w : World) (b : Nat), b = w.heap.size → (Instr.mapUpdate 225 (.map (some b)) (.int .i64 4) (.agg #[.func (.func 166) #[] #[]])).run Try.prog (w.alloc (.map #[] 0)) = .ok () (w.alloc (.map #[⟨.int .i64 4, .agg #[.func (.func 166) #[] #[]], 0⟩] 1)) := fun w b hb => dec_map_insert Try.underlying225 Try.underlying3 w b _ _ _ _ hb rfl
 have hi16 : ∀ (w : World) (b : Nat), b = w.heap.size → (Instr.mapUpdate 225 (.map (some b)) (.int .i64 16) (.agg #[.func (.func 166) #[] #[]])).run Try.prog (w.alloc (.map #[⟨.int .i64 4, .agg #[.func (.func 166) #[] #[]], 0⟩] 1)) = .ok () (w.alloc (.map #[⟨.int .i64 4, .agg #[.func (.func 166) #[] #[]], 0⟩, ⟨.int .i64 16, .agg #[.func (.func 166) #[] #[]], 1⟩] 2)) := fun w b hb => dec_map_insert Try.underlying225 Try.underlying3 w b _ _ _ _ hb rfl
 have hi32 : ∀ (w : World) (b : Nat), b = w.heap.size → (Instr.mapUpdate 225 (.map (some b)) (.int .i64 32) (.agg #[.func (.func 167) #[] #[]])).run Try.prog (w.alloc (.map #[⟨.int .i64 4, .agg #[.func (.func 166) #[] #[]], 0⟩, ⟨.int .i64 16, .agg #[.func (.func 166) #[] #[]], 1⟩] 2)) = .ok () (w.alloc (.map #[⟨.int .i64 4, .agg #[.func (.func 166) #[] #[]], 0⟩, ⟨.int .i64 16, .agg #[.func (.func 166) #[] #[]], 1⟩, ⟨.int .i64 32, .agg #[.func (.func 167) #[] #[]], 2⟩] 3)) := fun w b hb => dec_map_insert Try.underlying225 Try.underlying3 w b _ _ _ _ hb rfl
 have hi64 : ∀ (w : World) (b : Nat), b = w.heap.size → (Instr.mapUpdate 225 (.map (some b)) (.int .i64 64) (.agg #[.func (.func 166) #[] #[]])).run Try.prog (w.alloc (.map #[⟨.int .i64 4, .agg #[.func (.func 166) #[] #[]], 0⟩, ⟨.int .i64 16, .agg #[.func (.func 166) #[] #[]], 1⟩, ⟨.int .i64 32, .agg #[.func (.func 167) #[] #[]], 2⟩] 3)) = .ok () (w.alloc (.map #[⟨.int .i64 4, .agg #[.func (.func 166) #[] #[]], 0⟩, ⟨.int .i64 16, .agg #[.func (.func 166) #[] #[]], 1⟩, ⟨.int .i64 32, .agg #[.func (.func 167) #[] #[]], 2⟩, ⟨.int .i64 64, .agg #[.func (.func 166) #[] #[]], 3⟩] 4)) := fun w b hb => dec_map_insert Try.underlying225 Try.underlying3 w b _ _ _ _ hb rfl
 have hi128 : ∀ (w : World) (b : Nat), b = w.heap.size → (Instr.mapUpdate 225 (.map (some b)) (.int .i64 128) (.agg #[.func (.func 167) #[] #[]])).run Try.prog (w.alloc (.map #[⟨.int .i64 4, .agg #[.func (.func 166) #[] #[]], 0⟩, ⟨.int .i64 16, .agg #[.func (.func 166) #[] #[]], 1⟩, ⟨.int .i64 32, .agg #[.func (.func 167) #[] #[]], 2⟩, ⟨.int .i64 64, .agg #[.func (.func 166) #[] #[]], 3⟩] 4)) = .ok () (w.alloc (.map #[⟨.int .i64 4, .agg #[.func (.func 166) #[] #[]], 0⟩, ⟨.int .i64 16, .agg #[.func (.func 166) #[] #[]], 1⟩, ⟨.int .i64 32, .agg #[.func (.func 167) #[] #[]], 2⟩, ⟨.int .i64 64, .agg #[.func (.func 166) #[] #[]], 3⟩, ⟨.int .i64 128, .agg #[.func (.func 167) #[] #[]], 4⟩] 5)) := fun w b hb => dec_map_insert Try.underlying225 Try.underlying3 w b _ _ _ _ hb rfl
 have hi256 : ∀ (w : World) (b : Nat), b = w.heap.size → (Instr.mapUpdate 225 (.map (some b)) (.int .i64 256) (.agg #[.func (.func 166) #[] #[]])).run Try.prog (w.alloc (.map #[⟨.int .i64 4, .agg #[.func (.func 166) #[] #[]], 0⟩, ⟨.int .i64 16, .agg #[.func (.func 166) #[] #[]], 1⟩, ⟨.int .i64 32, .agg #[.func (.func 167) #[] #[]], 2⟩, ⟨.int .i64 64, .agg #[.func (.func 166) #[] #[]], 3⟩, ⟨.int .i64 128, .agg #[.func (.func 167) #[] #[]], 4⟩] 5)) = .ok () (w.alloc (.map #[⟨.int .i64 4, .agg #[.func (.func 166) #[] #[]], 0⟩, ⟨.int .i64 16, .agg #[.func (.func 166) #[] #[]], 1⟩, ⟨.int .i64 32, .agg #[.func (.func 167) #[] #[]], 2⟩, ⟨.int .i64 64, .agg #[.func (.func 166) #[] #[]], 3⟩, ⟨.int .i64 128, .agg #[.func (.func 167) #[] #[]], 4⟩, ⟨.int .i64 256, .agg #[.func (.func 166) #[] #[]], 5⟩] 6)) := fun w b hb => dec_map_insert Try.underlying225 Try.underlying3 w b _ _ _ _ hb rfl
 go_enter Try.func154, Try.ntmps154
 go_wp2
 go_ret
 refine ⟨_, rfl, ?_, by repeat (first | exact Below.refl _ _ | apply below_alloc)⟩
 have h := blk_new (World.alloc (World.alloc w (Obj.cells #[Value.func (Fn.func 166) #[] #[]] 224)) (Obj.cells #[Value.func (Fn.func 167) #[] #[]] 224)) (.map dec_ways 6)
 rw [World.size_alloc, World.size_alloc] at h
 exact h
end
end Go.Proofs.Ythfcafllcgjepaa.Q
