import Derived.Test.YthfcafllcgjepaaFeedbackReachK0
import Derived.Test.YthfcafllcgjepaaFeedbackReachF1
import Derived.Test.YthfcafllcgjepaaFeedbackReachE0
import Derived.Test.YthfcafllcgjepaaFeedbackReachQ1
import Derived.Test.YthfcafllcgjepaaFeedbackReachQ5
-- Printed by myprint.py (ours) over the kit's printer, out of the translation.
namespace Go.Proofs.Ythfcafllcgjepaa.Q
open Go.RowKit Go.Proofs.YthfcafllcgjepaaW.PrintWords Go.Proofs.YthfcafllcgjepaaW.PrintLast Go.Proofs.YthfcafllcgjepaaW.PrintMore
attribute [local go_sem] ArrW.ptrOf_slice unary_neg_float unary_neg_complex run_store_float run_store_complex max2_int min2_int max_two min_two max_three min_three max_four min_four   -- for this text's walks alone
set_option linter.unusedVariables false
set_option linter.unusedSimpArgs false
set_option maxHeartbeats 8000000 in
set_option maxRecDepth 100000 in
theorem foghornlaw11_may.calls (k : Nat) (a0 : Int) (a1 : Int) (A2 : Option Addr) (c2 : Nat) (l2 : List (S174)) (r : List (Nat × Nat)) (w : World) (hr2 : Kd.C k174 w A2 l2.length l2) (hc2 : l2.length ≤ c2) (h : foghornlaw11_may.f k a0 a1 l2 = some r) :
  Calls Try.prog 90 #[.int .i64 a0, .int .i64 a1, .slice A2 l2.length c2] w fun e w' => ∃ v0_ : Value, e = .returned (v0_) ∧ Kd.R Kd.cplx 32 w' w.heap.size (fun _ => True) v0_ r ∧ Below w.heap.size w w' := by
 have HR2 := Aside0.mk hr2
 have HC2 := Aside0.mk hc2
 clear hr2 hc2
 have HB := Aside0.mk (Below.refl w.heap.size w)
 have H : ((some (([4607182418800017408, 4602678819172646912, 4598175219545276416] : List Nat) : List Nat)).bind fun y1038 => (if 0 ≤ (Int.tmod (wrap64 ((Int.tmod a0 3) + 3)) 3) then (if (Int.tmod (wrap64 ((Int.tmod a0 3) + 3)) 3) < (y1038.length : Int) then ((foghornref11_Turn.f k (rdOf 0 y1038 (Int.tmod (wrap64 ((Int.tmod a0 3) + 3)) 3), 0) (Int.tmod (wrap64 ((Int.tmod a1 4) + 4)) 4)).bind fun t1042 => (foghornlaw11_may.l0 k l2 (([t1042] : List (Nat × Nat))) 0)) else (none)) else (none))) = some r := h
 clear h
 obtain ⟨y1038, hy1038⟩ : ∃ y_ : List Nat, y_ = (([4607182418800017408, 4602678819172646912, 4598175219545276416] : List Nat)) := ⟨_, rfl⟩
 replace H : (if 0 ≤ (Int.tmod (wrap64 ((Int.tmod a0 3) + 3)) 3) then (if (Int.tmod (wrap64 ((Int.tmod a0 3) + 3)) 3) < (y1038.length : Int) then ((foghornref11_Turn.f k (rdOf 0 y1038 (Int.tmod (wrap64 ((Int.tmod a0 3) + 3)) 3), 0) (Int.tmod (wrap64 ((Int.tmod a1 4) + 4)) 4)).bind fun t1042 => (foghornlaw11_may.l0 k l2 (([t1042] : List (Nat × Nat))) 0)) else (none)) else (none)) = some r := by first | (rw [hy1038]; with_reducible exact H) | (have H2_ := (Option.bind_some _ _).symm.trans H; rw [hy1038]; with_reducible exact H2_) | (have H2_ := (Option.bind_some _ _).symm.trans H; with_reducible exact H2_) | with_reducible exact H | (rw [hy1038]; exact H) | exact H
 have Ny1038 := Aside0.mk hy1038
 clear hy1038
 obtain ⟨ji4, hji4⟩ : ∃ j_ : Int, (Int.tmod (wrap64 ((Int.tmod a0 3) + 3)) 3) = j_ := ⟨_, rfl⟩
 replace H : (if 0 ≤ (ji4) then (if (ji4) < (y1038.length : Int) then ((foghornref11_Turn.f k (rdOf 0 y1038 (ji4), 0) (Int.tmod (wrap64 ((Int.tmod a1 4) + 4)) 4)).bind fun t1042 => (foghornlaw11_may.l0 k l2 (([t1042] : List (Nat × Nat))) 0)) else (none)) else (none)) = some r := by first | (rw [hji4] at H; exact H) | (simp only [hji4] at H ⊢; exact H)
 by_cases c5 : 0 ≤ (ji4)
 ·rw [if_pos c5] at H
  have c5b0 : decide (0 ≤ (ji4)) = true := decide_eq_true c5
  clear c5
  by_cases c6 : (ji4) < (y1038.length : Int)
  ·rw [if_pos c6] at H
   have c6b0 : decide ((ji4) < (y1038.length : Int)) = true := decide_eq_true c6
   clear c6
   replace H := Option.bind_eq_some_iff.mp H
   obtain ⟨t1042, A70, H⟩ := H
   replace H : (foghornlaw11_may.l0 k l2 (([t1042] : List (Nat × Nat))) 0) = some r := H
   have A7 := Aside0.mk A70
   clear A70
   obtain ⟨y1043, hy1043⟩ : ∃ y_ : List (Nat × Nat), y_ = (([t1042] : List (Nat × Nat))) := ⟨_, rfl⟩
   replace H : (foghornlaw11_may.l0 k l2 y1043 0) = some r := by first | (rw [hy1043]; with_reducible exact H) | (have H2_ := (Option.bind_some _ _).symm.trans H; rw [hy1043]; with_reducible exact H2_) | (have H2_ := (Option.bind_some _ _).symm.trans H; with_reducible exact H2_) | with_reducible exact H | (rw [hy1043]; exact H) | exact H
   have Ny1043 := Aside0.mk hy1043
   clear hy1043
   have H' := Aside0.mk H
   clear H
   go_enter Try.func90, Try.ntmps90
   go_wp2_with (first | ((with_reducible refine gate_dst (N := 10) rfl ?_); (try (refine gate_guard (by rfl) ?_; dsimp only)); refine Kd.R_lit Kd.float _ 34 ?hg (N := 10) ?hd (xs := ([4607182418800017408, 4602678819172646912, 4598175219545276416] : List Nat)) (inner := [.float .f64 4607182418800017408, .float .f64 4602678819172646912, .float .f64 4598175219545276416]) (ok := fun _ => True) (okp := fun _ => True) ?hr ?hp (fun _ hk => hk) trivial (Below.refl _ _) (Nat.le_refl _) (by simp) ?_; (case hd => rfl); (case hg => rfl); (case hr => first | (go_simp; done) | (go_simp; rfl)); (case hp => exact (Reps.one (show Kd.M Kd.float _ _ _ 4607182418800017408 [.float .f64 4607182418800017408] from rfl) (Reps.one (show Kd.M Kd.float _ _ _ 4602678819172646912 [.float .f64 4602678819172646912] from rfl) (Reps.one (show Kd.M Kd.float _ _ _ 4598175219545276416 [.float .f64 4598175219545276416] from rfl) (Reps.none _ _))))); intro v1039 w8 ho9 hb hg_ hnew_; clear hg_ hnew_; (first | rw [← Ny1038.out] at ho9 | (simp only [Int.reduceToNat] at ho9; rw [← Ny1038.out] at ho9)); have n0_ := Aside0.mk (Kd.R_lower ho9 (below_size (by repeat (first | (with_reducible first | exact HB.out | apply below_alloc | apply pw_below_drewN | apply below_drew1) | exact HB.out)))); have n1_ := Aside0.mk (below_step (by repeat (first | (with_reducible first | exact HB.out | apply below_alloc | apply pw_below_drewN | apply below_drew1) | exact HB.out)) hb); clear HB; have HO1040 := n0_; have HB := n1_; clear n0_ n1_; clear hb ho9; obtain ⟨Ao10, co10, eo10⟩ := Kd.R_slice HO1040.out; subst eo10; have p1041 : 0 ≤ ((ji4) : Int) := of_decide_eq_true (by first | (with_reducible assumption) | assumption); have q1041 : (ji4) < (y1038.length : Int) := of_decide_eq_true (by first | (with_reducible assumption) | assumption); obtain ⟨ad1041, e1041, hx1041_0⟩ := Kd.at_float (Kd.R_reads' HO1040.out).2.2 (ji4) p1041 q1041; cases e1041; replace p1041 := eq_true p1041; replace q1041 := eq_true q1041) | ((with_reducible refine gate_callee (f := 94) rfl ?_); refine goesL_ (some 23) rfl rfl Try.func94 (by kernel_rfl) rfl #[.complex .f64 (rdOf 0 y1038 (ji4)) 0, .int .i64 (Int.tmod (wrap64 ((Int.tmod a1 4) + 4)) 4)] rfl (by (try simp only [List.map_toArray, List.map_cons, List.map_nil]); first | done | (simp only [hji4]; rfl) | rfl | (simp only [List.length_drop, List.length_take]; rfl)) ?_; (with_reducible refine (foghornref11_Turn.calls k (rdOf 0 y1038 (ji4), 0) (Int.tmod (wrap64 ((Int.tmod a1 4) + 4)) 4) t1042 _ A7.out).mono ?_); rintro e w11 ⟨rfl, hb⟩; refine ⟨_, rfl, ?_⟩; have n0_ := Aside0.mk (Kd.R_below (by (with_reducible repeat (first | apply Kd.R_alloc | apply Kd.R_drewN | apply Kd.R_drew)); exact HO1040.out) hb); have n1_ := Aside0.mk (below_step (by repeat (first | (with_reducible first | exact HB.out | apply below_alloc | apply pw_below_drewN | apply below_drew1) | exact HB.out)) hb); clear HO1040; clear HB; have HO1040 := n0_; have HB := n1_; clear n0_ n1_; (try clear hb); (try clear hb2); (try clear hk); (try clear hi)) | ((with_reducible refine gate_dst (N := 24) rfl ?_); (try (refine gate_guard (by rfl) ?_; dsimp only)); refine Kd.R_lit Kd.cplx _ 32 ?hg (N := 24) ?hd (xs := ([t1042] : List (Nat × Nat))) (inner := [.complex .f64 t1042.1 t1042.2]) (ok := fun _ => True) (okp := fun _ => True) ?hr ?hp (fun _ hk => hk) trivial (Below.refl _ _) (Nat.le_refl _) (by simp) ?_; (case hd => rfl); (case hg => rfl); (case hr => first | (go_simp; done) | (go_simp; rfl)); (case hp => exact (Reps.one (show Kd.M Kd.cplx _ _ _ t1042 [.complex .f64 t1042.1 t1042.2] from rfl) (Reps.none _ _))); intro v1044 w12 ho13 hb hg_ hnew_; clear hg_ hnew_; (first | rw [← Ny1043.out] at ho13 | (simp only [Int.reduceToNat] at ho13; rw [← Ny1043.out] at ho13)); have n0_ := Aside0.mk (Kd.R_below (by (with_reducible repeat (first | apply Kd.R_alloc | apply Kd.R_drewN | apply Kd.R_drew)); exact HO1040.out) hb); have n1_ := Aside0.mk (Kd.R_lower ho13 (below_size (by repeat (first | (with_reducible first | exact HB.out | apply below_alloc | apply pw_below_drewN | apply below_drew1) | exact HB.out)))); have n2_ := Aside0.mk (below_step (by repeat (first | (with_reducible first | exact HB.out | apply below_alloc | apply pw_below_drewN | apply below_drew1) | exact HB.out)) hb); clear HO1040; clear HB; have HO1040 := n0_; have HO1045 := n1_; have HB := n2_; clear n0_ n1_ n2_; clear hb ho13))
   go_loopg [8, 9] k (fun kq v8 v9 w' => ∃ (x8_1 : List (Nat × Nat)) (x9_1 : Int), v9 = .int .i64 x9_1 ∧ Aside0 (foghornlaw11_may.l0 kq l2 x8_1 x9_1 = some r) ∧ Aside0 (kq ≤ k) ∧ Aside0 (Kd.R Kd.cplx 32 w' w.heap.size (fun _ => True) v8 x8_1) ∧ Aside0 (Below w.heap.size w w'))
   case atStart => exact ⟨(y1043), (0), (by first | rfl | (simp; done) | (simp [*]; done)), H', ⟨Nat.le_refl _⟩, ⟨by (with_reducible repeat (first | apply Kd.R_alloc | apply Kd.R_drewN | apply Kd.R_drew)); exact HO1045.out⟩, ⟨by repeat (first | (with_reducible first | exact HB.out | apply below_alloc | apply pw_below_drewN | apply below_drew1) | exact HB.out)⟩⟩
   case round =>
    clear H'
    try clear p1
    try clear q1
    try clear hx1
    try clear c2
    try clear p2
    try clear c5
    try clear c5b0
    try clear c6
    try clear c6b0
    try clear p6
    try clear c9
    try clear p10
    try clear q10
    try clear hx10
    try clear hx1041_0
    try clear p1041
    try clear q1041
    obtain ⟨x8_1, x9_1, rfl, HA, HK1, HO_8, HB⟩ := hrel
    cases gk with
    | zero => exact absurd HA.out (by simp [foghornlaw11_may.l0])
    | succ k1 =>
     have H := HA.out
     clear HA
     simp only [foghornlaw11_may.l0] at H
     have HC14 := Aside0.mk H
     clear H
     go_upto_region 4 with (fail)
     go_cut [33] (fun v33 wc => ∃ (kq : Nat) (x33_13 : Bool), v33 = .bool x33_13 ∧ Aside0 (foghornlaw11_may.j1 kq l2 x8_1 x9_1 x33_13 = some r) ∧ Aside0 (kq ≤ k1) ∧ Aside0 (Kd.R Kd.cplx 32 wc w.heap.size (fun _ => True) u8 x8_1) ∧ Aside0 (Below w.heap.size w wc))
     case first =>
      have H := HC14.out
      clear HC14
      by_cases c15 : x9_1 < (l2.length : Int)
      ·rw [if_pos c15] at H
       have c15b0 : decide (x9_1 < (l2.length : Int)) = true := decide_eq_true c15
       clear c15
       (first | rw [c15b0] | (simp only [i64_w, i32_w]; rw [c15b0]) | skip)
       have H' := Aside0.mk H
       clear H
       obtain ⟨Ao16, co16, eo16⟩ := Kd.R_slice HO_8.out
       subst eo16
       go_wp2
       go_meet
       case rel => exact ⟨_, (decide ((x8_1.length : Int) < 64)), (by first | rfl | (simp; done) | (simp [*]; done)), H', ⟨by have := HK1.out; first | omega | exact Nat.le_refl _⟩, ⟨by (with_reducible repeat (first | apply Kd.R_alloc | apply Kd.R_drewN | apply Kd.R_drew)); exact HO_8.out⟩, ⟨by repeat (first | (with_reducible first | exact HB.out | apply below_alloc | apply pw_below_drewN | apply below_drew1) | exact HB.out)⟩⟩
      ·rw [if_neg c15] at H
       have c15b0 : decide (x9_1 < (l2.length : Int)) = false := decide_eq_false c15
       clear c15
       (first | rw [c15b0] | (simp only [i64_w, i32_w]; rw [c15b0]) | skip)
       have H' := Aside0.mk H
       clear H
       go_wp2
       go_meet
       case rel => exact ⟨_, (false), (by first | rfl | (simp; done) | (simp [*]; done)), H', ⟨by have := HK1.out; first | omega | exact Nat.le_refl _⟩, ⟨by (with_reducible repeat (first | apply Kd.R_alloc | apply Kd.R_drewN | apply Kd.R_drew)); exact HO_8.out⟩, ⟨by repeat (first | (with_reducible first | exact HB.out | apply below_alloc | apply pw_below_drewN | apply below_drew1) | exact HB.out)⟩⟩
     case rest =>
      clear HC14
      try clear c1
      try clear p1
      try clear q1
      try clear hx1
      try clear c2
      try clear p2
      try clear c5
      try clear c5b0
      try clear c6
      try clear c6b0
      try clear p6
      try clear c9
      try clear p10
      try clear q10
      try clear hx10
      try clear c15
      try clear c15b0
      try clear hx1041_0
      try clear p1
      try clear p10
      try clear p1041
      try clear p2
      try clear p6
      try clear q1
      try clear q10
      try clear q1041
      obtain ⟨kq, x33_13, rfl, HA, HJ13, HO_8, HB⟩ := hcut
      cases kq with
      | zero => exact absurd HA.out (by simp [foghornlaw11_may.j1])
      | succ kj13 =>
       have H := HA.out
       clear HA
       simp only [foghornlaw11_may.j1] at H
       by_cases c17 : x33_13 = true
       ·subst c17
        have H1 : (if 0 ≤ x9_1 then (if x9_1 < (l2.length : Int) then ((floatBits .quo .f64 (floatOfInt .f64 (Int.tmod ((rd_T174 l2 x9_1).f0) 65)) 4634204016564240384).bind fun t1047 => ((floatBits .quo .f64 (floatOfInt .f64 (Int.tmod ((rd_T174 l2 x9_1).f1) 65)) 4634204016564240384).bind fun t1049 => (if x8_1.length < 8796093022208 then ((some (x8_1 ++ [(t1047, t1049)] : List (Nat × Nat))).bind fun y1050 => ((foghornref11_Check.f kj13 y1050).bind fun t1053 => (if t1053 = 0 then (foghornlaw11_may.l0 kj13 l2 y1050 (wrap64 (x9_1 + 1))) else (if 0 ≤ (wrap64 ((y1050.length : Int) - 1)) then (if (wrap64 ((y1050.length : Int) - 1)) ≤ (y1050.length : Int) then (some (y1050.take ((wrap64 ((y1050.length : Int) - 1)) : Int).toNat)) else (none)) else (none))))) else (none)))) else (none)) else (none)) = some r := by rw [if_pos rfl] at H; exact H
        clear H
        have H := H1
        clear H1
        by_cases c18 : 0 ≤ x9_1
        ·rw [if_pos c18] at H
         have c18b0 : decide (0 ≤ x9_1) = true := decide_eq_true c18
         clear c18
         by_cases c19 : x9_1 < (l2.length : Int)
         ·rw [if_pos c19] at H
          have c19b0 : decide (x9_1 < (l2.length : Int)) = true := decide_eq_true c19
          clear c19
          replace H := Option.bind_eq_some_iff.mp H
          obtain ⟨t1047, A200, H⟩ := H
          replace H : ((floatBits .quo .f64 (floatOfInt .f64 (Int.tmod ((rd_T174 l2 x9_1).f1) 65)) 4634204016564240384).bind fun t1049 => (if x8_1.length < 8796093022208 then ((some (x8_1 ++ [(t1047, t1049)] : List (Nat × Nat))).bind fun y1050 => ((foghornref11_Check.f kj13 y1050).bind fun t1053 => (if t1053 = 0 then (foghornlaw11_may.l0 kj13 l2 y1050 (wrap64 (x9_1 + 1))) else (if 0 ≤ (wrap64 ((y1050.length : Int) - 1)) then (if (wrap64 ((y1050.length : Int) - 1)) ≤ (y1050.length : Int) then (some (y1050.take ((wrap64 ((y1050.length : Int) - 1)) : Int).toNat)) else (none)) else (none))))) else (none))) = some r := H
          have A20 := Aside0.mk A200
          clear A200
          replace H := Option.bind_eq_some_iff.mp H
          obtain ⟨t1049, A210, H⟩ := H
          replace H : (if x8_1.length < 8796093022208 then ((some (x8_1 ++ [(t1047, t1049)] : List (Nat × Nat))).bind fun y1050 => ((foghornref11_Check.f kj13 y1050).bind fun t1053 => (if t1053 = 0 then (foghornlaw11_may.l0 kj13 l2 y1050 (wrap64 (x9_1 + 1))) else (if 0 ≤ (wrap64 ((y1050.length : Int) - 1)) then (if (wrap64 ((y1050.length : Int) - 1)) ≤ (y1050.length : Int) then (some (y1050.take ((wrap64 ((y1050.length : Int) - 1)) : Int).toNat)) else (none)) else (none))))) else (none)) = some r := H
          have A21 := Aside0.mk A210
          clear A210
          by_cases c22 : x8_1.length < 8796093022208
          ·rw [if_pos c22] at H
           have LMc22 := Aside0.mk c22
           clear c22
           obtain ⟨y1050, hy1050⟩ : ∃ y_ : List (Nat × Nat), y_ = (x8_1 ++ [(t1047, t1049)]) := ⟨_, rfl⟩
           replace H : ((foghornref11_Check.f kj13 y1050).bind fun t1053 => (if t1053 = 0 then (foghornlaw11_may.l0 kj13 l2 y1050 (wrap64 (x9_1 + 1))) else (if 0 ≤ (wrap64 ((y1050.length : Int) - 1)) then (if (wrap64 ((y1050.length : Int) - 1)) ≤ (y1050.length : Int) then (some (y1050.take ((wrap64 ((y1050.length : Int) - 1)) : Int).toNat)) else (none)) else (none)))) = some r := by first | (rw [hy1050]; with_reducible exact H) | (have H2_ := (Option.bind_some _ _).symm.trans H; rw [hy1050]; with_reducible exact H2_) | (have H2_ := (Option.bind_some _ _).symm.trans H; with_reducible exact H2_) | with_reducible exact H | (rw [hy1050]; exact H) | exact H
           have Ny1050 := Aside0.mk hy1050
           clear hy1050
           replace H := Option.bind_eq_some_iff.mp H
           obtain ⟨t1053, A230, H⟩ := H
           replace H : (if t1053 = 0 then (foghornlaw11_may.l0 kj13 l2 y1050 (wrap64 (x9_1 + 1))) else (if 0 ≤ (wrap64 ((y1050.length : Int) - 1)) then (if (wrap64 ((y1050.length : Int) - 1)) ≤ (y1050.length : Int) then (some (y1050.take ((wrap64 ((y1050.length : Int) - 1)) : Int).toNat)) else (none)) else (none))) = some r := H
           have A23 := Aside0.mk A230
           clear A230
           by_cases c24 : t1053 = 0
           ·rw [if_pos c24] at H
            have c24b0 : (t1053 == 0) = true := beq_iff_eq.mpr c24
            have c24b1 : (t1053 != 0) = false := bne_eq_false_iff_eq.mpr c24
            clear c24
            have H' := Aside0.mk H
            clear H
            try go_wp2
            have n0_ := Aside0.mk (Kd.R_drew HO_8.out)
            have n1_ := Aside0.mk (below_drew1 HB.out)
            clear HO_8
            clear HB
            have HO_8 := n0_
            have HB := n1_
            clear n0_ n1_
            have p1046 : 0 ≤ (x9_1 : Int) := of_decide_eq_true (by first | (with_reducible assumption) | assumption)
            have q1046 : x9_1 < (l2.length : Int) := of_decide_eq_true (by first | (with_reducible assumption) | assumption)
            obtain ⟨ad1046, e1046, hx1046_0, hx1046_1, hx1046_2⟩ := at_T174 HR2.out x9_1 p1046 q1046
            have hw1046_2 := hx1046_2
            have hw1046_1 := hx1046_1
            have hw1046_0 := hx1046_0
            cases e1046
            replace hx1046_0 := (HB.out.cell (World.block_lt_of_cell? w _ hx1046_0)).trans hx1046_0
            replace hx1046_1 := (HB.out.cell (World.block_lt_of_cell? w _ hx1046_1)).trans hx1046_1
            replace hx1046_2 := (HB.out.cell (World.block_lt_of_cell? w _ hx1046_2)).trans hx1046_2
            replace p1046 := eq_true p1046
            replace q1046 := eq_true q1046
            have hfoA20_ := fun (t_ : TypeId) (w_ : World) => run_float_arith (P := Try.prog) w_ .quo t_ .f64 (floatOfInt .f64 (Int.tmod ((rd_T174 l2 x9_1).f0) 65)) 4634204016564240384 t1047 A20.out
            have p1048 : 0 ≤ (x9_1 : Int) := of_decide_eq_true (by first | (with_reducible assumption) | assumption)
            have q1048 : x9_1 < (l2.length : Int) := of_decide_eq_true (by first | (with_reducible assumption) | assumption)
            obtain ⟨ad1048, e1048, hx1048_0, hx1048_1, hx1048_2⟩ := at_T174 HR2.out x9_1 p1048 q1048
            have hw1048_2 := hx1048_2
            have hw1048_1 := hx1048_1
            have hw1048_0 := hx1048_0
            obtain rfl : ad1046 = ad1048 := (by injection e1048)
            replace hx1048_0 := (HB.out.cell (World.block_lt_of_cell? w _ hx1048_0)).trans hx1048_0
            replace hx1048_1 := (HB.out.cell (World.block_lt_of_cell? w _ hx1048_1)).trans hx1048_1
            replace hx1048_2 := (HB.out.cell (World.block_lt_of_cell? w _ hx1048_2)).trans hx1048_2
            replace p1048 := eq_true p1048
            replace q1048 := eq_true q1048
            have hfoA21_ := fun (t_ : TypeId) (w_ : World) => run_float_arith (P := Try.prog) w_ .quo t_ .f64 (floatOfInt .f64 (Int.tmod ((rd_T174 l2 x9_1).f1) 65)) 4634204016564240384 t1049 A21.out
            refine start_ (n := 21) (S := fun w' => w'.cell? (ad1046.add ((x9_1).toNat * 3)) = some (.int .i64 ((rd_T174 l2 x9_1).f0)) ∧ w'.cell? ⟨(ad1046.add ((x9_1).toNat * 3)).block, (ad1046.add ((x9_1).toNat * 3)).off + 1, none⟩ = some (.int .i64 ((rd_T174 l2 x9_1).f1)) ∧ w'.cell? ⟨(ad1046.add ((x9_1).toNat * 3)).block, (ad1046.add ((x9_1).toNat * 3)).off + 2, none⟩ = some (.bool ((rd_T174 l2 x9_1).f2)) ∧ w'.cell? (ad1046.add ((x9_1).toNat * 3)) = some (.int .i64 ((rd_T174 l2 x9_1).f0)) ∧ w'.cell? ⟨(ad1046.add ((x9_1).toNat * 3)).block, (ad1046.add ((x9_1).toNat * 3)).off + 1, none⟩ = some (.int .i64 ((rd_T174 l2 x9_1).f1)) ∧ w'.cell? ⟨(ad1046.add ((x9_1).toNat * 3)).block, (ad1046.add ((x9_1).toNat * 3)).off + 2, none⟩ = some (.bool ((rd_T174 l2 x9_1).f2))) (ds := []) #[false, false, false, false, false, false, false, false, false, false, false, false, false, false, false, false, false, false, false, false, false] (by kernel_rfl) rfl rfl ⟨((HB.out.cell (World.block_lt_of_cell? w _ hw1046_0)).trans hw1046_0), ((HB.out.cell (World.block_lt_of_cell? w _ hw1046_1)).trans hw1046_1), ((HB.out.cell (World.block_lt_of_cell? w _ hw1046_2)).trans hw1046_2), ((HB.out.cell (World.block_lt_of_cell? w _ hw1048_0)).trans hw1048_0), ((HB.out.cell (World.block_lt_of_cell? w _ hw1048_1)).trans hw1048_1), ((HB.out.cell (World.block_lt_of_cell? w _ hw1048_2)).trans hw1048_2)⟩ (fun hHeld => ?_); refine with_tabW foghornlaw11_may.tab6 foghornlaw11_may.bits6 (fun HT_ HW_ => ?_)
            generalize wc.drew = w25 at HO_8 HB hx1046_0 hx1046_1 hx1046_2 hx1048_0 hx1048_1 hx1048_2 hHeld ⊢
            refine pure_ (i := 0) (N := some 36) (v := ?_) (a' := ?_) #[true, false, false, false, false, false, false, false, false, false, false, false, false, false, false, false, false, false, false, false, false] rfl rfl (any_of HT_.out (by kernel_rfl)) (fun _ _ _ h => h) (Or.inl ⟨by rfl, ?_⟩) ?_ ?_
            rotate_left
            ·intro w'
             go_simp
             with_reducible rfl
            rotate_left
            ·simp only [Act.put, List.setIfInBounds_toArray, List.set_cons_zero, List.set_cons_succ, i64_w, i32_w]
             rfl
            refine pure_ (i := 1) (N := some 37) (v := ?_) (a' := ?_) #[true, true, false, false, false, false, false, false, false, false, false, false, false, false, false, false, false, false, false, false, false] rfl rfl (any_of HT_.out (by kernel_rfl)) (fun _ _ _ h => h) (Or.inl ⟨by rfl, ?_⟩) ?_ ?_
            rotate_left
            ·intro w'
             go_simp
             with_reducible rfl
            rotate_left
            ·simp only [Act.put, List.setIfInBounds_toArray, List.set_cons_zero, List.set_cons_succ, i64_w, i32_w]
             rfl
            refine pure_ (i := 2) (N := some 38) (v := ?_) (a' := ?_) #[true, true, true, false, false, false, false, false, false, false, false, false, false, false, false, false, false, false, false, false, false] rfl rfl (any_of HT_.out (by kernel_rfl)) (fun _ _ _ h => h) (Or.inl ⟨by rfl, ?_⟩) ?_ ?_
            rotate_left
            ·intro w'
             go_simp
             with_reducible rfl
            rotate_left
            ·simp only [Act.put, List.setIfInBounds_toArray, List.set_cons_zero, List.set_cons_succ, i64_w, i32_w]
             rfl
            refine pure_ (i := 3) (N := some 39) (v := ?_) (a' := ?_) #[true, true, true, true, false, false, false, false, false, false, false, false, false, false, false, false, false, false, false, false, false] rfl rfl (any_of HT_.out (by kernel_rfl)) (fun _ _ _ h => h) (Or.inl ⟨by rfl, ?_⟩) ?_ ?_
            rotate_left
            ·intro w'
             go_simp
             with_reducible rfl
            rotate_left
            ·simp only [Act.put, List.setIfInBounds_toArray, List.set_cons_zero, List.set_cons_succ, i64_w, i32_w]
             rfl
            refine pure_ (i := 4) (N := some 40) (v := ?_) (a' := ?_) #[true, true, true, true, true, false, false, false, false, false, false, false, false, false, false, false, false, false, false, false, false] rfl rfl (any_of HT_.out (by kernel_rfl)) (fun _ _ _ h => h) (Or.inl ⟨by rfl, ?_⟩) ?_ ?_
            rotate_left
            ·intro w'
             go_simp
             with_reducible rfl
            rotate_left
            ·simp only [Act.put, List.setIfInBounds_toArray, List.set_cons_zero, List.set_cons_succ, i64_w, i32_w]
             rfl
            refine pure_ (i := 9) (N := some 45) (v := ?_) (a' := ?_) #[true, true, true, true, true, false, false, false, false, true, false, false, false, false, false, false, false, false, false, false, false] rfl rfl (any_of HT_.out (by kernel_rfl)) (fun _ _ _ h => h) (Or.inl ⟨by rfl, ?_⟩) ?_ ?_
            rotate_left
            ·intro w'
             go_simp
             with_reducible rfl
            rotate_left
            ·simp only [Act.put, List.setIfInBounds_toArray, List.set_cons_zero, List.set_cons_succ, i64_w, i32_w]
             rfl
            refine pure_ (i := 10) (N := some 46) (v := ?_) (a' := ?_) #[true, true, true, true, true, false, false, false, false, true, true, false, false, false, false, false, false, false, false, false, false] rfl rfl (any_of HT_.out (by kernel_rfl)) (fun _ _ _ h => h) (Or.inl ⟨by rfl, ?_⟩) ?_ ?_
            rotate_left
            ·intro w'
             go_simp
             with_reducible rfl
            rotate_left
            ·simp only [Act.put, List.setIfInBounds_toArray, List.set_cons_zero, List.set_cons_succ, i64_w, i32_w]
             rfl
            refine pure_ (i := 11) (N := some 47) (v := ?_) (a' := ?_) #[true, true, true, true, true, false, false, false, false, true, true, true, false, false, false, false, false, false, false, false, false] rfl rfl (any_of HT_.out (by kernel_rfl)) (fun _ _ _ h => h) (Or.inl ⟨by rfl, ?_⟩) ?_ ?_
            rotate_left
            ·intro w'
             go_simp
             with_reducible rfl
            rotate_left
            ·simp only [Act.put, List.setIfInBounds_toArray, List.set_cons_zero, List.set_cons_succ, i64_w, i32_w]
             rfl
            refine pure_ (i := 12) (N := some 48) (v := ?_) (a' := ?_) #[true, true, true, true, true, false, false, false, false, true, true, true, true, false, false, false, false, false, false, false, false] rfl rfl (any_of HT_.out (by kernel_rfl)) (fun _ _ _ h => h) (Or.inl ⟨by rfl, ?_⟩) ?_ ?_
            rotate_left
            ·intro w'
             go_simp
             with_reducible rfl
            rotate_left
            ·simp only [Act.put, List.setIfInBounds_toArray, List.set_cons_zero, List.set_cons_succ, i64_w, i32_w]
             rfl
            refine take_ (i := 5) (N := some 41) (v := ?_) (a' := ?_) #[true, true, true, true, true, true, false, false, false, true, true, true, true, false, false, false, false, false, false, false, false] rfl rfl (take_ofW HT_.out HW_.out (by kernel_rfl)) (fun _ _ _ h => h) (Or.inl ⟨by rfl, ?_⟩) hHeld ?_ ?_
            rotate_left
            ·rintro w' ⟨s0, s1, s2, s3, s4, s5⟩
             go_simp
             with_reducible rfl
            rotate_left
            ·simp only [Act.put, List.setIfInBounds_toArray, List.set_cons_zero, List.set_cons_succ, i64_w, i32_w]
             rfl
            refine pure_ (i := 6) (N := some 42) (v := ?_) (a' := ?_) #[true, true, true, true, true, true, true, false, false, true, true, true, true, false, false, false, false, false, false, false, false] rfl rfl (any_of HT_.out (by kernel_rfl)) (fun _ _ _ h => h) (Or.inl ⟨by rfl, ?_⟩) ?_ ?_
            rotate_left
            ·intro w'
             go_simp
             with_reducible rfl
            rotate_left
            ·simp only [Act.put, List.setIfInBounds_toArray, List.set_cons_zero, List.set_cons_succ, i64_w, i32_w]
             rfl
            refine pure_ (i := 7) (N := some 43) (v := ?_) (a' := ?_) #[true, true, true, true, true, true, true, true, false, true, true, true, true, false, false, false, false, false, false, false, false] rfl rfl (any_of HT_.out (by kernel_rfl)) (fun _ _ _ h => h) (Or.inl ⟨by rfl, ?_⟩) ?_ ?_
            rotate_left
            ·intro w'
             go_simp
             with_reducible rfl
            rotate_left
            ·simp only [Act.put, List.setIfInBounds_toArray, List.set_cons_zero, List.set_cons_succ, i64_w, i32_w]
             rfl
            refine pure_ (i := 8) (N := some 44) (v := ?_) (a' := ?_) #[true, true, true, true, true, true, true, true, true, true, true, true, true, false, false, false, false, false, false, false, false] rfl rfl (any_of HT_.out (by kernel_rfl)) (fun _ _ _ h => h) (Or.inl ⟨by rfl, ?_⟩) ?_ ?_
            rotate_left
            ·intro w'
             go_simp
             with_reducible rfl
            rotate_left
            ·simp only [Act.put, List.setIfInBounds_toArray, List.set_cons_zero, List.set_cons_succ, i64_w, i32_w]
             rfl
            refine take_ (i := 13) (N := some 49) (v := ?_) (a' := ?_) #[true, true, true, true, true, true, true, true, true, true, true, true, true, true, false, false, false, false, false, false, false] rfl rfl (take_ofW HT_.out HW_.out (by kernel_rfl)) (fun _ _ _ h => h) (Or.inl ⟨by rfl, ?_⟩) hHeld ?_ ?_
            rotate_left
            ·rintro w' ⟨s0, s1, s2, s3, s4, s5⟩
             go_simp
             with_reducible rfl
            rotate_left
            ·simp only [Act.put, List.setIfInBounds_toArray, List.set_cons_zero, List.set_cons_succ, i64_w, i32_w]
             rfl
            refine pure_ (i := 14) (N := some 50) (v := ?_) (a' := ?_) #[true, true, true, true, true, true, true, true, true, true, true, true, true, true, true, false, false, false, false, false, false] rfl rfl (any_of HT_.out (by kernel_rfl)) (fun _ _ _ h => h) (Or.inl ⟨by rfl, ?_⟩) ?_ ?_
            rotate_left
            ·intro w'
             go_simp
             with_reducible rfl
            rotate_left
            ·simp only [Act.put, List.setIfInBounds_toArray, List.set_cons_zero, List.set_cons_succ, i64_w, i32_w]
             rfl
            refine pure_ (i := 15) (N := some 51) (v := ?_) (a' := ?_) #[true, true, true, true, true, true, true, true, true, true, true, true, true, true, true, true, false, false, false, false, false] rfl rfl (any_of HT_.out (by kernel_rfl)) (fun _ _ _ h => h) (Or.inl ⟨by rfl, ?_⟩) ?_ ?_
            rotate_left
            ·intro w'
             go_simp
             with_reducible rfl
            rotate_left
            ·simp only [Act.put, List.setIfInBounds_toArray, List.set_cons_zero, List.set_cons_succ, i64_w, i32_w]
             rfl
            refine pure_ (i := 16) (N := some 52) (v := ?_) (a' := ?_) #[true, true, true, true, true, true, true, true, true, true, true, true, true, true, true, true, true, false, false, false, false] rfl rfl (any_of HT_.out (by kernel_rfl)) (fun _ _ _ h => h) (Or.inl ⟨by rfl, ?_⟩) ?_ ?_
            rotate_left
            ·intro w'
             go_simp
             with_reducible rfl
            rotate_left
            ·simp only [Act.put, List.setIfInBounds_toArray, List.set_cons_zero, List.set_cons_succ, i64_w, i32_w]
             rfl
            refine pure_ (i := 17) (N := some 53) (v := ?_) (a' := ?_) #[true, true, true, true, true, true, true, true, true, true, true, true, true, true, true, true, true, true, false, false, false] rfl rfl (any_of HT_.out (by kernel_rfl)) (fun _ _ _ h => h) (Or.inl ⟨by rfl, ?_⟩) ?_ ?_
            rotate_left
            ·intro w'
             go_simp
             with_reducible rfl
            rotate_left
            ·simp only [Act.put, List.setIfInBounds_toArray, List.set_cons_zero, List.set_cons_succ, i64_w, i32_w]
             rfl
            refine one_ (i := 18) (N := some 54) #[true, true, true, true, true, true, true, true, true, true, true, true, true, true, true, true, true, true, true, false, false] rfl rfl (one_of HT_.out (by kernel_rfl)) (by decide) (fun K hK => ?_)
            refine value_ (w1 := ?_) (v := ?_) (by rfl) rfl ?_ ?_
            rotate_left 2
            ·go_simp
             constructor
             ·rfl
             ·rfl
            refine hK.out _ _ ⟨(World.cell?_alloc_lt _ _ _ (World.block_lt_of_cell? _ _ (((HB.out.cell (World.block_lt_of_cell? w _ hw1046_0)).trans hw1046_0)))).trans (((HB.out.cell (World.block_lt_of_cell? w _ hw1046_0)).trans hw1046_0)), (World.cell?_alloc_lt _ _ _ (World.block_lt_of_cell? _ _ (((HB.out.cell (World.block_lt_of_cell? w _ hw1046_1)).trans hw1046_1)))).trans (((HB.out.cell (World.block_lt_of_cell? w _ hw1046_1)).trans hw1046_1)), (World.cell?_alloc_lt _ _ _ (World.block_lt_of_cell? _ _ (((HB.out.cell (World.block_lt_of_cell? w _ hw1046_2)).trans hw1046_2)))).trans (((HB.out.cell (World.block_lt_of_cell? w _ hw1046_2)).trans hw1046_2)), (World.cell?_alloc_lt _ _ _ (World.block_lt_of_cell? _ _ (((HB.out.cell (World.block_lt_of_cell? w _ hw1048_0)).trans hw1048_0)))).trans (((HB.out.cell (World.block_lt_of_cell? w _ hw1048_0)).trans hw1048_0)), (World.cell?_alloc_lt _ _ _ (World.block_lt_of_cell? _ _ (((HB.out.cell (World.block_lt_of_cell? w _ hw1048_1)).trans hw1048_1)))).trans (((HB.out.cell (World.block_lt_of_cell? w _ hw1048_1)).trans hw1048_1)), (World.cell?_alloc_lt _ _ _ (World.block_lt_of_cell? _ _ (((HB.out.cell (World.block_lt_of_cell? w _ hw1048_2)).trans hw1048_2)))).trans (((HB.out.cell (World.block_lt_of_cell? w _ hw1048_2)).trans hw1048_2))⟩ (fun hHeld => ?_)
            clear hK K
            refine norm_ (a' := ?_) ?_ ?_
            rotate_left
            ·show Act.put _ (some 54) _ = _
             simp only [Act.put, List.setIfInBounds_toArray, List.set_cons_zero, List.set_cons_succ, i64_w, i32_w]
             rfl
            refine one_ (i := 19) (N := some 55) #[true, true, true, true, true, true, true, true, true, true, true, true, true, true, true, true, true, true, true, true, false] rfl rfl (one_of HT_.out (by kernel_rfl)) (by decide) (fun K hK => ?_)
            refine Kd.R_append_step Kd.cplx (w0 := w) w.heap.size (by rfl) (.tmp 36) (.tmp 54) 24 32 (.complex .f64 0 0) 16 rfl Try.underlying24 info32 rfl (by decide) (by omega) u8 x8_1 (t1047, t1049) [.complex .f64 t1047 t1049] (fun _ => True) (fun _ => False) rfl rfl ?aP (fun _ hk => hk.elim) ?aF ?aO ?aB ?aS ?aL ?_
            (case aP => exact rfl)
            (case aB => exact (by repeat (first | (with_reducible first | exact HB.out | apply below_alloc | apply pw_below_drewN | apply below_drew1) | exact HB.out)))
            (case aF => exact (fun _ _ => trivial))
            (case aO => exact (by (with_reducible repeat (first | apply Kd.R_alloc | apply Kd.R_drewN | apply Kd.R_drew)); exact HO_8.out))
            (case aS => exact (below_size (by repeat (first | (with_reducible first | exact HB.out | apply below_alloc | apply pw_below_drewN | apply below_drew1) | exact HB.out))))
            (case aL => have := LMc22.out; omega)
            intro v1051 w26 ho hb hg hat
            rw [← Ny1050.out] at ho
            have n0_ := Aside0.mk (hb)
            have n1_ := Aside0.mk (ho)
            clear HB
            clear HO_8
            have HB := n0_
            have HO1052 := n1_
            clear n0_ n1_
            clear ho hb hg hat
            refine hK.out _ _ ⟨((HB.out.cell (World.block_lt_of_cell? w _ hw1046_0)).trans hw1046_0), ((HB.out.cell (World.block_lt_of_cell? w _ hw1046_1)).trans hw1046_1), ((HB.out.cell (World.block_lt_of_cell? w _ hw1046_2)).trans hw1046_2), ((HB.out.cell (World.block_lt_of_cell? w _ hw1048_0)).trans hw1048_0), ((HB.out.cell (World.block_lt_of_cell? w _ hw1048_1)).trans hw1048_1), ((HB.out.cell (World.block_lt_of_cell? w _ hw1048_2)).trans hw1048_2)⟩ (fun hHeld => ?_)
            clear hK K
            refine norm_ (a' := ?_) ?_ ?_
            rotate_left
            ·show Act.put _ (some 55) _ = _
             simp only [Act.put, List.setIfInBounds_toArray, List.set_cons_zero, List.set_cons_succ, i64_w, i32_w]
             rfl
            refine pure_ (i := 20) (N := some 8) (v := ?_) (a' := ?_) #[true, true, true, true, true, true, true, true, true, true, true, true, true, true, true, true, true, true, true, true, true] rfl rfl (any_of HT_.out (by kernel_rfl)) (fun _ _ _ h => h) (Or.inl ⟨by rfl, ?_⟩) ?_ ?_
            rotate_left
            ·intro w'
             go_simp
             with_reducible rfl
            rotate_left
            ·simp only [Act.put, List.setIfInBounds_toArray, List.set_cons_zero, List.set_cons_succ, i64_w, i32_w]
             rfl
            refine done_ (done_of HT_.out (by kernel_rfl)) ?_
            obtain ⟨Ao27, co27, eo27⟩ := Kd.R_slice HO1052.out
            subst eo27
            try go_wp2_with ((with_reducible refine gate_callee (f := 28) rfl ?_); refine goesL_ (some 57) rfl rfl Try.func28 (by kernel_rfl) rfl #[.slice Ao27 y1050.length co27] rfl (by (try simp only [List.map_toArray, List.map_cons, List.map_nil]); first | done | rfl | (simp only [List.length_drop, List.length_take]; rfl)) ?_; (with_reducible refine (foghornref11_Check.calls kj13 _ _ y1050 t1053 _ ?side1 ?side2 A23.out).mono ?_); (case side1 => repeat (first | exact (Kd.R_reads' HO1052.out).2.2 | (with_reducible refine Kd.C_alloc ?_ _) | (with_reducible refine Kd.C_drewN ?_ _) | (with_reducible refine Kd.C_drew ?_))); (case side2 => exact (Kd.R_reads' HO1052.out).2.1); rintro e w28 ⟨rfl, hb⟩; refine ⟨_, rfl, ?_⟩; have n0_ := Aside0.mk (Kd.R_below (by (with_reducible repeat (first | apply Kd.R_alloc | apply Kd.R_drewN | apply Kd.R_drew)); exact HO1052.out) hb); have n1_ := Aside0.mk (below_step (by repeat (first | (with_reducible first | exact HB.out | apply below_alloc | apply pw_below_drewN | apply below_drew1) | exact HB.out)) hb); clear HO1052; clear HB; have HO1052 := n0_; have HB := n1_; clear n0_ n1_; (try clear hb); (try clear hb2); (try clear hk); (try clear hi))
            first | go_roundg kj13 | (simp only [add_plain] at *; go_roundg kj13)
            case measure => have := HK1.out; have := HJ13.out; omega
            case rel => exact ⟨(y1050), (wrap64 (x9_1 + 1)), (by first | rfl | (simp; done) | (simp [*]; done)), H', ⟨by have := HK1.out; have := HJ13.out; omega⟩, ⟨by (with_reducible repeat (first | apply Kd.R_alloc | apply Kd.R_drewN | apply Kd.R_drew)); exact HO1052.out⟩, ⟨by repeat (first | (with_reducible first | exact HB.out | apply below_alloc | apply pw_below_drewN | apply below_drew1) | exact HB.out)⟩⟩
           ·rw [if_neg c24] at H
            have c24b0 : (t1053 == 0) = false := beq_eq_false_iff_ne.mpr c24
            have c24b1 : (t1053 != 0) = true := bne_iff_ne.mpr c24
            obtain ⟨ji29, hji29⟩ : ∃ j_ : Int, (wrap64 ((y1050.length : Int) - 1)) = j_ := ⟨_, rfl⟩
            replace H : (if 0 ≤ (ji29) then (if (ji29) ≤ (y1050.length : Int) then (some (y1050.take ((ji29) : Int).toNat)) else (none)) else (none)) = some r := by first | (rw [hji29] at H; exact H) | (simp only [hji29] at H ⊢; exact H)
            (try rw [hji29] at A23)
            have hji29w : (IntKind.i64.wrap ((y1050.length : Int) - 1)) = ji29 := (i64_w _).trans hji29
            by_cases c30 : 0 ≤ (ji29)
            ·rw [if_pos c30] at H
             have c30b0 := eq_true c30
             have c30b1 : decide (0 ≤ (ji29)) = true := decide_eq_true c30
             clear c30
             by_cases c31 : (ji29) ≤ (y1050.length : Int)
             ·rw [if_pos c31] at H
              have c31b0 := eq_true c31
              have c31b1 : decide ((ji29) ≤ (y1050.length : Int)) = true := decide_eq_true c31
              clear c31
              obtain ⟨y1054, hy1054⟩ : ∃ y_ : List (Nat × Nat), y_ = (y1050.take ((ji29) : Int).toNat) := ⟨_, rfl⟩
              replace H : (some y1054) = some r := by first | (rw [hy1054]; with_reducible exact H) | (have H2_ := (Option.bind_some _ _).symm.trans H; rw [hy1054]; with_reducible exact H2_) | (have H2_ := (Option.bind_some _ _).symm.trans H; with_reducible exact H2_) | with_reducible exact H | (rw [hy1054]; exact H) | exact H
              have Ny1054 := Aside0.mk hy1054
              clear hy1054
              obtain rfl := Option.some.inj H
              try go_wp2
              have n0_ := Aside0.mk (Kd.R_drew HO_8.out)
              have n1_ := Aside0.mk (below_drew1 HB.out)
              clear HO_8
              clear HB
              have HO_8 := n0_
              have HB := n1_
              clear n0_ n1_
              have p1046 : 0 ≤ (x9_1 : Int) := of_decide_eq_true (by first | (with_reducible assumption) | assumption)
              have q1046 : x9_1 < (l2.length : Int) := of_decide_eq_true (by first | (with_reducible assumption) | assumption)
              obtain ⟨ad1046, e1046, hx1046_0, hx1046_1, hx1046_2⟩ := at_T174 HR2.out x9_1 p1046 q1046
              have hw1046_2 := hx1046_2
              have hw1046_1 := hx1046_1
              have hw1046_0 := hx1046_0
              cases e1046
              replace hx1046_0 := (HB.out.cell (World.block_lt_of_cell? w _ hx1046_0)).trans hx1046_0
              replace hx1046_1 := (HB.out.cell (World.block_lt_of_cell? w _ hx1046_1)).trans hx1046_1
              replace hx1046_2 := (HB.out.cell (World.block_lt_of_cell? w _ hx1046_2)).trans hx1046_2
              replace p1046 := eq_true p1046
              replace q1046 := eq_true q1046
              have hfoA20_ := fun (t_ : TypeId) (w_ : World) => run_float_arith (P := Try.prog) w_ .quo t_ .f64 (floatOfInt .f64 (Int.tmod ((rd_T174 l2 x9_1).f0) 65)) 4634204016564240384 t1047 A20.out
              have p1048 : 0 ≤ (x9_1 : Int) := of_decide_eq_true (by first | (with_reducible assumption) | assumption)
              have q1048 : x9_1 < (l2.length : Int) := of_decide_eq_true (by first | (with_reducible assumption) | assumption)
              obtain ⟨ad1048, e1048, hx1048_0, hx1048_1, hx1048_2⟩ := at_T174 HR2.out x9_1 p1048 q1048
              have hw1048_2 := hx1048_2
              have hw1048_1 := hx1048_1
              have hw1048_0 := hx1048_0
              obtain rfl : ad1046 = ad1048 := (by injection e1048)
              replace hx1048_0 := (HB.out.cell (World.block_lt_of_cell? w _ hx1048_0)).trans hx1048_0
              replace hx1048_1 := (HB.out.cell (World.block_lt_of_cell? w _ hx1048_1)).trans hx1048_1
              replace hx1048_2 := (HB.out.cell (World.block_lt_of_cell? w _ hx1048_2)).trans hx1048_2
              replace p1048 := eq_true p1048
              replace q1048 := eq_true q1048
              have hfoA21_ := fun (t_ : TypeId) (w_ : World) => run_float_arith (P := Try.prog) w_ .quo t_ .f64 (floatOfInt .f64 (Int.tmod ((rd_T174 l2 x9_1).f1) 65)) 4634204016564240384 t1049 A21.out
              refine start_ (n := 21) (S := fun w' => w'.cell? (ad1046.add ((x9_1).toNat * 3)) = some (.int .i64 ((rd_T174 l2 x9_1).f0)) ∧ w'.cell? ⟨(ad1046.add ((x9_1).toNat * 3)).block, (ad1046.add ((x9_1).toNat * 3)).off + 1, none⟩ = some (.int .i64 ((rd_T174 l2 x9_1).f1)) ∧ w'.cell? ⟨(ad1046.add ((x9_1).toNat * 3)).block, (ad1046.add ((x9_1).toNat * 3)).off + 2, none⟩ = some (.bool ((rd_T174 l2 x9_1).f2)) ∧ w'.cell? (ad1046.add ((x9_1).toNat * 3)) = some (.int .i64 ((rd_T174 l2 x9_1).f0)) ∧ w'.cell? ⟨(ad1046.add ((x9_1).toNat * 3)).block, (ad1046.add ((x9_1).toNat * 3)).off + 1, none⟩ = some (.int .i64 ((rd_T174 l2 x9_1).f1)) ∧ w'.cell? ⟨(ad1046.add ((x9_1).toNat * 3)).block, (ad1046.add ((x9_1).toNat * 3)).off + 2, none⟩ = some (.bool ((rd_T174 l2 x9_1).f2))) (ds := []) #[false, false, false, false, false, false, false, false, false, false, false, false, false, false, false, false, false, false, false, false, false] (by kernel_rfl) rfl rfl ⟨((HB.out.cell (World.block_lt_of_cell? w _ hw1046_0)).trans hw1046_0), ((HB.out.cell (World.block_lt_of_cell? w _ hw1046_1)).trans hw1046_1), ((HB.out.cell (World.block_lt_of_cell? w _ hw1046_2)).trans hw1046_2), ((HB.out.cell (World.block_lt_of_cell? w _ hw1048_0)).trans hw1048_0), ((HB.out.cell (World.block_lt_of_cell? w _ hw1048_1)).trans hw1048_1), ((HB.out.cell (World.block_lt_of_cell? w _ hw1048_2)).trans hw1048_2)⟩ (fun hHeld => ?_); refine with_tabW foghornlaw11_may.tab6 foghornlaw11_may.bits6 (fun HT_ HW_ => ?_)
              generalize wc.drew = w32 at HO_8 HB hx1046_0 hx1046_1 hx1046_2 hx1048_0 hx1048_1 hx1048_2 hHeld ⊢
              refine pure_ (i := 0) (N := some 36) (v := ?_) (a' := ?_) #[true, false, false, false, false, false, false, false, false, false, false, false, false, false, false, false, false, false, false, false, false] rfl rfl (any_of HT_.out (by kernel_rfl)) (fun _ _ _ h => h) (Or.inl ⟨by rfl, ?_⟩) ?_ ?_
              rotate_left
              ·intro w'
               go_simp
               with_reducible rfl
              rotate_left
              ·simp only [Act.put, List.setIfInBounds_toArray, List.set_cons_zero, List.set_cons_succ, i64_w, i32_w]
               rfl
              refine pure_ (i := 1) (N := some 37) (v := ?_) (a' := ?_) #[true, true, false, false, false, false, false, false, false, false, false, false, false, false, false, false, false, false, false, false, false] rfl rfl (any_of HT_.out (by kernel_rfl)) (fun _ _ _ h => h) (Or.inl ⟨by rfl, ?_⟩) ?_ ?_
              rotate_left
              ·intro w'
               go_simp
               with_reducible rfl
              rotate_left
              ·simp only [Act.put, List.setIfInBounds_toArray, List.set_cons_zero, List.set_cons_succ, i64_w, i32_w]
               rfl
              refine pure_ (i := 2) (N := some 38) (v := ?_) (a' := ?_) #[true, true, true, false, false, false, false, false, false, false, false, false, false, false, false, false, false, false, false, false, false] rfl rfl (any_of HT_.out (by kernel_rfl)) (fun _ _ _ h => h) (Or.inl ⟨by rfl, ?_⟩) ?_ ?_
              rotate_left
              ·intro w'
               go_simp
               with_reducible rfl
              rotate_left
              ·simp only [Act.put, List.setIfInBounds_toArray, List.set_cons_zero, List.set_cons_succ, i64_w, i32_w]
               rfl
              refine pure_ (i := 3) (N := some 39) (v := ?_) (a' := ?_) #[true, true, true, true, false, false, false, false, false, false, false, false, false, false, false, false, false, false, false, false, false] rfl rfl (any_of HT_.out (by kernel_rfl)) (fun _ _ _ h => h) (Or.inl ⟨by rfl, ?_⟩) ?_ ?_
              rotate_left
              ·intro w'
               go_simp
               with_reducible rfl
              rotate_left
              ·simp only [Act.put, List.setIfInBounds_toArray, List.set_cons_zero, List.set_cons_succ, i64_w, i32_w]
               rfl
              refine pure_ (i := 4) (N := some 40) (v := ?_) (a' := ?_) #[true, true, true, true, true, false, false, false, false, false, false, false, false, false, false, false, false, false, false, false, false] rfl rfl (any_of HT_.out (by kernel_rfl)) (fun _ _ _ h => h) (Or.inl ⟨by rfl, ?_⟩) ?_ ?_
              rotate_left
              ·intro w'
               go_simp
               with_reducible rfl
              rotate_left
              ·simp only [Act.put, List.setIfInBounds_toArray, List.set_cons_zero, List.set_cons_succ, i64_w, i32_w]
               rfl
              refine pure_ (i := 9) (N := some 45) (v := ?_) (a' := ?_) #[true, true, true, true, true, false, false, false, false, true, false, false, false, false, false, false, false, false, false, false, false] rfl rfl (any_of HT_.out (by kernel_rfl)) (fun _ _ _ h => h) (Or.inl ⟨by rfl, ?_⟩) ?_ ?_
              rotate_left
              ·intro w'
               go_simp
               with_reducible rfl
              rotate_left
              ·simp only [Act.put, List.setIfInBounds_toArray, List.set_cons_zero, List.set_cons_succ, i64_w, i32_w]
               rfl
              refine pure_ (i := 10) (N := some 46) (v := ?_) (a' := ?_) #[true, true, true, true, true, false, false, false, false, true, true, false, false, false, false, false, false, false, false, false, false] rfl rfl (any_of HT_.out (by kernel_rfl)) (fun _ _ _ h => h) (Or.inl ⟨by rfl, ?_⟩) ?_ ?_
              rotate_left
              ·intro w'
               go_simp
               with_reducible rfl
              rotate_left
              ·simp only [Act.put, List.setIfInBounds_toArray, List.set_cons_zero, List.set_cons_succ, i64_w, i32_w]
               rfl
              refine pure_ (i := 11) (N := some 47) (v := ?_) (a' := ?_) #[true, true, true, true, true, false, false, false, false, true, true, true, false, false, false, false, false, false, false, false, false] rfl rfl (any_of HT_.out (by kernel_rfl)) (fun _ _ _ h => h) (Or.inl ⟨by rfl, ?_⟩) ?_ ?_
              rotate_left
              ·intro w'
               go_simp
               with_reducible rfl
              rotate_left
              ·simp only [Act.put, List.setIfInBounds_toArray, List.set_cons_zero, List.set_cons_succ, i64_w, i32_w]
               rfl
              refine pure_ (i := 12) (N := some 48) (v := ?_) (a' := ?_) #[true, true, true, true, true, false, false, false, false, true, true, true, true, false, false, false, false, false, false, false, false] rfl rfl (any_of HT_.out (by kernel_rfl)) (fun _ _ _ h => h) (Or.inl ⟨by rfl, ?_⟩) ?_ ?_
              rotate_left
              ·intro w'
               go_simp
               with_reducible rfl
              rotate_left
              ·simp only [Act.put, List.setIfInBounds_toArray, List.set_cons_zero, List.set_cons_succ, i64_w, i32_w]
               rfl
              refine take_ (i := 5) (N := some 41) (v := ?_) (a' := ?_) #[true, true, true, true, true, true, false, false, false, true, true, true, true, false, false, false, false, false, false, false, false] rfl rfl (take_ofW HT_.out HW_.out (by kernel_rfl)) (fun _ _ _ h => h) (Or.inl ⟨by rfl, ?_⟩) hHeld ?_ ?_
              rotate_left
              ·rintro w' ⟨s0, s1, s2, s3, s4, s5⟩
               go_simp
               with_reducible rfl
              rotate_left
              ·simp only [Act.put, List.setIfInBounds_toArray, List.set_cons_zero, List.set_cons_succ, i64_w, i32_w]
               rfl
              refine pure_ (i := 6) (N := some 42) (v := ?_) (a' := ?_) #[true, true, true, true, true, true, true, false, false, true, true, true, true, false, false, false, false, false, false, false, false] rfl rfl (any_of HT_.out (by kernel_rfl)) (fun _ _ _ h => h) (Or.inl ⟨by rfl, ?_⟩) ?_ ?_
              rotate_left
              ·intro w'
               go_simp
               with_reducible rfl
              rotate_left
              ·simp only [Act.put, List.setIfInBounds_toArray, List.set_cons_zero, List.set_cons_succ, i64_w, i32_w]
               rfl
              refine pure_ (i := 7) (N := some 43) (v := ?_) (a' := ?_) #[true, true, true, true, true, true, true, true, false, true, true, true, true, false, false, false, false, false, false, false, false] rfl rfl (any_of HT_.out (by kernel_rfl)) (fun _ _ _ h => h) (Or.inl ⟨by rfl, ?_⟩) ?_ ?_
              rotate_left
              ·intro w'
               go_simp
               with_reducible rfl
              rotate_left
              ·simp only [Act.put, List.setIfInBounds_toArray, List.set_cons_zero, List.set_cons_succ, i64_w, i32_w]
               rfl
              refine pure_ (i := 8) (N := some 44) (v := ?_) (a' := ?_) #[true, true, true, true, true, true, true, true, true, true, true, true, true, false, false, false, false, false, false, false, false] rfl rfl (any_of HT_.out (by kernel_rfl)) (fun _ _ _ h => h) (Or.inl ⟨by rfl, ?_⟩) ?_ ?_
              rotate_left
              ·intro w'
               go_simp
               with_reducible rfl
              rotate_left
              ·simp only [Act.put, List.setIfInBounds_toArray, List.set_cons_zero, List.set_cons_succ, i64_w, i32_w]
               rfl
              refine take_ (i := 13) (N := some 49) (v := ?_) (a' := ?_) #[true, true, true, true, true, true, true, true, true, true, true, true, true, true, false, false, false, false, false, false, false] rfl rfl (take_ofW HT_.out HW_.out (by kernel_rfl)) (fun _ _ _ h => h) (Or.inl ⟨by rfl, ?_⟩) hHeld ?_ ?_
              rotate_left
              ·rintro w' ⟨s0, s1, s2, s3, s4, s5⟩
               go_simp
               with_reducible rfl
              rotate_left
              ·simp only [Act.put, List.setIfInBounds_toArray, List.set_cons_zero, List.set_cons_succ, i64_w, i32_w]
               rfl
              refine pure_ (i := 14) (N := some 50) (v := ?_) (a' := ?_) #[true, true, true, true, true, true, true, true, true, true, true, true, true, true, true, false, false, false, false, false, false] rfl rfl (any_of HT_.out (by kernel_rfl)) (fun _ _ _ h => h) (Or.inl ⟨by rfl, ?_⟩) ?_ ?_
              rotate_left
              ·intro w'
               go_simp
               with_reducible rfl
              rotate_left
              ·simp only [Act.put, List.setIfInBounds_toArray, List.set_cons_zero, List.set_cons_succ, i64_w, i32_w]
               rfl
              refine pure_ (i := 15) (N := some 51) (v := ?_) (a' := ?_) #[true, true, true, true, true, true, true, true, true, true, true, true, true, true, true, true, false, false, false, false, false] rfl rfl (any_of HT_.out (by kernel_rfl)) (fun _ _ _ h => h) (Or.inl ⟨by rfl, ?_⟩) ?_ ?_
              rotate_left
              ·intro w'
               go_simp
               with_reducible rfl
              rotate_left
              ·simp only [Act.put, List.setIfInBounds_toArray, List.set_cons_zero, List.set_cons_succ, i64_w, i32_w]
               rfl
              refine pure_ (i := 16) (N := some 52) (v := ?_) (a' := ?_) #[true, true, true, true, true, true, true, true, true, true, true, true, true, true, true, true, true, false, false, false, false] rfl rfl (any_of HT_.out (by kernel_rfl)) (fun _ _ _ h => h) (Or.inl ⟨by rfl, ?_⟩) ?_ ?_
              rotate_left
              ·intro w'
               go_simp
               with_reducible rfl
              rotate_left
              ·simp only [Act.put, List.setIfInBounds_toArray, List.set_cons_zero, List.set_cons_succ, i64_w, i32_w]
               rfl
              refine pure_ (i := 17) (N := some 53) (v := ?_) (a' := ?_) #[true, true, true, true, true, true, true, true, true, true, true, true, true, true, true, true, true, true, false, false, false] rfl rfl (any_of HT_.out (by kernel_rfl)) (fun _ _ _ h => h) (Or.inl ⟨by rfl, ?_⟩) ?_ ?_
              rotate_left
              ·intro w'
               go_simp
               with_reducible rfl
              rotate_left
              ·simp only [Act.put, List.setIfInBounds_toArray, List.set_cons_zero, List.set_cons_succ, i64_w, i32_w]
               rfl
              refine one_ (i := 18) (N := some 54) #[true, true, true, true, true, true, true, true, true, true, true, true, true, true, true, true, true, true, true, false, false] rfl rfl (one_of HT_.out (by kernel_rfl)) (by decide) (fun K hK => ?_)
              refine value_ (w1 := ?_) (v := ?_) (by rfl) rfl ?_ ?_
              rotate_left 2
              ·go_simp
               constructor
               ·rfl
               ·rfl
              refine hK.out _ _ ⟨(World.cell?_alloc_lt _ _ _ (World.block_lt_of_cell? _ _ (((HB.out.cell (World.block_lt_of_cell? w _ hw1046_0)).trans hw1046_0)))).trans (((HB.out.cell (World.block_lt_of_cell? w _ hw1046_0)).trans hw1046_0)), (World.cell?_alloc_lt _ _ _ (World.block_lt_of_cell? _ _ (((HB.out.cell (World.block_lt_of_cell? w _ hw1046_1)).trans hw1046_1)))).trans (((HB.out.cell (World.block_lt_of_cell? w _ hw1046_1)).trans hw1046_1)), (World.cell?_alloc_lt _ _ _ (World.block_lt_of_cell? _ _ (((HB.out.cell (World.block_lt_of_cell? w _ hw1046_2)).trans hw1046_2)))).trans (((HB.out.cell (World.block_lt_of_cell? w _ hw1046_2)).trans hw1046_2)), (World.cell?_alloc_lt _ _ _ (World.block_lt_of_cell? _ _ (((HB.out.cell (World.block_lt_of_cell? w _ hw1048_0)).trans hw1048_0)))).trans (((HB.out.cell (World.block_lt_of_cell? w _ hw1048_0)).trans hw1048_0)), (World.cell?_alloc_lt _ _ _ (World.block_lt_of_cell? _ _ (((HB.out.cell (World.block_lt_of_cell? w _ hw1048_1)).trans hw1048_1)))).trans (((HB.out.cell (World.block_lt_of_cell? w _ hw1048_1)).trans hw1048_1)), (World.cell?_alloc_lt _ _ _ (World.block_lt_of_cell? _ _ (((HB.out.cell (World.block_lt_of_cell? w _ hw1048_2)).trans hw1048_2)))).trans (((HB.out.cell (World.block_lt_of_cell? w _ hw1048_2)).trans hw1048_2))⟩ (fun hHeld => ?_)
              clear hK K
              refine norm_ (a' := ?_) ?_ ?_
              rotate_left
              ·show Act.put _ (some 54) _ = _
               simp only [Act.put, List.setIfInBounds_toArray, List.set_cons_zero, List.set_cons_succ, i64_w, i32_w]
               rfl
              refine one_ (i := 19) (N := some 55) #[true, true, true, true, true, true, true, true, true, true, true, true, true, true, true, true, true, true, true, true, false] rfl rfl (one_of HT_.out (by kernel_rfl)) (by decide) (fun K hK => ?_)
              refine Kd.R_append_step Kd.cplx (w0 := w) w.heap.size (by rfl) (.tmp 36) (.tmp 54) 24 32 (.complex .f64 0 0) 16 rfl Try.underlying24 info32 rfl (by decide) (by omega) u8 x8_1 (t1047, t1049) [.complex .f64 t1047 t1049] (fun _ => True) (fun _ => False) rfl rfl ?aP (fun _ hk => hk.elim) ?aF ?aO ?aB ?aS ?aL ?_
              (case aP => exact rfl)
              (case aB => exact (by repeat (first | (with_reducible first | exact HB.out | apply below_alloc | apply pw_below_drewN | apply below_drew1) | exact HB.out)))
              (case aF => exact (fun _ _ => trivial))
              (case aO => exact (by (with_reducible repeat (first | apply Kd.R_alloc | apply Kd.R_drewN | apply Kd.R_drew)); exact HO_8.out))
              (case aS => exact (below_size (by repeat (first | (with_reducible first | exact HB.out | apply below_alloc | apply pw_below_drewN | apply below_drew1) | exact HB.out))))
              (case aL => have := LMc22.out; omega)
              intro v1051 w33 ho hb hg hat
              rw [← Ny1050.out] at ho
              have n0_ := Aside0.mk (hb)
              have n1_ := Aside0.mk (ho)
              clear HB
              clear HO_8
              have HB := n0_
              have HO1052 := n1_
              clear n0_ n1_
              clear ho hb hg hat
              refine hK.out _ _ ⟨((HB.out.cell (World.block_lt_of_cell? w _ hw1046_0)).trans hw1046_0), ((HB.out.cell (World.block_lt_of_cell? w _ hw1046_1)).trans hw1046_1), ((HB.out.cell (World.block_lt_of_cell? w _ hw1046_2)).trans hw1046_2), ((HB.out.cell (World.block_lt_of_cell? w _ hw1048_0)).trans hw1048_0), ((HB.out.cell (World.block_lt_of_cell? w _ hw1048_1)).trans hw1048_1), ((HB.out.cell (World.block_lt_of_cell? w _ hw1048_2)).trans hw1048_2)⟩ (fun hHeld => ?_)
              clear hK K
              refine norm_ (a' := ?_) ?_ ?_
              rotate_left
              ·show Act.put _ (some 55) _ = _
               simp only [Act.put, List.setIfInBounds_toArray, List.set_cons_zero, List.set_cons_succ, i64_w, i32_w]
               rfl
              refine pure_ (i := 20) (N := some 8) (v := ?_) (a' := ?_) #[true, true, true, true, true, true, true, true, true, true, true, true, true, true, true, true, true, true, true, true, true] rfl rfl (any_of HT_.out (by kernel_rfl)) (fun _ _ _ h => h) (Or.inl ⟨by rfl, ?_⟩) ?_ ?_
              rotate_left
              ·intro w'
               go_simp
               with_reducible rfl
              rotate_left
              ·simp only [Act.put, List.setIfInBounds_toArray, List.set_cons_zero, List.set_cons_succ, i64_w, i32_w]
               rfl
              refine done_ (done_of HT_.out (by kernel_rfl)) ?_
              obtain ⟨Ao34, co34, eo34⟩ := Kd.R_slice HO1052.out
              subst eo34
              try go_wp2_with ((with_reducible refine gate_callee (f := 28) rfl ?_); refine goesL_ (some 57) rfl rfl Try.func28 (by kernel_rfl) rfl #[.slice Ao34 y1050.length co34] rfl (by (try simp only [List.map_toArray, List.map_cons, List.map_nil]); first | done | rfl | (simp only [List.length_drop, List.length_take]; rfl)) ?_; (with_reducible refine (foghornref11_Check.calls kj13 _ _ y1050 t1053 _ ?side1 ?side2 A23.out).mono ?_); (case side1 => repeat (first | exact (Kd.R_reads' HO1052.out).2.2 | (with_reducible refine Kd.C_alloc ?_ _) | (with_reducible refine Kd.C_drewN ?_ _) | (with_reducible refine Kd.C_drew ?_))); (case side2 => exact (Kd.R_reads' HO1052.out).2.1); rintro e w35 ⟨rfl, hb⟩; refine ⟨_, rfl, ?_⟩; have n0_ := Aside0.mk (Kd.R_below (by (with_reducible repeat (first | apply Kd.R_alloc | apply Kd.R_drewN | apply Kd.R_drew)); exact HO1052.out) hb); have n1_ := Aside0.mk (below_step (by repeat (first | (with_reducible first | exact HB.out | apply below_alloc | apply pw_below_drewN | apply below_drew1) | exact HB.out)) hb); clear HO1052; clear HB; have HO1052 := n0_; have HB := n1_; clear n0_ n1_; (try clear hb); (try clear hb2); (try clear hk); (try clear hi); have q36 : ((ji29) : Int) ≤ ((y1050.length : Int) : Int) := of_decide_eq_true (by first | (with_reducible assumption) | assumption); obtain ⟨i036, hi036, _, hsz36, _⟩ := info_parts info32; have hcut36 := cut_to (P := Try.prog) 24 32 .i64 Try.underlying24 hi036 Ao34 y1050.length co34 (ji29) (of_decide_eq_true (by first | (with_reducible assumption) | assumption)) q36 (Kd.R_reads' HO1052.out).2.1; have hr36 := Kd.R_take (m := ((ji29) : Int).toNat) HO1052.out (by omega); have hy36 : y1054.length = ((ji29) : Int).toNat := (by rw [Ny1054.out, List.length_take]; omega); rw [← Ny1054.out] at hr36; rw [← hy36] at hr36 hcut36; clear hy36 hi036 hsz36 HO1052; have HO1056 := Aside0.mk hr36; clear hr36; replace q36 := eq_true q36)
              go_ret
              exact ⟨_, by first | rfl | (simp [errW_none, errW_some] <;> rfl) | (simp only [← hji4, ← hji29]; first | rfl | (simp [errW_none, errW_some] <;> rfl)) | (simp [*, errW_none, errW_some] <;> rfl), by (with_reducible repeat (first | apply Kd.R_alloc | apply Kd.R_drewN | apply Kd.R_drew)); exact HO1056.out, by repeat (first | (with_reducible first | exact HB.out | apply below_alloc | apply pw_below_drewN | apply below_drew1) | exact HB.out)⟩
             ·rw [if_neg c31] at H
              exact absurd H (by simp)
            ·rw [if_neg c30] at H
             exact absurd H (by simp)
          ·rw [if_neg c22] at H
           exact absurd H (by simp)
         ·rw [if_neg c19] at H
          exact absurd H (by simp)
        ·rw [if_neg c18] at H
         exact absurd H (by simp)
       ·replace c17 := Bool.eq_false_iff.mpr c17
        subst c17
        have H1 : (some x8_1) = some r := by rw [if_neg (show ¬ (false = true) by decide)] at H; exact H
        clear H
        have H := H1
        clear H1
        obtain rfl := Option.some.inj H
        go_wp2
        go_ret
        exact ⟨_, by first | rfl | (simp [errW_none, errW_some] <;> rfl) | (simp only [← hji4]; first | rfl | (simp [errW_none, errW_some] <;> rfl)) | (simp [*, errW_none, errW_some] <;> rfl), by (with_reducible repeat (first | apply Kd.R_alloc | apply Kd.R_drewN | apply Kd.R_drew)); exact HO_8.out, by repeat (first | (with_reducible first | exact HB.out | apply below_alloc | apply pw_below_drewN | apply below_drew1) | exact HB.out)⟩
  ·rw [if_neg c6] at H
   exact absurd H (by simp)
 ·rw [if_neg c5] at H
  exact absurd H (by simp)
attribute [local go_sem high] eqA83
set_option maxHeartbeats 8000000 in
set_option maxRecDepth 100000 in
theorem feedback_Residue.calls (k : Nat) (a0 : Int) (A1 : Option Addr) (c1 : Nat) (l1 : List (Nat × Nat)) (A2 : Option Addr) (c2 : Nat) (l2 : List (S101)) (r1 : List (Nat × Nat)) (r2 : Int) (w : World) (hr1 : Kd.C Kd.cplx w A1 l1.length l1) (hc1 : l1.length ≤ c1) (hr2 : Kd.C k101 w A2 l2.length l2) (hc2 : l2.length ≤ c2) (h : feedback_Residue.f k a0 l1 l2 = some (r1, r2)) :
  Calls Try.prog 96 #[.int .i64 a0, .slice A1 l1.length c1, .slice A2 l2.length c2] w fun e w' => ∃ v0_ : Value, e = .returned (.tuple #[v0_, .int .i64 r2]) ∧ Kd.R Kd.cplx 32 w' w.heap.size (fun _ => True) v0_ r1 ∧ Below w.heap.size w w' := by
 have HR1 := Aside0.mk hr1
 have HC1 := Aside0.mk hc1
 clear hr1 hc1
 have HR2 := Aside0.mk hr2
 have HC2 := Aside0.mk hc2
 clear hr2 hc2
 have HB := Aside0.mk (Below.refl w.heap.size w)
 have H : ((feedback_run.f k a0 l1 l2).bind fun bt1127 => (some (bt1127.2.1, bt1127.2.2))) = some (r1, r2) := h
 clear h
 replace H := Option.bind_eq_some_iff.mp H
 obtain ⟨⟨t1127, t1128, t1129⟩, A40, H⟩ := H
 replace H : (some (t1128, t1129)) = some (r1, r2) := H
 have A4 := Aside0.mk A40
 clear A40
 simp only [Option.some.injEq, Prod.mk.injEq] at H
 obtain ⟨rfl, rfl⟩ := H
 go_enter Try.func96, Try.ntmps96
 go_wp2_with ((with_reducible refine gate_callee (f := 139) rfl ?_); refine goesL_ (some 15) rfl rfl Try.func139 (by kernel_rfl) rfl #[.int .i64 a0, .slice A1 l1.length c1, .slice A2 l2.length c2] rfl (by (try simp only [List.map_toArray, List.map_cons, List.map_nil]); first | done | rfl | (simp only [List.length_drop, List.length_take]; rfl)) ?_; (with_reducible refine (feedback_run.calls k a0 _ _ l1 _ _ l2 t1127 t1128 t1129 _ ?side1 ?side2 ?side3 ?side4 A4.out).mono ?_); (case side1 => repeat (first | exact HR1.out | (with_reducible refine Kd.C_alloc ?_ _) | (with_reducible refine Kd.C_drewN ?_ _) | (with_reducible refine Kd.C_drew ?_))); (case side2 => exact HC1.out); (case side3 => repeat (first | exact HR2.out | (with_reducible refine Kd.C_alloc ?_ _) | (with_reducible refine Kd.C_drewN ?_ _) | (with_reducible refine Kd.C_drew ?_))); (case side4 => exact HC2.out); rintro e w5 ⟨v1130, v1132, rfl, ho0, ho1, hb⟩; refine ⟨_, rfl, ?_⟩; have n0_ := Aside0.mk (Kd.R_lower ho0 (below_size (by repeat (first | (with_reducible first | exact HB.out | apply below_alloc | apply pw_below_drewN | apply below_drew1) | exact HB.out)))); have n1_ := Aside0.mk (Kd.R_lower ho1 (below_size (by repeat (first | (with_reducible first | exact HB.out | apply below_alloc | apply pw_below_drewN | apply below_drew1) | exact HB.out)))); have n2_ := Aside0.mk (below_step (by repeat (first | (with_reducible first | exact HB.out | apply below_alloc | apply pw_below_drewN | apply below_drew1) | exact HB.out)) hb); clear HB; have HO1131 := n0_; have HO1133 := n1_; have HB := n2_; clear n0_ n1_ n2_; (try clear hb); (try clear hb2); (try clear hk); (try clear hi); (try clear ho0); (try clear ho1))
 go_ret2
 exact ⟨_, by first | rfl | (simp [errW_none, errW_some] <;> rfl) | (simp [*, errW_none, errW_some] <;> rfl), by (with_reducible repeat (first | apply Kd.R_alloc | apply Kd.R_drewN | apply Kd.R_drew)); exact HO1133.out, by repeat (first | (with_reducible first | exact HB.out | apply below_alloc | apply pw_below_drewN | apply below_drew1) | exact HB.out)⟩
set_option maxHeartbeats 8000000 in
set_option maxRecDepth 100000 in
theorem foghornlaw11_answer.calls (k : Nat) (A0 : Option Addr) (c0 : Nat) (l0 : List (Nat × Nat)) (A1 : Option Addr) (c1 : Nat) (l1 : List (Nat × Nat)) (a2 : Int) (r : (Nat × Nat)) (w : World) (hr0 : Kd.C Kd.cplx w A0 l0.length l0) (hc0 : l0.length ≤ c0) (hr1 : Kd.C Kd.cplx w A1 l1.length l1) (hc1 : l1.length ≤ c1) (h : foghornlaw11_answer.f k l0 l1 a2 = some r) :
  Calls Try.prog 100 #[.slice A0 l0.length c0, .slice A1 l1.length c1, .int .i64 a2] w fun e w' => e = .returned (.complex .f64 r.1 r.2) ∧ Below w.heap.size w w' := by
 have HR0 := Aside0.mk hr0
 have HC0 := Aside0.mk hc0
 clear hr0 hc0
 have HR1 := Aside0.mk hr1
 have HC1 := Aside0.mk hc1
 clear hr1 hc1
 have HB := Aside0.mk (Below.refl w.heap.size w)
 have H : (foghornlaw11_answer.l0 k l0 l1 a2 0 0 0) = some r := h
 clear h
 have H' := Aside0.mk H
 clear H
 go_enter Try.func100, Try.ntmps100
 go_wp2
 go_loopg [7, 8, 9] k (fun kq v7 v8 v9 w' => ∃ (x7_1 : Nat) (x8_1 : Nat) (x9_1 : Int), v7 = .float .f64 x7_1 ∧ v8 = .float .f64 x8_1 ∧ v9 = .int .i64 x9_1 ∧ Aside0 (foghornlaw11_answer.l0 kq l0 l1 a2 x7_1 x8_1 x9_1 = some r) ∧ Aside0 (kq ≤ k) ∧ Aside0 (Below w.heap.size w w'))
 case atStart => exact ⟨(0), (0), (0), (by first | rfl | (simp; done) | (simp [*]; done)), (by first | rfl | (simp; done) | (simp [*]; done)), (by first | rfl | (simp; done) | (simp [*]; done)), H', ⟨Nat.le_refl _⟩, ⟨by repeat (first | (with_reducible first | exact HB.out | apply below_alloc | apply pw_below_drewN | apply below_drew1) | exact HB.out)⟩⟩
 case round =>
  clear H'
  try clear c1
  try clear p2
  obtain ⟨x7_1, x8_1, x9_1, rfl, rfl, rfl, HA, HK1, HB⟩ := hrel
  cases gk with
  | zero => exact absurd HA.out (by simp [foghornlaw11_answer.l0])
  | succ k1 =>
   have H := HA.out
   clear HA
   simp only [foghornlaw11_answer.l0] at H
   by_cases c4 : x9_1 < (l0.length : Int)
   ·rw [if_pos c4] at H
    have c4b0 : decide (x9_1 < (l0.length : Int)) = true := decide_eq_true c4
    clear c4
    by_cases c5 : x9_1 ≤ a2
    ·rw [if_pos c5] at H
     have c5b0 : decide (x9_1 ≤ a2) = true := decide_eq_true c5
     clear c5
     obtain ⟨ji6, hji6⟩ : ∃ j_ : Int, (wrap64 (a2 - x9_1)) = j_ := ⟨_, rfl⟩
     replace H : (if 0 ≤ (ji6) then (if (ji6) < (l1.length : Int) then (if 0 ≤ x9_1 then ((floatBits .mul .f64 ((rdOf (0, 0) l0 x9_1).1) ((rdOf (0, 0) l1 (ji6)).1)).bind fun t1225 => ((floatBits .mul .f64 ((rdOf (0, 0) l0 x9_1).2) ((rdOf (0, 0) l1 (ji6)).2)).bind fun t1227 => ((floatBits .sub .f64 t1225 t1227).bind fun t1228 => ((floatBits .add .f64 x7_1 t1228).bind fun t1229 => ((floatBits .mul .f64 ((rdOf (0, 0) l0 x9_1).1) ((rdOf (0, 0) l1 (ji6)).2)).bind fun t1231 => ((floatBits .mul .f64 ((rdOf (0, 0) l0 x9_1).2) ((rdOf (0, 0) l1 (ji6)).1)).bind fun t1233 => ((floatBits .add .f64 t1231 t1233).bind fun t1234 => ((floatBits .add .f64 x8_1 t1234).bind fun t1235 => (foghornlaw11_answer.l0 k1 l0 l1 a2 t1229 t1235 (wrap64 (x9_1 + 1))))))))))) else (none)) else (none)) else (none)) = some r := by first | (rw [hji6] at H; exact H) | (simp only [hji6] at H ⊢; exact H)
     have hji6w : (IntKind.i64.wrap (a2 - x9_1)) = ji6 := (i64_w _).trans hji6
     by_cases c7 : 0 ≤ (ji6)
     ·rw [if_pos c7] at H
      have c7b0 : decide (0 ≤ (ji6)) = true := decide_eq_true c7
      clear c7
      by_cases c8 : (ji6) < (l1.length : Int)
      ·rw [if_pos c8] at H
       have c8b0 : decide ((ji6) < (l1.length : Int)) = true := decide_eq_true c8
       clear c8
       by_cases c9 : 0 ≤ x9_1
       ·rw [if_pos c9] at H
        have c9b0 : decide (0 ≤ x9_1) = true := decide_eq_true c9
        clear c9
        replace H := Option.bind_eq_some_iff.mp H
        obtain ⟨t1225, A100, H⟩ := H
        replace H : ((floatBits .mul .f64 ((rdOf (0, 0) l0 x9_1).2) ((rdOf (0, 0) l1 (ji6)).2)).bind fun t1227 => ((floatBits .sub .f64 t1225 t1227).bind fun t1228 => ((floatBits .add .f64 x7_1 t1228).bind fun t1229 => ((floatBits .mul .f64 ((rdOf (0, 0) l0 x9_1).1) ((rdOf (0, 0) l1 (ji6)).2)).bind fun t1231 => ((floatBits .mul .f64 ((rdOf (0, 0) l0 x9_1).2) ((rdOf (0, 0) l1 (ji6)).1)).bind fun t1233 => ((floatBits .add .f64 t1231 t1233).bind fun t1234 => ((floatBits .add .f64 x8_1 t1234).bind fun t1235 => (foghornlaw11_answer.l0 k1 l0 l1 a2 t1229 t1235 (wrap64 (x9_1 + 1)))))))))) = some r := H
        have A10 := Aside0.mk A100
        clear A100
        replace H := Option.bind_eq_some_iff.mp H
        obtain ⟨t1227, A110, H⟩ := H
        replace H : ((floatBits .sub .f64 t1225 t1227).bind fun t1228 => ((floatBits .add .f64 x7_1 t1228).bind fun t1229 => ((floatBits .mul .f64 ((rdOf (0, 0) l0 x9_1).1) ((rdOf (0, 0) l1 (ji6)).2)).bind fun t1231 => ((floatBits .mul .f64 ((rdOf (0, 0) l0 x9_1).2) ((rdOf (0, 0) l1 (ji6)).1)).bind fun t1233 => ((floatBits .add .f64 t1231 t1233).bind fun t1234 => ((floatBits .add .f64 x8_1 t1234).bind fun t1235 => (foghornlaw11_answer.l0 k1 l0 l1 a2 t1229 t1235 (wrap64 (x9_1 + 1))))))))) = some r := H
        have A11 := Aside0.mk A110
        clear A110
        replace H := Option.bind_eq_some_iff.mp H
        obtain ⟨t1228, A120, H⟩ := H
        replace H : ((floatBits .add .f64 x7_1 t1228).bind fun t1229 => ((floatBits .mul .f64 ((rdOf (0, 0) l0 x9_1).1) ((rdOf (0, 0) l1 (ji6)).2)).bind fun t1231 => ((floatBits .mul .f64 ((rdOf (0, 0) l0 x9_1).2) ((rdOf (0, 0) l1 (ji6)).1)).bind fun t1233 => ((floatBits .add .f64 t1231 t1233).bind fun t1234 => ((floatBits .add .f64 x8_1 t1234).bind fun t1235 => (foghornlaw11_answer.l0 k1 l0 l1 a2 t1229 t1235 (wrap64 (x9_1 + 1)))))))) = some r := H
        have A12 := Aside0.mk A120
        clear A120
        replace H := Option.bind_eq_some_iff.mp H
        obtain ⟨t1229, A130, H⟩ := H
        replace H : ((floatBits .mul .f64 ((rdOf (0, 0) l0 x9_1).1) ((rdOf (0, 0) l1 (ji6)).2)).bind fun t1231 => ((floatBits .mul .f64 ((rdOf (0, 0) l0 x9_1).2) ((rdOf (0, 0) l1 (ji6)).1)).bind fun t1233 => ((floatBits .add .f64 t1231 t1233).bind fun t1234 => ((floatBits .add .f64 x8_1 t1234).bind fun t1235 => (foghornlaw11_answer.l0 k1 l0 l1 a2 t1229 t1235 (wrap64 (x9_1 + 1))))))) = some r := H
        have A13 := Aside0.mk A130
        clear A130
        replace H := Option.bind_eq_some_iff.mp H
        obtain ⟨t1231, A140, H⟩ := H
        replace H : ((floatBits .mul .f64 ((rdOf (0, 0) l0 x9_1).2) ((rdOf (0, 0) l1 (ji6)).1)).bind fun t1233 => ((floatBits .add .f64 t1231 t1233).bind fun t1234 => ((floatBits .add .f64 x8_1 t1234).bind fun t1235 => (foghornlaw11_answer.l0 k1 l0 l1 a2 t1229 t1235 (wrap64 (x9_1 + 1)))))) = some r := H
        have A14 := Aside0.mk A140
        clear A140
        replace H := Option.bind_eq_some_iff.mp H
        obtain ⟨t1233, A150, H⟩ := H
        replace H : ((floatBits .add .f64 t1231 t1233).bind fun t1234 => ((floatBits .add .f64 x8_1 t1234).bind fun t1235 => (foghornlaw11_answer.l0 k1 l0 l1 a2 t1229 t1235 (wrap64 (x9_1 + 1))))) = some r := H
        have A15 := Aside0.mk A150
        clear A150
        replace H := Option.bind_eq_some_iff.mp H
        obtain ⟨t1234, A160, H⟩ := H
        replace H : ((floatBits .add .f64 x8_1 t1234).bind fun t1235 => (foghornlaw11_answer.l0 k1 l0 l1 a2 t1229 t1235 (wrap64 (x9_1 + 1)))) = some r := H
        have A16 := Aside0.mk A160
        clear A160
        replace H := Option.bind_eq_some_iff.mp H
        obtain ⟨t1235, A170, H⟩ := H
        replace H : (foghornlaw11_answer.l0 k1 l0 l1 a2 t1229 t1235 (wrap64 (x9_1 + 1))) = some r := H
        have A17 := Aside0.mk A170
        clear A170
        have H' := Aside0.mk H
        clear H
        have p1223 : 0 ≤ ((ji6) : Int) := of_decide_eq_true (by first | (with_reducible assumption) | assumption)
        have q1223 : (ji6) < (l1.length : Int) := of_decide_eq_true (by first | (with_reducible assumption) | assumption)
        obtain ⟨ad1223, e1223, hx1223_0⟩ := Kd.at_cplx HR1.out (ji6) p1223 q1223
        cases e1223
        replace hx1223_0 := (HB.out.cell (World.block_lt_of_cell? w _ hx1223_0)).trans hx1223_0
        replace p1223 := eq_true p1223
        replace q1223 := eq_true q1223
        have p1224 : 0 ≤ (x9_1 : Int) := of_decide_eq_true (by first | (with_reducible assumption) | assumption)
        have q1224 : x9_1 < (l0.length : Int) := of_decide_eq_true (by first | (with_reducible assumption) | assumption)
        obtain ⟨ad1224, e1224, hx1224_0⟩ := Kd.at_cplx HR0.out x9_1 p1224 q1224
        cases e1224
        replace hx1224_0 := (HB.out.cell (World.block_lt_of_cell? w _ hx1224_0)).trans hx1224_0
        replace p1224 := eq_true p1224
        replace q1224 := eq_true q1224
        have hfoA10_ := fun (t_ : TypeId) (w_ : World) => run_float_arith (P := Try.prog) w_ .mul t_ .f64 ((rdOf (0, 0) l0 x9_1).1) ((rdOf (0, 0) l1 (ji6)).1) t1225 A10.out
        have p1226 : 0 ≤ (x9_1 : Int) := of_decide_eq_true (by first | (with_reducible assumption) | assumption)
        have q1226 : x9_1 < (l0.length : Int) := of_decide_eq_true (by first | (with_reducible assumption) | assumption)
        obtain ⟨ad1226, e1226, hx1226_0⟩ := Kd.at_cplx HR0.out x9_1 p1226 q1226
        obtain rfl : ad1224 = ad1226 := (by injection e1226)
        replace hx1226_0 := (HB.out.cell (World.block_lt_of_cell? w _ hx1226_0)).trans hx1226_0
        replace p1226 := eq_true p1226
        replace q1226 := eq_true q1226
        have hfoA11_ := fun (t_ : TypeId) (w_ : World) => run_float_arith (P := Try.prog) w_ .mul t_ .f64 ((rdOf (0, 0) l0 x9_1).2) ((rdOf (0, 0) l1 (ji6)).2) t1227 A11.out
        have hfoA12_ := fun (t_ : TypeId) (w_ : World) => run_float_arith (P := Try.prog) w_ .sub t_ .f64 t1225 t1227 t1228 A12.out
        have hfoA13_ := fun (t_ : TypeId) (w_ : World) => run_float_arith (P := Try.prog) w_ .add t_ .f64 x7_1 t1228 t1229 A13.out
        have p1230 : 0 ≤ (x9_1 : Int) := of_decide_eq_true (by first | (with_reducible assumption) | assumption)
        have q1230 : x9_1 < (l0.length : Int) := of_decide_eq_true (by first | (with_reducible assumption) | assumption)
        obtain ⟨ad1230, e1230, hx1230_0⟩ := Kd.at_cplx HR0.out x9_1 p1230 q1230
        obtain rfl : ad1224 = ad1230 := (by injection e1230)
        replace hx1230_0 := (HB.out.cell (World.block_lt_of_cell? w _ hx1230_0)).trans hx1230_0
        replace p1230 := eq_true p1230
        replace q1230 := eq_true q1230
        have hfoA14_ := fun (t_ : TypeId) (w_ : World) => run_float_arith (P := Try.prog) w_ .mul t_ .f64 ((rdOf (0, 0) l0 x9_1).1) ((rdOf (0, 0) l1 (ji6)).2) t1231 A14.out
        have p1232 : 0 ≤ (x9_1 : Int) := of_decide_eq_true (by first | (with_reducible assumption) | assumption)
        have q1232 : x9_1 < (l0.length : Int) := of_decide_eq_true (by first | (with_reducible assumption) | assumption)
        obtain ⟨ad1232, e1232, hx1232_0⟩ := Kd.at_cplx HR0.out x9_1 p1232 q1232
        obtain rfl : ad1224 = ad1232 := (by injection e1232)
        replace hx1232_0 := (HB.out.cell (World.block_lt_of_cell? w _ hx1232_0)).trans hx1232_0
        replace p1232 := eq_true p1232
        replace q1232 := eq_true q1232
        have hfoA15_ := fun (t_ : TypeId) (w_ : World) => run_float_arith (P := Try.prog) w_ .mul t_ .f64 ((rdOf (0, 0) l0 x9_1).2) ((rdOf (0, 0) l1 (ji6)).1) t1233 A15.out
        have hfoA16_ := fun (t_ : TypeId) (w_ : World) => run_float_arith (P := Try.prog) w_ .add t_ .f64 t1231 t1233 t1234 A16.out
        have hfoA17_ := fun (t_ : TypeId) (w_ : World) => run_float_arith (P := Try.prog) w_ .add t_ .f64 x8_1 t1234 t1235 A17.out
        go_wp2
        repeat (go_quiet (fail); try go_wp2)
        first | go_roundg k1 | (simp only [add_plain] at *; go_roundg k1)
        case measure => have := HK1.out; omega
        case rel => exact ⟨(t1229), (t1235), (wrap64 (x9_1 + 1)), (by first | rfl | (simp; done) | (simp [*]; done)), (by first | rfl | (simp; done) | (simp [*]; done)), (by first | rfl | (simp; done) | (simp [*]; done)), H', ⟨by have := HK1.out; omega⟩, ⟨by repeat (first | (with_reducible first | exact HB.out | apply below_alloc | apply pw_below_drewN | apply below_drew1) | exact HB.out)⟩⟩
       ·rw [if_neg c9] at H
        exact absurd H (by simp)
      ·rw [if_neg c8] at H
       exact absurd H (by simp)
     ·rw [if_neg c7] at H
      exact absurd H (by simp)
    ·rw [if_neg c5] at H
     have c5b0 : decide (x9_1 ≤ a2) = false := decide_eq_false c5
     clear c5
     obtain rfl := Option.some.inj H
     go_wp2
     go_ret
     exact ⟨by first | rfl | (simp [errW_none, errW_some] <;> rfl) | (simp [*, errW_none, errW_some] <;> rfl), by repeat (first | (with_reducible first | exact HB.out | apply below_alloc | apply pw_below_drewN | apply below_drew1) | exact HB.out)⟩
   ·rw [if_neg c4] at H
    have c4b0 : decide (x9_1 < (l0.length : Int)) = false := decide_eq_false c4
    clear c4
    obtain rfl := Option.some.inj H
    go_wp2
    go_ret
    exact ⟨by first | rfl | (simp [errW_none, errW_some] <;> rfl) | (simp [*, errW_none, errW_some] <;> rfl), by repeat (first | (with_reducible first | exact HB.out | apply below_alloc | apply pw_below_drewN | apply below_drew1) | exact HB.out)⟩
end Go.Proofs.Ythfcafllcgjepaa.Q
