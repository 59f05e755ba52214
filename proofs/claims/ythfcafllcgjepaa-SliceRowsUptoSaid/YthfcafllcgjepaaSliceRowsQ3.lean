-- Printed by myprint.py (ours) over the kit's printer, out of the translation.
import Derived.Test.YthfcafllcgjepaaSliceRowsK0
import Derived.Test.YthfcafllcgjepaaSliceRowsF1
import Derived.Test.YthfcafllcgjepaaSliceRowsQ0
import Derived.Test.YthfcafllcgjepaaSliceRowsQ2
namespace Go.Proofs.Ythfcafllcgjepaa.Q
open Go.RowKit Go.Proofs.YthfcafllcgjepaaW.PrintWords Go.Proofs.YthfcafllcgjepaaW.PrintLast Go.Proofs.YthfcafllcgjepaaW.PrintMore
attribute [local go_sem] ArrW.ptrOf_slice unary_neg_float unary_neg_complex run_store_float run_store_complex max2_int min2_int max_two min_two max_three min_three max_four min_four   -- for this text's walks alone
set_option linter.unusedVariables false
set_option linter.unusedSimpArgs false

/-! ### foghornlaw05_samples: function 66 -/
set_option maxHeartbeats 8000000 in
set_option maxRecDepth 100000 in
theorem foghornlaw05_samples.calls (k : Nat) (A0 : Option Addr) (c0 : Nat) (l0 : List (S206)) (r : List (S101)) (w : World) (hr0 : Kd.C k206 w A0 l0.length l0) (hc0 : l0.length ≤ c0) (h : foghornlaw05_samples.f k l0 = some r) :
  Calls Try.prog 66 #[.slice A0 l0.length c0] w fun e w' => ∃ v0_ : Value, e = .returned (v0_) ∧ Kd.U (k101, (⟨(4651892959631900672, 0), false⟩ : S101)) 101 w' w.heap.size (fun _ => True) v0_ r ∧ Below w.heap.size w w' := by
 have hu101 := Try.underlying101
 have HR0 := Aside0.mk hr0
 have HC0 := Aside0.mk hc0
 clear hr0 hc0
 have HB := Aside0.mk (Below.refl w.heap.size w)
 have H : (foghornlaw05_samples.l0 k l0 ([] : List (S101)) 0) = some r := h
 clear h
 have H' := Aside0.mk H
 clear H
 go_enter Try.func66, Try.ntmps66
 go_wp2
 go_loopg [3, 4] k (fun kq v3 v4 w' => ∃ (x3_1 : List (S101)) (x4_1 : Int), v4 = .int .i64 x4_1 ∧ Aside0 (foghornlaw05_samples.l0 kq l0 x3_1 x4_1 = some r) ∧ Aside0 (kq ≤ k) ∧ Aside0 (Kd.R k101 101 w' w.heap.size (fun _ => True) v3 x3_1) ∧ Aside0 (Below w.heap.size w w'))
 case atStart => exact ⟨(([] : List (S101))), (0), (by first | rfl | (simp; done) | (simp [*]; done)), H', ⟨Nat.le_refl _⟩, ⟨by first | exact Kd.R_nil _ _ _ _ _ | exact Kd.N_nil _ _ _ _ _ | exact Kd.V_nil _ _ _ _ _ | exact Kd.Q_nil _ _ _ _ _ | exact Kd.S_nil _ _ _ _ _⟩, ⟨by repeat (first | (with_reducible first | exact HB.out | apply below_alloc | apply pw_below_drewN | apply below_drew1) | exact HB.out)⟩⟩
 case round =>
  clear H'
  obtain ⟨x3_1, x4_1, rfl, HA, HK1, HO_3, HB⟩ := hrel
  cases gk with
  | zero => exact absurd HA.out (by simp [foghornlaw05_samples.l0])
  | succ k1 =>
   have H := HA.out
   clear HA
   simp only [foghornlaw05_samples.l0] at H
   by_cases c2 : x4_1 < (l0.length : Int)
   ·rw [if_pos c2] at H
    have c2b0 : decide (x4_1 < (l0.length : Int)) = true := decide_eq_true c2
    clear c2
    by_cases c3 : 0 ≤ x4_1
    ·rw [if_pos c3] at H
     have c3b0 : decide (0 ≤ x4_1) = true := decide_eq_true c3
     clear c3
     replace H := Option.bind_eq_some_iff.mp H
     obtain ⟨t775, A40, H⟩ := H
     replace H : ((floatBits .quo .f64 (floatOfInt .f64 ((rd_T206 l0 x4_1).f1)) 4661225614328463360).bind fun t777 => (if x3_1.length < 5864062014805 then (foghornlaw05_samples.l0 k1 l0 (x3_1 ++ [(⟨(t775, t777), (rd_T206 l0 x4_1).f2⟩ : S101)]) (wrap64 (x4_1 + 1))) else (none))) = some r := H
     have A4 := Aside0.mk A40
     clear A40
     replace H := Option.bind_eq_some_iff.mp H
     obtain ⟨t777, A50, H⟩ := H
     replace H : (if x3_1.length < 5864062014805 then (foghornlaw05_samples.l0 k1 l0 (x3_1 ++ [(⟨(t775, t777), (rd_T206 l0 x4_1).f2⟩ : S101)]) (wrap64 (x4_1 + 1))) else (none)) = some r := H
     have A5 := Aside0.mk A50
     clear A50
     by_cases c6 : x3_1.length < 5864062014805
     ·rw [if_pos c6] at H
      have LMc6 := Aside0.mk c6
      clear c6
      obtain ⟨y779, hy779⟩ : ∃ y_ : List (S101), y_ = (x3_1 ++ [(⟨(t775, t777), (rd_T206 l0 x4_1).f2⟩ : S101)]) := ⟨_, rfl⟩
      replace H : (foghornlaw05_samples.l0 k1 l0 y779 (wrap64 (x4_1 + 1))) = some r := by first | (rw [hy779]; with_reducible exact H) | (have H2_ := (Option.bind_some _ _).symm.trans H; rw [hy779]; with_reducible exact H2_) | (have H2_ := (Option.bind_some _ _).symm.trans H; with_reducible exact H2_) | with_reducible exact H | (rw [hy779]; exact H) | exact H
      have Ny779 := Aside0.mk hy779
      clear hy779
      have H' := Aside0.mk H
      clear H
      try go_wp2
      have n0_ := Aside0.mk (Kd.R_drew HO_3.out)
      have n1_ := Aside0.mk (below_drew1 HB.out)
      clear HO_3
      clear HB
      have HO_3 := n0_
      have HB := n1_
      clear n0_ n1_
      have p774 : 0 ≤ (x4_1 : Int) := of_decide_eq_true (by first | (with_reducible assumption) | assumption)
      have q774 : x4_1 < (l0.length : Int) := of_decide_eq_true (by first | (with_reducible assumption) | assumption)
      obtain ⟨ad774, e774, hx774_0, hx774_1, hx774_2⟩ := at_T206 HR0.out x4_1 p774 q774
      have hw774_2 := hx774_2
      have hw774_1 := hx774_1
      have hw774_0 := hx774_0
      cases e774
      replace hx774_0 := (HB.out.cell (World.block_lt_of_cell? w _ hx774_0)).trans hx774_0
      replace hx774_1 := (HB.out.cell (World.block_lt_of_cell? w _ hx774_1)).trans hx774_1
      replace hx774_2 := (HB.out.cell (World.block_lt_of_cell? w _ hx774_2)).trans hx774_2
      replace p774 := eq_true p774
      replace q774 := eq_true q774
      have hfoA4_ := fun (t_ : TypeId) (w_ : World) => run_float_arith (P := Try.prog) w_ .quo t_ .f64 (floatOfInt .f64 ((rd_T206 l0 x4_1).f0)) 4661225614328463360 t775 A4.out
      have p776 : 0 ≤ (x4_1 : Int) := of_decide_eq_true (by first | (with_reducible assumption) | assumption)
      have q776 : x4_1 < (l0.length : Int) := of_decide_eq_true (by first | (with_reducible assumption) | assumption)
      obtain ⟨ad776, e776, hx776_0, hx776_1, hx776_2⟩ := at_T206 HR0.out x4_1 p776 q776
      have hw776_2 := hx776_2
      have hw776_1 := hx776_1
      have hw776_0 := hx776_0
      obtain rfl : ad774 = ad776 := (by injection e776)
      replace hx776_0 := (HB.out.cell (World.block_lt_of_cell? w _ hx776_0)).trans hx776_0
      replace hx776_1 := (HB.out.cell (World.block_lt_of_cell? w _ hx776_1)).trans hx776_1
      replace hx776_2 := (HB.out.cell (World.block_lt_of_cell? w _ hx776_2)).trans hx776_2
      replace p776 := eq_true p776
      replace q776 := eq_true q776
      have hfoA5_ := fun (t_ : TypeId) (w_ : World) => run_float_arith (P := Try.prog) w_ .quo t_ .f64 (floatOfInt .f64 ((rd_T206 l0 x4_1).f1)) 4661225614328463360 t777 A5.out
      have p778 : 0 ≤ (x4_1 : Int) := of_decide_eq_true (by first | (with_reducible assumption) | assumption)
      have q778 : x4_1 < (l0.length : Int) := of_decide_eq_true (by first | (with_reducible assumption) | assumption)
      obtain ⟨ad778, e778, hx778_0, hx778_1, hx778_2⟩ := at_T206 HR0.out x4_1 p778 q778
      have hw778_2 := hx778_2
      have hw778_1 := hx778_1
      have hw778_0 := hx778_0
      obtain rfl : ad774 = ad778 := (by injection e778)
      replace hx778_0 := (HB.out.cell (World.block_lt_of_cell? w _ hx778_0)).trans hx778_0
      replace hx778_1 := (HB.out.cell (World.block_lt_of_cell? w _ hx778_1)).trans hx778_1
      replace hx778_2 := (HB.out.cell (World.block_lt_of_cell? w _ hx778_2)).trans hx778_2
      replace p778 := eq_true p778
      replace q778 := eq_true q778
      refine start_ (n := 25) (S := fun w' => w'.cell? (ad774.add ((x4_1).toNat * 3)) = some (.int .i32 ((rd_T206 l0 x4_1).f0)) ∧ w'.cell? ⟨(ad774.add ((x4_1).toNat * 3)).block, (ad774.add ((x4_1).toNat * 3)).off + 1, none⟩ = some (.int .i32 ((rd_T206 l0 x4_1).f1)) ∧ w'.cell? ⟨(ad774.add ((x4_1).toNat * 3)).block, (ad774.add ((x4_1).toNat * 3)).off + 2, none⟩ = some (.bool ((rd_T206 l0 x4_1).f2)) ∧ w'.cell? (ad774.add ((x4_1).toNat * 3)) = some (.int .i32 ((rd_T206 l0 x4_1).f0)) ∧ w'.cell? ⟨(ad774.add ((x4_1).toNat * 3)).block, (ad774.add ((x4_1).toNat * 3)).off + 1, none⟩ = some (.int .i32 ((rd_T206 l0 x4_1).f1)) ∧ w'.cell? ⟨(ad774.add ((x4_1).toNat * 3)).block, (ad774.add ((x4_1).toNat * 3)).off + 2, none⟩ = some (.bool ((rd_T206 l0 x4_1).f2)) ∧ w'.cell? (ad774.add ((x4_1).toNat * 3)) = some (.int .i32 ((rd_T206 l0 x4_1).f0)) ∧ w'.cell? ⟨(ad774.add ((x4_1).toNat * 3)).block, (ad774.add ((x4_1).toNat * 3)).off + 1, none⟩ = some (.int .i32 ((rd_T206 l0 x4_1).f1)) ∧ w'.cell? ⟨(ad774.add ((x4_1).toNat * 3)).block, (ad774.add ((x4_1).toNat * 3)).off + 2, none⟩ = some (.bool ((rd_T206 l0 x4_1).f2))) (ds := []) #[false, false, false, false, false, false, false, false, false, false, false, false, false, false, false, false, false, false, false, false, false, false, false, false, false] (by kernel_rfl) rfl rfl ⟨((HB.out.cell (World.block_lt_of_cell? w _ hw774_0)).trans hw774_0), ((HB.out.cell (World.block_lt_of_cell? w _ hw774_1)).trans hw774_1), ((HB.out.cell (World.block_lt_of_cell? w _ hw774_2)).trans hw774_2), ((HB.out.cell (World.block_lt_of_cell? w _ hw776_0)).trans hw776_0), ((HB.out.cell (World.block_lt_of_cell? w _ hw776_1)).trans hw776_1), ((HB.out.cell (World.block_lt_of_cell? w _ hw776_2)).trans hw776_2), ((HB.out.cell (World.block_lt_of_cell? w _ hw778_0)).trans hw778_0), ((HB.out.cell (World.block_lt_of_cell? w _ hw778_1)).trans hw778_1), ((HB.out.cell (World.block_lt_of_cell? w _ hw778_2)).trans hw778_2)⟩ (fun hHeld => ?_); refine with_tabW foghornlaw05_samples.tab5 foghornlaw05_samples.bits5 (fun HT_ HW_ => ?_)
      generalize wr.drew = w7 at HO_3 HB hx774_0 hx774_1 hx774_2 hx776_0 hx776_1 hx776_2 hx778_0 hx778_1 hx778_2 hHeld ⊢
      refine pure_ (i := 0) (N := some 12) (v := ?_) (a' := ?_) #[true, false, false, false, false, false, false, false, false, false, false, false, false, false, false, false, false, false, false, false, false, false, false, false, false] rfl rfl (any_of HT_.out (by kernel_rfl)) (fun _ _ _ h => h) (Or.inl ⟨by rfl, ?_⟩) ?_ ?_
      rotate_left
      ·intro w'
       go_simp
       with_reducible rfl
      rotate_left
      ·simp only [Act.put, List.setIfInBounds_toArray, List.set_cons_zero, List.set_cons_succ, i64_w, i32_w]
       rfl
      refine pure_ (i := 1) (N := some 13) (v := ?_) (a' := ?_) #[true, true, false, false, false, false, false, false, false, false, false, false, false, false, false, false, false, false, false, false, false, false, false, false, false] rfl rfl (any_of HT_.out (by kernel_rfl)) (fun _ _ _ h => h) (Or.inl ⟨by rfl, ?_⟩) ?_ ?_
      rotate_left
      ·intro w'
       go_simp
       with_reducible rfl
      rotate_left
      ·simp only [Act.put, List.setIfInBounds_toArray, List.set_cons_zero, List.set_cons_succ, i64_w, i32_w]
       rfl
      refine pure_ (i := 2) (N := some 14) (v := ?_) (a' := ?_) #[true, true, true, false, false, false, false, false, false, false, false, false, false, false, false, false, false, false, false, false, false, false, false, false, false] rfl rfl (any_of HT_.out (by kernel_rfl)) (fun _ _ _ h => h) (Or.inl ⟨by rfl, ?_⟩) ?_ ?_
      rotate_left
      ·intro w'
       go_simp
       with_reducible rfl
      rotate_left
      ·simp only [Act.put, List.setIfInBounds_toArray, List.set_cons_zero, List.set_cons_succ, i64_w, i32_w]
       rfl
      refine pure_ (i := 3) (N := some 15) (v := ?_) (a' := ?_) #[true, true, true, true, false, false, false, false, false, false, false, false, false, false, false, false, false, false, false, false, false, false, false, false, false] rfl rfl (any_of HT_.out (by kernel_rfl)) (fun _ _ _ h => h) (Or.inl ⟨by rfl, ?_⟩) ?_ ?_
      rotate_left
      ·intro w'
       go_simp
       with_reducible rfl
      rotate_left
      ·simp only [Act.put, List.setIfInBounds_toArray, List.set_cons_zero, List.set_cons_succ, i64_w, i32_w]
       rfl
      refine pure_ (i := 4) (N := some 16) (v := ?_) (a' := ?_) #[true, true, true, true, true, false, false, false, false, false, false, false, false, false, false, false, false, false, false, false, false, false, false, false, false] rfl rfl (any_of HT_.out (by kernel_rfl)) (fun _ _ _ h => h) (Or.inl ⟨by rfl, ?_⟩) ?_ ?_
      rotate_left
      ·intro w'
       go_simp
       with_reducible rfl
      rotate_left
      ·simp only [Act.put, List.setIfInBounds_toArray, List.set_cons_zero, List.set_cons_succ, i64_w, i32_w]
       rfl
      refine pure_ (i := 8) (N := some 20) (v := ?_) (a' := ?_) #[true, true, true, true, true, false, false, false, true, false, false, false, false, false, false, false, false, false, false, false, false, false, false, false, false] rfl rfl (any_of HT_.out (by kernel_rfl)) (fun _ _ _ h => h) (Or.inl ⟨by rfl, ?_⟩) ?_ ?_
      rotate_left
      ·intro w'
       go_simp
       with_reducible rfl
      rotate_left
      ·simp only [Act.put, List.setIfInBounds_toArray, List.set_cons_zero, List.set_cons_succ, i64_w, i32_w]
       rfl
      refine pure_ (i := 9) (N := some 21) (v := ?_) (a' := ?_) #[true, true, true, true, true, false, false, false, true, true, false, false, false, false, false, false, false, false, false, false, false, false, false, false, false] rfl rfl (any_of HT_.out (by kernel_rfl)) (fun _ _ _ h => h) (Or.inl ⟨by rfl, ?_⟩) ?_ ?_
      rotate_left
      ·intro w'
       go_simp
       with_reducible rfl
      rotate_left
      ·simp only [Act.put, List.setIfInBounds_toArray, List.set_cons_zero, List.set_cons_succ, i64_w, i32_w]
       rfl
      refine pure_ (i := 10) (N := some 22) (v := ?_) (a' := ?_) #[true, true, true, true, true, false, false, false, true, true, true, false, false, false, false, false, false, false, false, false, false, false, false, false, false] rfl rfl (any_of HT_.out (by kernel_rfl)) (fun _ _ _ h => h) (Or.inl ⟨by rfl, ?_⟩) ?_ ?_
      rotate_left
      ·intro w'
       go_simp
       with_reducible rfl
      rotate_left
      ·simp only [Act.put, List.setIfInBounds_toArray, List.set_cons_zero, List.set_cons_succ, i64_w, i32_w]
       rfl
      refine pure_ (i := 11) (N := some 23) (v := ?_) (a' := ?_) #[true, true, true, true, true, false, false, false, true, true, true, true, false, false, false, false, false, false, false, false, false, false, false, false, false] rfl rfl (any_of HT_.out (by kernel_rfl)) (fun _ _ _ h => h) (Or.inl ⟨by rfl, ?_⟩) ?_ ?_
      rotate_left
      ·intro w'
       go_simp
       with_reducible rfl
      rotate_left
      ·simp only [Act.put, List.setIfInBounds_toArray, List.set_cons_zero, List.set_cons_succ, i64_w, i32_w]
       rfl
      refine pure_ (i := 16) (N := some 28) (v := ?_) (a' := ?_) #[true, true, true, true, true, false, false, false, true, true, true, true, false, false, false, false, true, false, false, false, false, false, false, false, false] rfl rfl (any_of HT_.out (by kernel_rfl)) (fun _ _ _ h => h) (Or.inl ⟨by rfl, ?_⟩) ?_ ?_
      rotate_left
      ·intro w'
       go_simp
       with_reducible rfl
      rotate_left
      ·simp only [Act.put, List.setIfInBounds_toArray, List.set_cons_zero, List.set_cons_succ, i64_w, i32_w]
       rfl
      refine pure_ (i := 17) (N := some 29) (v := ?_) (a' := ?_) #[true, true, true, true, true, false, false, false, true, true, true, true, false, false, false, false, true, true, false, false, false, false, false, false, false] rfl rfl (any_of HT_.out (by kernel_rfl)) (fun _ _ _ h => h) (Or.inl ⟨by rfl, ?_⟩) ?_ ?_
      rotate_left
      ·intro w'
       go_simp
       with_reducible rfl
      rotate_left
      ·simp only [Act.put, List.setIfInBounds_toArray, List.set_cons_zero, List.set_cons_succ, i64_w, i32_w]
       rfl
      refine pure_ (i := 18) (N := some 30) (v := ?_) (a' := ?_) #[true, true, true, true, true, false, false, false, true, true, true, true, false, false, false, false, true, true, true, false, false, false, false, false, false] rfl rfl (any_of HT_.out (by kernel_rfl)) (fun _ _ _ h => h) (Or.inl ⟨by rfl, ?_⟩) ?_ ?_
      rotate_left
      ·intro w'
       go_simp
       with_reducible rfl
      rotate_left
      ·simp only [Act.put, List.setIfInBounds_toArray, List.set_cons_zero, List.set_cons_succ, i64_w, i32_w]
       rfl
      refine pure_ (i := 19) (N := some 31) (v := ?_) (a' := ?_) #[true, true, true, true, true, false, false, false, true, true, true, true, false, false, false, false, true, true, true, true, false, false, false, false, false] rfl rfl (any_of HT_.out (by kernel_rfl)) (fun _ _ _ h => h) (Or.inl ⟨by rfl, ?_⟩) ?_ ?_
      rotate_left
      ·intro w'
       go_simp
       with_reducible rfl
      rotate_left
      ·simp only [Act.put, List.setIfInBounds_toArray, List.set_cons_zero, List.set_cons_succ, i64_w, i32_w]
       rfl
      refine take_ (i := 5) (N := some 17) (v := ?_) (a' := ?_) #[true, true, true, true, true, true, false, false, true, true, true, true, false, false, false, false, true, true, true, true, false, false, false, false, false] rfl rfl (take_ofW HT_.out HW_.out (by kernel_rfl)) (fun _ _ _ h => h) (Or.inl ⟨by rfl, ?_⟩) hHeld ?_ ?_
      rotate_left
      ·rintro w' ⟨s0, s1, s2, s3, s4, s5, s6, s7, s8⟩
       go_simp
       with_reducible rfl
      rotate_left
      ·simp only [Act.put, List.setIfInBounds_toArray, List.set_cons_zero, List.set_cons_succ, i64_w, i32_w]
       rfl
      refine pure_ (i := 6) (N := some 18) (v := ?_) (a' := ?_) #[true, true, true, true, true, true, true, false, true, true, true, true, false, false, false, false, true, true, true, true, false, false, false, false, false] rfl rfl (any_of HT_.out (by kernel_rfl)) (fun _ _ _ h => h) (Or.inl ⟨by rfl, ?_⟩) ?_ ?_
      rotate_left
      ·intro w'
       go_simp
       with_reducible rfl
      rotate_left
      ·simp only [Act.put, List.setIfInBounds_toArray, List.set_cons_zero, List.set_cons_succ, i64_w, i32_w]
       rfl
      refine pure_ (i := 7) (N := some 19) (v := ?_) (a' := ?_) #[true, true, true, true, true, true, true, true, true, true, true, true, false, false, false, false, true, true, true, true, false, false, false, false, false] rfl rfl (any_of HT_.out (by kernel_rfl)) (fun _ _ _ h => h) (Or.inl ⟨by rfl, ?_⟩) ?_ ?_
      rotate_left
      ·intro w'
       go_simp
       with_reducible rfl
      rotate_left
      ·simp only [Act.put, List.setIfInBounds_toArray, List.set_cons_zero, List.set_cons_succ, i64_w, i32_w]
       rfl
      refine take_ (i := 12) (N := some 24) (v := ?_) (a' := ?_) #[true, true, true, true, true, true, true, true, true, true, true, true, true, false, false, false, true, true, true, true, false, false, false, false, false] rfl rfl (take_ofW HT_.out HW_.out (by kernel_rfl)) (fun _ _ _ h => h) (Or.inl ⟨by rfl, ?_⟩) hHeld ?_ ?_
      rotate_left
      ·rintro w' ⟨s0, s1, s2, s3, s4, s5, s6, s7, s8⟩
       go_simp
       with_reducible rfl
      rotate_left
      ·simp only [Act.put, List.setIfInBounds_toArray, List.set_cons_zero, List.set_cons_succ, i64_w, i32_w]
       rfl
      refine pure_ (i := 13) (N := some 25) (v := ?_) (a' := ?_) #[true, true, true, true, true, true, true, true, true, true, true, true, true, true, false, false, true, true, true, true, false, false, false, false, false] rfl rfl (any_of HT_.out (by kernel_rfl)) (fun _ _ _ h => h) (Or.inl ⟨by rfl, ?_⟩) ?_ ?_
      rotate_left
      ·intro w'
       go_simp
       with_reducible rfl
      rotate_left
      ·simp only [Act.put, List.setIfInBounds_toArray, List.set_cons_zero, List.set_cons_succ, i64_w, i32_w]
       rfl
      refine pure_ (i := 14) (N := some 26) (v := ?_) (a' := ?_) #[true, true, true, true, true, true, true, true, true, true, true, true, true, true, true, false, true, true, true, true, false, false, false, false, false] rfl rfl (any_of HT_.out (by kernel_rfl)) (fun _ _ _ h => h) (Or.inl ⟨by rfl, ?_⟩) ?_ ?_
      rotate_left
      ·intro w'
       go_simp
       with_reducible rfl
      rotate_left
      ·simp only [Act.put, List.setIfInBounds_toArray, List.set_cons_zero, List.set_cons_succ, i64_w, i32_w]
       rfl
      refine pure_ (i := 15) (N := some 27) (v := ?_) (a' := ?_) #[true, true, true, true, true, true, true, true, true, true, true, true, true, true, true, true, true, true, true, true, false, false, false, false, false] rfl rfl (any_of HT_.out (by kernel_rfl)) (fun _ _ _ h => h) (Or.inl ⟨by rfl, ?_⟩) ?_ ?_
      rotate_left
      ·intro w'
       go_simp
       with_reducible rfl
      rotate_left
      ·simp only [Act.put, List.setIfInBounds_toArray, List.set_cons_zero, List.set_cons_succ, i64_w, i32_w]
       rfl
      refine take_ (i := 20) (N := some 32) (v := ?_) (a' := ?_) #[true, true, true, true, true, true, true, true, true, true, true, true, true, true, true, true, true, true, true, true, true, false, false, false, false] rfl rfl (take_ofW HT_.out HW_.out (by kernel_rfl)) (fun _ _ _ h => h) (Or.inl ⟨by rfl, ?_⟩) hHeld ?_ ?_
      rotate_left
      ·rintro w' ⟨s0, s1, s2, s3, s4, s5, s6, s7, s8⟩
       go_simp
       with_reducible rfl
      rotate_left
      ·simp only [Act.put, List.setIfInBounds_toArray, List.set_cons_zero, List.set_cons_succ, i64_w, i32_w]
       rfl
      refine pure_ (i := 21) (N := some 33) (v := ?_) (a' := ?_) #[true, true, true, true, true, true, true, true, true, true, true, true, true, true, true, true, true, true, true, true, true, true, false, false, false] rfl rfl (any_of HT_.out (by kernel_rfl)) (fun _ _ _ h => h) (Or.inl ⟨by rfl, ?_⟩) ?_ ?_
      rotate_left
      ·intro w'
       go_simp
       with_reducible rfl
      rotate_left
      ·simp only [Act.put, List.setIfInBounds_toArray, List.set_cons_zero, List.set_cons_succ, i64_w, i32_w]
       rfl
      refine one_ (i := 22) (N := some 34) #[true, true, true, true, true, true, true, true, true, true, true, true, true, true, true, true, true, true, true, true, true, true, true, false, false] rfl rfl (one_of HT_.out (by kernel_rfl)) (by decide) (fun K hK => ?_)
      refine value_ (w1 := ?_) (v := ?_) (by rfl) rfl ?_ ?_
      rotate_left 2
      ·go_simp
       constructor
       ·rfl
       ·rfl
      refine hK.out _ _ ⟨(World.cell?_alloc_lt _ _ _ (World.block_lt_of_cell? _ _ (((HB.out.cell (World.block_lt_of_cell? w _ hw774_0)).trans hw774_0)))).trans (((HB.out.cell (World.block_lt_of_cell? w _ hw774_0)).trans hw774_0)), (World.cell?_alloc_lt _ _ _ (World.block_lt_of_cell? _ _ (((HB.out.cell (World.block_lt_of_cell? w _ hw774_1)).trans hw774_1)))).trans (((HB.out.cell (World.block_lt_of_cell? w _ hw774_1)).trans hw774_1)), (World.cell?_alloc_lt _ _ _ (World.block_lt_of_cell? _ _ (((HB.out.cell (World.block_lt_of_cell? w _ hw774_2)).trans hw774_2)))).trans (((HB.out.cell (World.block_lt_of_cell? w _ hw774_2)).trans hw774_2)), (World.cell?_alloc_lt _ _ _ (World.block_lt_of_cell? _ _ (((HB.out.cell (World.block_lt_of_cell? w _ hw776_0)).trans hw776_0)))).trans (((HB.out.cell (World.block_lt_of_cell? w _ hw776_0)).trans hw776_0)), (World.cell?_alloc_lt _ _ _ (World.block_lt_of_cell? _ _ (((HB.out.cell (World.block_lt_of_cell? w _ hw776_1)).trans hw776_1)))).trans (((HB.out.cell (World.block_lt_of_cell? w _ hw776_1)).trans hw776_1)), (World.cell?_alloc_lt _ _ _ (World.block_lt_of_cell? _ _ (((HB.out.cell (World.block_lt_of_cell? w _ hw776_2)).trans hw776_2)))).trans (((HB.out.cell (World.block_lt_of_cell? w _ hw776_2)).trans hw776_2)), (World.cell?_alloc_lt _ _ _ (World.block_lt_of_cell? _ _ (((HB.out.cell (World.block_lt_of_cell? w _ hw778_0)).trans hw778_0)))).trans (((HB.out.cell (World.block_lt_of_cell? w _ hw778_0)).trans hw778_0)), (World.cell?_alloc_lt _ _ _ (World.block_lt_of_cell? _ _ (((HB.out.cell (World.block_lt_of_cell? w _ hw778_1)).trans hw778_1)))).trans (((HB.out.cell (World.block_lt_of_cell? w _ hw778_1)).trans hw778_1)), (World.cell?_alloc_lt _ _ _ (World.block_lt_of_cell? _ _ (((HB.out.cell (World.block_lt_of_cell? w _ hw778_2)).trans hw778_2)))).trans (((HB.out.cell (World.block_lt_of_cell? w _ hw778_2)).trans hw778_2))⟩ (fun hHeld => ?_)
      clear hK K
      refine norm_ (a' := ?_) ?_ ?_
      rotate_left
      ·show Act.put _ (some 34) _ = _
       simp only [Act.put, List.setIfInBounds_toArray, List.set_cons_zero, List.set_cons_succ, i64_w, i32_w]
       rfl
      refine one_ (i := 23) (N := some 35) #[true, true, true, true, true, true, true, true, true, true, true, true, true, true, true, true, true, true, true, true, true, true, true, true, false] rfl rfl (one_of HT_.out (by kernel_rfl)) (by decide) (fun K hK => ?_)
      refine Kd.R_append_step k101 (w0 := w) w.heap.size (by rfl) (.tmp 12) (.tmp 34) 95 101 (.agg #[(.complex .f64 0 0), (.bool false)]) 24 rfl Try.underlying95 info101 rfl (by decide) (by omega) u3 x3_1 (⟨(t775, t777), (rd_T206 l0 x4_1).f2⟩ : S101) [.complex .f64 t775 t777, .bool ((rd_T206 l0 x4_1).f2)] (fun _ => True) (fun _ => False) rfl rfl ?aP (fun _ hk => hk.elim) ?aF ?aO ?aB ?aS ?aL ?_
      (case aP => exact k101_mkM _ _ _ (⟨(t775, t777), (rd_T206 l0 x4_1).f2⟩ : S101))
      (case aB => exact (by repeat (first | (with_reducible first | exact HB.out | apply below_alloc | apply pw_below_drewN | apply below_drew1) | exact HB.out)))
      (case aF => exact (fun _ _ => trivial))
      (case aO => exact (by (with_reducible repeat (first | apply Kd.R_alloc | apply Kd.R_drewN | apply Kd.R_drew)); exact HO_3.out))
      (case aS => exact (below_size (by repeat (first | (with_reducible first | exact HB.out | apply below_alloc | apply pw_below_drewN | apply below_drew1) | exact HB.out))))
      (case aL => have := LMc6.out; omega)
      intro v780 w8 ho hb hg hat
      rw [← Ny779.out] at ho
      have n0_ := Aside0.mk (hb)
      have n1_ := Aside0.mk (ho)
      clear HB
      clear HO_3
      have HB := n0_
      have HO781 := n1_
      clear n0_ n1_
      clear ho hb hg hat
      refine hK.out _ _ ⟨((HB.out.cell (World.block_lt_of_cell? w _ hw774_0)).trans hw774_0), ((HB.out.cell (World.block_lt_of_cell? w _ hw774_1)).trans hw774_1), ((HB.out.cell (World.block_lt_of_cell? w _ hw774_2)).trans hw774_2), ((HB.out.cell (World.block_lt_of_cell? w _ hw776_0)).trans hw776_0), ((HB.out.cell (World.block_lt_of_cell? w _ hw776_1)).trans hw776_1), ((HB.out.cell (World.block_lt_of_cell? w _ hw776_2)).trans hw776_2), ((HB.out.cell (World.block_lt_of_cell? w _ hw778_0)).trans hw778_0), ((HB.out.cell (World.block_lt_of_cell? w _ hw778_1)).trans hw778_1), ((HB.out.cell (World.block_lt_of_cell? w _ hw778_2)).trans hw778_2)⟩ (fun hHeld => ?_)
      clear hK K
      refine norm_ (a' := ?_) ?_ ?_
      rotate_left
      ·show Act.put _ (some 35) _ = _
       simp only [Act.put, List.setIfInBounds_toArray, List.set_cons_zero, List.set_cons_succ, i64_w, i32_w]
       rfl
      refine pure_ (i := 24) (N := some 3) (v := ?_) (a' := ?_) #[true, true, true, true, true, true, true, true, true, true, true, true, true, true, true, true, true, true, true, true, true, true, true, true, true] rfl rfl (any_of HT_.out (by kernel_rfl)) (fun _ _ _ h => h) (Or.inl ⟨by rfl, ?_⟩) ?_ ?_
      rotate_left
      ·intro w'
       go_simp
       with_reducible rfl
      rotate_left
      ·simp only [Act.put, List.setIfInBounds_toArray, List.set_cons_zero, List.set_cons_succ, i64_w, i32_w]
       rfl
      refine done_ (done_of HT_.out (by kernel_rfl)) ?_
      try go_wp2
      first | go_roundg k1 | (simp only [add_plain] at *; go_roundg k1)
      case measure => have := HK1.out; omega
      case rel => exact ⟨(y779), (wrap64 (x4_1 + 1)), (by first | rfl | (simp; done) | (simp [*]; done)), H', ⟨by have := HK1.out; omega⟩, ⟨by (with_reducible repeat (first | apply Kd.R_alloc | apply Kd.R_drewN | apply Kd.R_drew)); exact HO781.out⟩, ⟨by repeat (first | (with_reducible first | exact HB.out | apply below_alloc | apply pw_below_drewN | apply below_drew1) | exact HB.out)⟩⟩
     ·rw [if_neg c6] at H
      exact absurd H (by simp)
    ·rw [if_neg c3] at H
     exact absurd H (by simp)
   ·rw [if_neg c2] at H
    have c2b0 : decide (x4_1 < (l0.length : Int)) = false := decide_eq_false c2
    clear c2
    by_cases c9 : x3_1.length < 5864062014805
    ·rw [if_pos c9] at H
     have LMc9 := Aside0.mk c9
     clear c9
     obtain ⟨y782, hy782⟩ : ∃ y_ : List (S101), y_ = (x3_1 ++ [(⟨(4651892959631900672, 0), false⟩ : S101)]) := ⟨_, rfl⟩
     replace H : (if (x3_1.length : Int) ≤ (y782.length : Int) then (some (x3_1)) else (none)) = some r := by first | (rw [hy782]; with_reducible exact H) | (have H2_ := (Option.bind_some _ _).symm.trans H; rw [hy782]; with_reducible exact H2_) | (have H2_ := (Option.bind_some _ _).symm.trans H; with_reducible exact H2_) | with_reducible exact H | (rw [hy782]; exact H) | exact H
     have Ny782 := Aside0.mk hy782
     clear hy782
     by_cases c10 : (x3_1.length : Int) ≤ (y782.length : Int)
     ·rw [if_pos c10] at H
      have c10b0 := eq_true c10
      have c10b1 : decide ((x3_1.length : Int) ≤ (y782.length : Int)) = true := decide_eq_true c10
      clear c10
      obtain ⟨y785, hy785⟩ : ∃ y_ : List (S101), y_ = (x3_1) := ⟨_, rfl⟩
      replace H : (some y785) = some r := by first | (rw [hy785]; with_reducible exact H) | (have H2_ := (Option.bind_some _ _).symm.trans H; rw [hy785]; with_reducible exact H2_) | (have H2_ := (Option.bind_some _ _).symm.trans H; with_reducible exact H2_) | with_reducible exact H | (rw [hy785]; exact H) | exact H
      have Ny785 := Aside0.mk hy785
      clear hy785
      obtain rfl := Option.some.inj H
      obtain ⟨Ao11, co11, eo11⟩ := Kd.R_slice HO_3.out
      subst eo11
      go_wp2_with (first | ((with_reducible refine gate_builtin (b := .append) (xs := #[.tmp 38, .tmp 40]) rfl ?_); at_builtin; refine Kd.R_append k101 (w0 := w) w.heap.size rfl (.tmp 38) (.tmp 40) 95 101 (.agg #[(.complex .f64 0 0), (.bool false)]) 24 rfl Try.underlying95 info101 rfl (by decide) (by omega) (.slice Ao11 x3_1.length co11) x3_1 (⟨(4651892959631900672, 0), false⟩ : S101) [.complex .f64 4651892959631900672 0, .bool false] (fun _ => True) (fun _ => False) rfl rfl ?aP (fun _ hk => hk.elim) ?aF ?aO ?aB ?aS ?aL ?_; (case aP => exact k101_mkM _ _ _ (⟨(4651892959631900672, 0), false⟩ : S101)); (case aB => exact (by repeat (first | (with_reducible first | exact HB.out | apply below_alloc | apply pw_below_drewN | apply below_drew1) | exact HB.out))); (case aF => exact (fun _ _ => trivial)); (case aO => exact (by (with_reducible repeat (first | apply Kd.R_alloc | apply Kd.R_drewN | apply Kd.R_drew)); exact HO_3.out)); (case aS => exact (below_size (by repeat (first | (with_reducible first | exact HB.out | apply below_alloc | apply pw_below_drewN | apply below_drew1) | exact HB.out)))); (case aL => have := LMc9.out; omega); intro v783 w12 ho hb hg hat; rw [← Ny782.out] at ho; have n0_ := Aside0.mk (hb); have n1_ := Aside0.mk (ho); clear HB; clear HO_3; have HB := n0_; have HO784 := n1_; clear n0_ n1_; clear ho hb hg hat; obtain ⟨Ao13, co13, eo13⟩ := Kd.R_slice HO784.out; subst eo13; have q14 : ((x3_1.length : Int) : Int) ≤ ((y782.length : Int) : Int) := of_decide_eq_true (by first | (with_reducible assumption) | assumption); obtain ⟨i014, hi014, _, hsz14, _⟩ := info_parts info101; have hcut14 := cut_to (P := Try.prog) 95 101 .i64 Try.underlying95 hi014 Ao13 y782.length co13 (x3_1.length : Int) (by omega) q14 (Kd.R_reads' HO784.out).2.1; have hr14 := Kd.U_of (m := (k101, (⟨(4651892959631900672, 0), false⟩ : S101))) HO784.out rfl Ny782.out; rw [← Ny785.out] at hr14; have hy14 : y785.length = ((x3_1.length : Int) : Int).toNat := (by rw [Ny785.out]; first | omega | (rw [List.length_nil]; simp)); rw [← hy14] at hcut14; clear hy14 hi014 hsz14 HO784; have HO787 := Aside0.mk hr14; clear hr14; replace q14 := eq_true q14))
      go_ret
      exact ⟨_, by first | rfl | (simp [errW_none, errW_some] <;> rfl) | (simp [*, errW_none, errW_some] <;> rfl), by (with_reducible repeat (first | apply Kd.U_alloc | apply Kd.U_drewN | apply Kd.U_drew)); exact HO787.out, by repeat (first | (with_reducible first | exact HB.out | apply below_alloc | apply pw_below_drewN | apply below_drew1) | exact HB.out)⟩
     ·rw [if_neg c10] at H
      exact absurd H (by simp)
    ·rw [if_neg c9] at H
     exact absurd H (by simp)

/-! ### foghornref02_May: function 137 -/
set_option maxHeartbeats 8000000 in
set_option maxRecDepth 100000 in
theorem foghornref02_May.calls (a0_0 : (Nat × Nat)) (a0_1 : Bool) (r : Bool) (w : World) (h : foghornref02_May.f a0_0 a0_1 = some r) :
  Calls Try.prog 137 #[.agg #[.complex .f64 a0_0.1 a0_0.2, .bool a0_1]] w fun e w' => e = .returned (.bool r) ∧ Below w.heap.size w w' := by
 have hu101 := Try.underlying101
 have HB := Aside0.mk (Below.refl w.heap.size w)
 have H : (if a0_1 = true then (if (FloatKind.f64.format.order a0_0.1 0 == some .eq) = true then (some (FloatKind.f64.format.order a0_0.2 0 == some .eq)) else (some false)) else ((foghornref02_On.f a0_0.1).bind fun t789 => (if t789 = true then ((foghornref02_On.f a0_0.2).bind fun t790 => (some t790)) else (some false)))) = some r := h
 clear h
 by_cases c2 : a0_1 = true
 ·subst c2
  have H1 : (if (FloatKind.f64.format.order a0_0.1 0 == some .eq) = true then (some (FloatKind.f64.format.order a0_0.2 0 == some .eq)) else (some false)) = some r := by rw [if_pos rfl] at H; exact H
  clear H
  have H := H1
  clear H1
  by_cases c3 : (FloatKind.f64.format.order a0_0.1 0 == some .eq) = true
  ·rw [if_pos c3] at H
   have c3b0 : (FloatKind.f64.format.order a0_0.1 0 == some .eq) = true := c3
   (try (have c3b1 : decide (FloatKind.f64.format.order a0_0.1 0 = some .eq) = true := by simpa using c3))
   (try (have c3b2 : (FloatKind.f64.format.order a0_0.1 0 == some .eq) = true := by simpa using c3))
   clear c3
   obtain rfl := Option.some.inj H
   go_enter Try.func137, Try.ntmps137
   go_wp2_with (first | ((with_reducible refine gate_dst (N := 1) rfl ?_); (try (refine gate_guard (by rfl) ?_; dsimp only)); refine box_event ?hg (N := 1) ?hd (cs := #[.complex .f64 a0_0.1 a0_0.2, .bool true]) (t := 101) ?hr ?_; (case hd => rfl); (case hg => rfl); (case hr => first | (go_simp; done) | (go_simp; rfl)); intro gb788 hg w4 hbox hb; have n0_ := Aside0.mk (below_step (by repeat (first | (with_reducible first | exact HB.out | apply below_alloc | apply pw_below_drewN | apply below_drew1) | exact HB.out)) hb); have n1_ := Aside0.mk (hbox); have n2_ := Aside0.mk ((by rw [hg]; exact (below_size (by repeat (first | (with_reducible first | exact HB.out | apply below_alloc | apply pw_below_drewN | apply below_drew1) | exact HB.out))) : w.heap.size ≤ gb788)); have n3_ := Aside0.mk ((by rw [hg]; exact (below_size (by repeat (first | (with_reducible first | exact HB.out | apply below_alloc | apply pw_below_drewN | apply below_drew1) | exact HB.out))) : w.heap.size ≤ gb788)); clear HB; have HB := n0_; have BK788 := n1_; have GW788 := n2_; have GE788 := n3_; clear n0_ n1_ n2_ n3_; clear hb hbox hg; have hcz5_0 : w4.cell? ⟨gb788, 0, none⟩ = some (.complex .f64 a0_0.1 a0_0.2) := (blk_cell BK788.out 0).trans rfl; have hcz5_1 : w4.cell? ⟨gb788, 1, none⟩ = some (.bool true) := (blk_cell BK788.out 1).trans rfl; have hfz5_0 := blk_frozen BK788.out 0; have hfz5_1 := blk_frozen BK788.out 1))
   go_ret
   exact ⟨by first | rfl | (simp [errW_none, errW_some] <;> rfl) | (simp [*, errW_none, errW_some] <;> rfl), by repeat (first | (with_reducible first | exact HB.out | apply below_alloc | apply pw_below_drewN | apply below_drew1 | refine below_set ?_ GE788.out) | exact HB.out)⟩
  ·rw [if_neg c3] at H
   have c3b0 : (FloatKind.f64.format.order a0_0.1 0 == some .eq) = false := by simpa using c3
   (try (have c3b1 : decide (FloatKind.f64.format.order a0_0.1 0 = some .eq) = false := by simpa using c3))
   (try (have c3b2 : (FloatKind.f64.format.order a0_0.1 0 == some .eq) = false := by simpa using c3))
   (try (have c3b3 : ¬ (FloatKind.f64.format.order a0_0.1 0 = some .eq) := by simpa using c3))
   clear c3
   obtain rfl := Option.some.inj H
   go_enter Try.func137, Try.ntmps137
   go_wp2_with (first | ((with_reducible refine gate_dst (N := 1) rfl ?_); (try (refine gate_guard (by rfl) ?_; dsimp only)); refine box_event ?hg (N := 1) ?hd (cs := #[.complex .f64 a0_0.1 a0_0.2, .bool true]) (t := 101) ?hr ?_; (case hd => rfl); (case hg => rfl); (case hr => first | (go_simp; done) | (go_simp; rfl)); intro gb788 hg w6 hbox hb; have n0_ := Aside0.mk (below_step (by repeat (first | (with_reducible first | exact HB.out | apply below_alloc | apply pw_below_drewN | apply below_drew1) | exact HB.out)) hb); have n1_ := Aside0.mk (hbox); have n2_ := Aside0.mk ((by rw [hg]; exact (below_size (by repeat (first | (with_reducible first | exact HB.out | apply below_alloc | apply pw_below_drewN | apply below_drew1) | exact HB.out))) : w.heap.size ≤ gb788)); have n3_ := Aside0.mk ((by rw [hg]; exact (below_size (by repeat (first | (with_reducible first | exact HB.out | apply below_alloc | apply pw_below_drewN | apply below_drew1) | exact HB.out))) : w.heap.size ≤ gb788)); clear HB; have HB := n0_; have BK788 := n1_; have GW788 := n2_; have GE788 := n3_; clear n0_ n1_ n2_ n3_; clear hb hbox hg; have hcz7_0 : w6.cell? ⟨gb788, 0, none⟩ = some (.complex .f64 a0_0.1 a0_0.2) := (blk_cell BK788.out 0).trans rfl; have hcz7_1 : w6.cell? ⟨gb788, 1, none⟩ = some (.bool true) := (blk_cell BK788.out 1).trans rfl; have hfz7_0 := blk_frozen BK788.out 0; have hfz7_1 := blk_frozen BK788.out 1))
   go_ret
   exact ⟨by first | rfl | (simp [errW_none, errW_some] <;> rfl) | (simp [*, errW_none, errW_some] <;> rfl), by repeat (first | (with_reducible first | exact HB.out | apply below_alloc | apply pw_below_drewN | apply below_drew1 | refine below_set ?_ GE788.out) | exact HB.out)⟩
 ·replace c2 := Bool.eq_false_iff.mpr c2
  subst c2
  have H1 : ((foghornref02_On.f a0_0.1).bind fun t789 => (if t789 = true then ((foghornref02_On.f a0_0.2).bind fun t790 => (some t790)) else (some false))) = some r := by rw [if_neg (show ¬ (false = true) by decide)] at H; exact H
  clear H
  have H := H1
  clear H1
  replace H := Option.bind_eq_some_iff.mp H
  obtain ⟨t789, A80, H⟩ := H
  replace H : (if t789 = true then ((foghornref02_On.f a0_0.2).bind fun t790 => (some t790)) else (some false)) = some r := H
  have A8 := Aside0.mk A80
  clear A80
  by_cases c9 : t789 = true
  ·subst c9
   have H1 : ((foghornref02_On.f a0_0.2).bind fun t790 => (some t790)) = some r := by rw [if_pos rfl] at H; exact H
   clear H
   have H := H1
   clear H1
   replace H := Option.bind_eq_some_iff.mp H
   obtain ⟨t790, A100, H⟩ := H
   replace H : (some t790) = some r := H
   have A10 := Aside0.mk A100
   clear A100
   obtain rfl := Option.some.inj H
   go_enter Try.func137, Try.ntmps137
   go_wp2_with (first | ((with_reducible refine gate_dst (N := 1) rfl ?_); (try (refine gate_guard (by rfl) ?_; dsimp only)); refine box_event ?hg (N := 1) ?hd (cs := #[.complex .f64 a0_0.1 a0_0.2, .bool false]) (t := 101) ?hr ?_; (case hd => rfl); (case hg => rfl); (case hr => first | (go_simp; done) | (go_simp; rfl)); intro gb788 hg w11 hbox hb; have n0_ := Aside0.mk (below_step (by repeat (first | (with_reducible first | exact HB.out | apply below_alloc | apply pw_below_drewN | apply below_drew1) | exact HB.out)) hb); have n1_ := Aside0.mk (hbox); have n2_ := Aside0.mk ((by rw [hg]; exact (below_size (by repeat (first | (with_reducible first | exact HB.out | apply below_alloc | apply pw_below_drewN | apply below_drew1) | exact HB.out))) : w.heap.size ≤ gb788)); have n3_ := Aside0.mk ((by rw [hg]; exact (below_size (by repeat (first | (with_reducible first | exact HB.out | apply below_alloc | apply pw_below_drewN | apply below_drew1) | exact HB.out))) : w.heap.size ≤ gb788)); clear HB; have HB := n0_; have BK788 := n1_; have GW788 := n2_; have GE788 := n3_; clear n0_ n1_ n2_ n3_; clear hb hbox hg; have hcz12_0 : w11.cell? ⟨gb788, 0, none⟩ = some (.complex .f64 a0_0.1 a0_0.2) := (blk_cell BK788.out 0).trans rfl; have hcz12_1 : w11.cell? ⟨gb788, 1, none⟩ = some (.bool false) := (blk_cell BK788.out 1).trans rfl; have hfz12_0 := blk_frozen BK788.out 0; have hfz12_1 := blk_frozen BK788.out 1) | ((with_reducible refine gate_callee (f := 103) rfl ?_); refine goesL_ (some 18) rfl rfl Try.func103 (by kernel_rfl) rfl #[.float .f64 a0_0.1] rfl (by (try simp only [List.map_toArray, List.map_cons, List.map_nil]); first | done | rfl | (simp only [List.length_drop, List.length_take]; rfl)) ?_; (with_reducible refine (foghornref02_On.calls a0_0.1 true _ A8.out).mono ?_); rintro e w' ⟨rfl, ⟨nd, rfl⟩⟩; refine ⟨_, rfl, ?_⟩) | (go_at_call 103; (with_reducible refine (foghornref02_On.calls a0_0.2 t790 _ A10.out).mono ?_); rintro e w' ⟨rfl, ⟨nd, rfl⟩⟩))
   go_ret
   exact ⟨by first | rfl | (simp [errW_none, errW_some] <;> rfl) | (simp [*, errW_none, errW_some] <;> rfl), by repeat (first | (with_reducible first | exact HB.out | apply below_alloc | apply pw_below_drewN | apply below_drew1 | refine below_set ?_ GE788.out) | exact HB.out)⟩
  ·replace c9 := Bool.eq_false_iff.mpr c9
   subst c9
   have H1 : (some false) = some r := by rw [if_neg (show ¬ (false = true) by decide)] at H; exact H
   clear H
   have H := H1
   clear H1
   obtain rfl := Option.some.inj H
   go_enter Try.func137, Try.ntmps137
   go_wp2_with (first | ((with_reducible refine gate_dst (N := 1) rfl ?_); (try (refine gate_guard (by rfl) ?_; dsimp only)); refine box_event ?hg (N := 1) ?hd (cs := #[.complex .f64 a0_0.1 a0_0.2, .bool false]) (t := 101) ?hr ?_; (case hd => rfl); (case hg => rfl); (case hr => first | (go_simp; done) | (go_simp; rfl)); intro gb788 hg w13 hbox hb; have n0_ := Aside0.mk (below_step (by repeat (first | (with_reducible first | exact HB.out | apply below_alloc | apply pw_below_drewN | apply below_drew1) | exact HB.out)) hb); have n1_ := Aside0.mk (hbox); have n2_ := Aside0.mk ((by rw [hg]; exact (below_size (by repeat (first | (with_reducible first | exact HB.out | apply below_alloc | apply pw_below_drewN | apply below_drew1) | exact HB.out))) : w.heap.size ≤ gb788)); have n3_ := Aside0.mk ((by rw [hg]; exact (below_size (by repeat (first | (with_reducible first | exact HB.out | apply below_alloc | apply pw_below_drewN | apply below_drew1) | exact HB.out))) : w.heap.size ≤ gb788)); clear HB; have HB := n0_; have BK788 := n1_; have GW788 := n2_; have GE788 := n3_; clear n0_ n1_ n2_ n3_; clear hb hbox hg; have hcz14_0 : w13.cell? ⟨gb788, 0, none⟩ = some (.complex .f64 a0_0.1 a0_0.2) := (blk_cell BK788.out 0).trans rfl; have hcz14_1 : w13.cell? ⟨gb788, 1, none⟩ = some (.bool false) := (blk_cell BK788.out 1).trans rfl; have hfz14_0 := blk_frozen BK788.out 0; have hfz14_1 := blk_frozen BK788.out 1) | ((with_reducible refine gate_callee (f := 103) rfl ?_); refine goesL_ (some 18) rfl rfl Try.func103 (by kernel_rfl) rfl #[.float .f64 a0_0.1] rfl (by (try simp only [List.map_toArray, List.map_cons, List.map_nil]); first | done | rfl | (simp only [List.length_drop, List.length_take]; rfl)) ?_; (with_reducible refine (foghornref02_On.calls a0_0.1 false _ A8.out).mono ?_); rintro e w' ⟨rfl, ⟨nd, rfl⟩⟩; refine ⟨_, rfl, ?_⟩))
   go_ret
   exact ⟨by first | rfl | (simp [errW_none, errW_some] <;> rfl) | (simp [*, errW_none, errW_some] <;> rfl), by repeat (first | (with_reducible first | exact HB.out | apply below_alloc | apply pw_below_drewN | apply below_drew1 | refine below_set ?_ GE788.out) | exact HB.out)⟩

/-! ### foghornref02_Check: function 132 -/
set_option maxHeartbeats 8000000 in
set_option maxRecDepth 100000 in
theorem foghornref02_Check.calls (k : Nat) (A0 : Option Addr) (c0 : Nat) (l0 : List (S101)) (r1 : Int) (r2 : Int) (w : World) (hr0 : Kd.C k101 w A0 l0.length l0) (hc0 : l0.length ≤ c0) (h : foghornref02_Check.f k l0 = some (r1, r2)) :
  Calls Try.prog 132 #[.slice A0 l0.length c0] w fun e w' => e = .returned (.tuple #[.int .i64 r1, .int .i64 r2]) ∧ Below w.heap.size w w' := by
 have hu101 := Try.underlying101
 have HR0 := Aside0.mk hr0
 have HC0 := Aside0.mk hc0
 clear hr0 hc0
 have HB := Aside0.mk (Below.refl w.heap.size w)
 have H : (if (l0.length : Int) > 65536 then (some (0, 1)) else (foghornref02_Check.l0 k l0 0)) = some (r1, r2) := h
 clear h
 by_cases c2 : (l0.length : Int) > 65536
 ·rw [if_pos c2] at H
  have c2b0 : decide (65536 < (l0.length : Int)) = true := decide_eq_true c2
  have c2b1 : decide (65536 < l0.length) = true := decide_eq_true (by omega)
  clear c2
  simp only [Option.some.injEq, Prod.mk.injEq] at H
  obtain ⟨rfl, rfl⟩ := H
  go_enter Try.func132, Try.ntmps132
  go_wp2
  go_ret2
  exact ⟨by first | rfl | (simp [errW_none, errW_some] <;> rfl) | (simp [*, errW_none, errW_some] <;> rfl), by repeat (first | (with_reducible first | exact HB.out | apply below_alloc | apply pw_below_drewN | apply below_drew1) | exact HB.out)⟩
 ·rw [if_neg c2] at H
  have c2b0 : decide (65536 < (l0.length : Int)) = false := decide_eq_false c2
  have c2b1 : decide (65536 < l0.length) = false := decide_eq_false (by omega)
  clear c2
  have H' := Aside0.mk H
  clear H
  go_enter Try.func132, Try.ntmps132
  go_wp2
  go_loopg [4] k (fun kq v4 w' => ∃ (x4_1 : Int), v4 = .int .i64 x4_1 ∧ Aside0 (foghornref02_Check.l0 kq l0 x4_1 = some (r1, r2)) ∧ Aside0 (kq ≤ k) ∧ Aside0 (Below w.heap.size w w'))
  case atStart => exact ⟨(0), (by first | rfl | (simp; done) | (simp [*]; done)), H', ⟨Nat.le_refl _⟩, ⟨by repeat (first | (with_reducible first | exact HB.out | apply below_alloc | apply pw_below_drewN | apply below_drew1) | exact HB.out)⟩⟩
  case round =>
   clear H'
   try clear c1
   try clear c2
   try clear c2b0
   try clear c2b1
   try clear p2
   obtain ⟨x4_1, rfl, HA, HK1, HB⟩ := hrel
   cases gk with
   | zero => exact absurd HA.out (by simp [foghornref02_Check.l0])
   | succ k1 =>
    have H := HA.out
    clear HA
    simp only [foghornref02_Check.l0] at H
    by_cases c3 : x4_1 < (l0.length : Int)
    ·rw [if_pos c3] at H
     have c3b0 : decide (x4_1 < (l0.length : Int)) = true := decide_eq_true c3
     clear c3
     by_cases c4 : 0 ≤ x4_1
     ·rw [if_pos c4] at H
      have c4b0 : decide (0 ≤ x4_1) = true := decide_eq_true c4
      clear c4
      replace H := Option.bind_eq_some_iff.mp H
      obtain ⟨t792, A50, H⟩ := H
      replace H : (if t792 = true then (foghornref02_Check.l0 k1 l0 (wrap64 (x4_1 + 1))) else (some (x4_1, 7))) = some (r1, r2) := H
      have A5 := Aside0.mk A50
      clear A50
      by_cases c6 : t792 = true
      ·subst c6
       have H1 : (foghornref02_Check.l0 k1 l0 (wrap64 (x4_1 + 1))) = some (r1, r2) := by rw [if_pos rfl] at H; exact H
       clear H
       have H := H1
       clear H1
       have H' := Aside0.mk H
       clear H
       have p791 : 0 ≤ (x4_1 : Int) := of_decide_eq_true (by first | (with_reducible assumption) | assumption)
       have q791 : x4_1 < (l0.length : Int) := of_decide_eq_true (by first | (with_reducible assumption) | assumption)
       obtain ⟨ad791, e791, hx791_0, hx791_1⟩ := at_T101 HR0.out x4_1 p791 q791
       cases e791
       replace hx791_0 := (HB.out.cell (World.block_lt_of_cell? w _ hx791_0)).trans hx791_0
       replace hx791_1 := (HB.out.cell (World.block_lt_of_cell? w _ hx791_1)).trans hx791_1
       replace p791 := eq_true p791
       replace q791 := eq_true q791
       go_wp2_with (first | ((with_reducible refine gate_callee (f := 137) rfl ?_); refine goesL_ (some 18) rfl rfl Try.func137 (by kernel_rfl) rfl #[.agg #[.complex .f64 (((rd_T101 l0 x4_1).f0).1) (((rd_T101 l0 x4_1).f0).2), .bool ((rd_T101 l0 x4_1).f1)]] rfl (by (try simp only [List.map_toArray, List.map_cons, List.map_nil]); first | done | rfl | (simp only [List.length_drop, List.length_take]; rfl)) ?_; (with_reducible refine (foghornref02_May.calls ((rd_T101 l0 x4_1).f0) ((rd_T101 l0 x4_1).f1) true _ A5.out).mono ?_); rintro e w7 ⟨rfl, hb⟩; refine ⟨_, rfl, ?_⟩; have n0_ := Aside0.mk (below_step (by repeat (first | (with_reducible first | exact HB.out | apply below_alloc | apply pw_below_drewN | apply below_drew1) | exact HB.out)) hb); clear HB; have HB := n0_; clear n0_; (try clear hb); (try clear hb2); (try clear hk); (try clear hi)))
       first | go_roundg k1 | (simp only [add_plain] at *; go_roundg k1)
       case measure => have := HK1.out; omega
       case rel => exact ⟨(wrap64 (x4_1 + 1)), (by first | rfl | (simp; done) | (simp [*]; done)), H', ⟨by have := HK1.out; omega⟩, ⟨by repeat (first | (with_reducible first | exact HB.out | apply below_alloc | apply pw_below_drewN | apply below_drew1) | exact HB.out)⟩⟩
      ·replace c6 := Bool.eq_false_iff.mpr c6
       subst c6
       have H1 : (some (x4_1, 7)) = some (r1, r2) := by rw [if_neg (show ¬ (false = true) by decide)] at H; exact H
       clear H
       have H := H1
       clear H1
       simp only [Option.some.injEq, Prod.mk.injEq] at H
       obtain ⟨rfl, rfl⟩ := H
       have p791 : 0 ≤ (x4_1 : Int) := of_decide_eq_true (by first | (with_reducible assumption) | assumption)
       have q791 : x4_1 < (l0.length : Int) := of_decide_eq_true (by first | (with_reducible assumption) | assumption)
       obtain ⟨ad791, e791, hx791_0, hx791_1⟩ := at_T101 HR0.out x4_1 p791 q791
       cases e791
       replace hx791_0 := (HB.out.cell (World.block_lt_of_cell? w _ hx791_0)).trans hx791_0
       replace hx791_1 := (HB.out.cell (World.block_lt_of_cell? w _ hx791_1)).trans hx791_1
       replace p791 := eq_true p791
       replace q791 := eq_true q791
       go_wp2_with (first | ((with_reducible refine gate_callee (f := 137) rfl ?_); refine goesL_ (some 18) rfl rfl Try.func137 (by kernel_rfl) rfl #[.agg #[.complex .f64 (((rd_T101 l0 x4_1).f0).1) (((rd_T101 l0 x4_1).f0).2), .bool ((rd_T101 l0 x4_1).f1)]] rfl (by (try simp only [List.map_toArray, List.map_cons, List.map_nil]); first | done | rfl | (simp only [List.length_drop, List.length_take]; rfl)) ?_; (with_reducible refine (foghornref02_May.calls ((rd_T101 l0 x4_1).f0) ((rd_T101 l0 x4_1).f1) false _ A5.out).mono ?_); rintro e w8 ⟨rfl, hb⟩; refine ⟨_, rfl, ?_⟩; have n0_ := Aside0.mk (below_step (by repeat (first | (with_reducible first | exact HB.out | apply below_alloc | apply pw_below_drewN | apply below_drew1) | exact HB.out)) hb); clear HB; have HB := n0_; clear n0_; (try clear hb); (try clear hb2); (try clear hk); (try clear hi)))
       go_ret2
       exact ⟨by first | rfl | (simp [errW_none, errW_some] <;> rfl) | (simp [*, errW_none, errW_some] <;> rfl), by repeat (first | (with_reducible first | exact HB.out | apply below_alloc | apply pw_below_drewN | apply below_drew1) | exact HB.out)⟩
     ·rw [if_neg c4] at H
      exact absurd H (by simp)
    ·rw [if_neg c3] at H
     have c3b0 : decide (x4_1 < (l0.length : Int)) = false := decide_eq_false c3
     clear c3
     simp only [Option.some.injEq, Prod.mk.injEq] at H
     obtain ⟨rfl, rfl⟩ := H
     go_wp2
     go_ret2
     exact ⟨by first | rfl | (simp [errW_none, errW_some] <;> rfl) | (simp [*, errW_none, errW_some] <;> rfl), by repeat (first | (with_reducible first | exact HB.out | apply below_alloc | apply pw_below_drewN | apply below_drew1) | exact HB.out)⟩

/-! ### foghornref05_Row: function 67 -/
set_option maxHeartbeats 8000000 in
set_option maxRecDepth 100000 in
theorem foghornref05_Row.calls (k : Nat) (a0 : Int) (A1 : Option Addr) (c1 : Nat) (l1 : List (S101)) (r1 : List (S80)) (r2 : Int) (w : World) (hr1 : Kd.C k101 w A1 l1.length l1) (hc1 : l1.length ≤ c1) (h : foghornref05_Row.f k a0 l1 = some (r1, r2)) :
  Calls Try.prog 67 #[.int .i64 a0, .slice A1 l1.length c1] w fun e w' => ∃ v0_ : Value, e = .returned (.tuple #[v0_, .int .i64 r2]) ∧ Kd.R k80 80 w' w.heap.size (fun _ => True) v0_ r1 ∧ Below w.heap.size w w' := by
 have hu80 := Try.underlying80
 have HR1 := Aside0.mk hr1
 have HC1 := Aside0.mk hc1
 clear hr1 hc1
 have HB := Aside0.mk (Below.refl w.heap.size w)
 have H : ((foghornref04_Edge.f a0).bind fun bt793 => (if bt793.2 = 0 then ((foghornref02_Check.f k l1).bind fun bt795 => (if bt795.2 = 0 then (foghornref05_Row.l0 k a0 l1 ([] : List (S80)) 0) else (some (([] : List (S80)), bt795.2)))) else (some (([] : List (S80)), 1)))) = some (r1, r2) := h
 clear h
 replace H := Option.bind_eq_some_iff.mp H
 obtain ⟨⟨t793, t794⟩, A30, H⟩ := H
 replace H : (if t794 = 0 then ((foghornref02_Check.f k l1).bind fun bt795 => (if bt795.2 = 0 then (foghornref05_Row.l0 k a0 l1 ([] : List (S80)) 0) else (some (([] : List (S80)), bt795.2)))) else (some (([] : List (S80)), 1))) = some (r1, r2) := H
 have A3 := Aside0.mk A30
 clear A30
 by_cases c4 : t794 = 0
 ·rw [if_pos c4] at H
  have c4b0 : (t794 == 0) = true := beq_iff_eq.mpr c4
  have c4b1 : (t794 != 0) = false := bne_eq_false_iff_eq.mpr c4
  clear c4
  replace H := Option.bind_eq_some_iff.mp H
  obtain ⟨⟨t795, t796⟩, A50, H⟩ := H
  replace H : (if t796 = 0 then (foghornref05_Row.l0 k a0 l1 ([] : List (S80)) 0) else (some (([] : List (S80)), t796))) = some (r1, r2) := H
  have A5 := Aside0.mk A50
  clear A50
  by_cases c6 : t796 = 0
  ·rw [if_pos c6] at H
   have c6b0 : (t796 == 0) = true := beq_iff_eq.mpr c6
   have c6b1 : (t796 != 0) = false := bne_eq_false_iff_eq.mpr c6
   clear c6
   have H' := Aside0.mk H
   clear H
   go_enter Try.func67, Try.ntmps67
   go_wp2_with (first | ((with_reducible refine gate_callee (f := 65) rfl ?_); refine goesL_ (some 13) rfl rfl Try.func65 (by kernel_rfl) rfl #[.int .i64 a0] rfl (by (try simp only [List.map_toArray, List.map_cons, List.map_nil]); first | done | rfl | (simp only [List.length_drop, List.length_take]; rfl)) ?_; (with_reducible refine (foghornref04_Edge.calls a0 t793 t794 _ A3.out).mono ?_); rintro e w' ⟨rfl, ⟨nd, rfl⟩⟩; refine ⟨_, rfl, ?_⟩) | ((with_reducible refine gate_callee (f := 132) rfl ?_); refine goesL_ (some 20) rfl rfl Try.func132 (by kernel_rfl) rfl #[.slice A1 l1.length c1] rfl (by (try simp only [List.map_toArray, List.map_cons, List.map_nil]); first | done | rfl | (simp only [List.length_drop, List.length_take]; rfl)) ?_; (with_reducible refine (foghornref02_Check.calls k _ _ l1 t795 t796 _ ?side1 ?side2 A5.out).mono ?_); (case side1 => repeat (first | exact HR1.out | (with_reducible refine Kd.C_alloc ?_ _) | (with_reducible refine Kd.C_drewN ?_ _) | (with_reducible refine Kd.C_drew ?_))); (case side2 => exact HC1.out); rintro e w7 ⟨rfl, hb⟩; refine ⟨_, rfl, ?_⟩; have n0_ := Aside0.mk (below_step (by repeat (first | (with_reducible first | exact HB.out | apply below_alloc | apply pw_below_drewN | apply below_drew1) | exact HB.out)) hb); clear HB; have HB := n0_; clear n0_; (try clear hb); (try clear hb2); (try clear hk); (try clear hi)))
   go_loopg [8, 9] k (fun kq v8 v9 w' => ∃ (x8_1 : List (S80)) (x9_1 : Int), v9 = .int .i64 x9_1 ∧ Aside0 (foghornref05_Row.l0 kq a0 l1 x8_1 x9_1 = some (r1, r2)) ∧ Aside0 (kq ≤ k) ∧ Aside0 (Kd.R k80 80 w' w.heap.size (fun _ => True) v8 x8_1) ∧ Aside0 (Below w.heap.size w w'))
   case atStart => exact ⟨(([] : List (S80))), (0), (by first | rfl | (simp; done) | (simp [*]; done)), H', ⟨Nat.le_refl _⟩, ⟨by first | exact Kd.R_nil _ _ _ _ _ | exact Kd.N_nil _ _ _ _ _ | exact Kd.V_nil _ _ _ _ _ | exact Kd.Q_nil _ _ _ _ _ | exact Kd.S_nil _ _ _ _ _⟩, ⟨by repeat (first | (with_reducible first | exact HB.out | apply below_alloc | apply pw_below_drewN | apply below_drew1) | exact HB.out)⟩⟩
   case round =>
    clear H'
    try clear c1
    try clear p2
    try clear c4
    try clear c4b0
    try clear c4b1
    try clear c6
    try clear c6b0
    try clear c6b1
    obtain ⟨x8_1, x9_1, rfl, HA, HK1, HO_8, HB⟩ := hrel
    cases gk with
    | zero => exact absurd HA.out (by simp [foghornref05_Row.l0])
    | succ k1 =>
     have H := HA.out
     clear HA
     simp only [foghornref05_Row.l0] at H
     by_cases c8 : x9_1 < (l1.length : Int)
     ·rw [if_pos c8] at H
      have c8b0 : decide (x9_1 < (l1.length : Int)) = true := decide_eq_true c8
      clear c8
      by_cases c9 : 0 ≤ x9_1
      ·rw [if_pos c9] at H
       have c9b0 : decide (0 ≤ x9_1) = true := decide_eq_true c9
       clear c9
       obtain ⟨bq10, hbq10⟩ : ∃ b_ : Bool, b_ = ((rd_T101 l1 x9_1).f1) := ⟨_, rfl⟩
       replace H : (if (bq10 = true) then (if x8_1.length < 4398046511104 then (foghornref05_Row.l0 k1 a0 l1 (x8_1 ++ [(⟨0, (0, 0), true⟩ : S80)]) (wrap64 (x9_1 + 1))) else (none)) else ((foghornref05_Decide.f k1 a0 ((rd_T101 l1 x9_1).f0)).bind fun bt803 => (if x8_1.length < 4398046511104 then (foghornref05_Row.l0 k1 a0 l1 (x8_1 ++ [(⟨bt803.1, bt803.2.1, bt803.2.2.1⟩ : S80)]) (wrap64 (x9_1 + 1))) else (none)))) = some (r1, r2) := by rw [← hbq10] at H; exact H
       have Nbq10 := Aside0.mk hbq10
       clear hbq10
       by_cases c11 : (bq10 = true)
       ·subst c11
        have H1 : (if x8_1.length < 4398046511104 then (foghornref05_Row.l0 k1 a0 l1 (x8_1 ++ [(⟨0, (0, 0), true⟩ : S80)]) (wrap64 (x9_1 + 1))) else (none)) = some (r1, r2) := by rw [if_pos rfl] at H; exact H
        clear H
        have H := H1
        clear H1
        by_cases c12 : x8_1.length < 4398046511104
        ·rw [if_pos c12] at H
         have LMc12 := Aside0.mk c12
         clear c12
         obtain ⟨y799, hy799⟩ : ∃ y_ : List (S80), y_ = (x8_1 ++ [(⟨0, (0, 0), true⟩ : S80)]) := ⟨_, rfl⟩
         replace H : (foghornref05_Row.l0 k1 a0 l1 y799 (wrap64 (x9_1 + 1))) = some (r1, r2) := by first | (rw [hy799]; with_reducible exact H) | (have H2_ := (Option.bind_some _ _).symm.trans H; rw [hy799]; with_reducible exact H2_) | (have H2_ := (Option.bind_some _ _).symm.trans H; with_reducible exact H2_) | with_reducible exact H | (rw [hy799]; exact H) | exact H
         have Ny799 := Aside0.mk hy799
         clear hy799
         have H' := Aside0.mk H
         clear H
         go_wp2_with (first | ((with_reducible refine gate_dst (N := 10) rfl ?_); refine box_event ?hg (N := 10) ?hd (cs := #[.int .i64 0, .complex .f64 0 0, .bool false]) (t := 80) ?hr ?_; (case hd => rfl); (case hg => rfl); (case hr => first | (go_simp; done) | (go_simp; rfl)); intro gb797 hg w13 hbox hb; have n0_ := Aside0.mk (Kd.R_below (Kd.R_elderB (by (with_reducible repeat (first | apply Kd.R_alloc | apply Kd.R_drewN | apply Kd.R_drew)); exact HO_8.out) gb797 (Nat.le_of_eq hg.symm)) hb); have n1_ := Aside0.mk (below_step (by repeat (first | (with_reducible first | exact HB.out | apply below_alloc | apply pw_below_drewN | apply below_drew1) | exact HB.out)) hb); have n2_ := Aside0.mk (hbox); have n3_ := Aside0.mk ((by rw [hg]; exact (below_size (by repeat (first | (with_reducible first | exact HB.out | apply below_alloc | apply pw_below_drewN | apply below_drew1) | exact HB.out))) : w.heap.size ≤ gb797)); have n4_ := Aside0.mk ((by rw [hg]; exact (below_size (by repeat (first | (with_reducible first | exact HB.out | apply below_alloc | apply pw_below_drewN | apply below_drew1) | exact HB.out))) : w.heap.size ≤ gb797)); clear HO_8; clear HB; have HO_8 := n0_; have HB := n1_; have BK797 := n2_; have GW797 := n3_; have GE797 := n4_; clear n0_ n1_ n2_ n3_ n4_; clear hb hbox hg; have hcz14_0 : w13.cell? ⟨gb797, 0, none⟩ = some (.int .i64 0) := (blk_cell BK797.out 0).trans rfl; have hcz14_1 : w13.cell? ⟨gb797, 1, none⟩ = some (.complex .f64 0 0) := (blk_cell BK797.out 1).trans rfl; have hcz14_2 : w13.cell? ⟨gb797, 2, none⟩ = some (.bool false) := (blk_cell BK797.out 2).trans rfl; have hfz14_0 := blk_frozen BK797.out 0; have hfz14_1 := blk_frozen BK797.out 1; have hfz14_2 := blk_frozen BK797.out 2; have p798 : 0 ≤ (x9_1 : Int) := of_decide_eq_true (by first | (with_reducible assumption) | assumption); have q798 : x9_1 < (l1.length : Int) := of_decide_eq_true (by first | (with_reducible assumption) | assumption); obtain ⟨ad798, e798, hx798_0, hx798_1⟩ := at_T101 HR1.out x9_1 p798 q798; (try rw [← Nbq10.out] at hx798_1); cases e798; have hn798_0 : ad798.block ≠ gb797 := Nat.ne_of_lt (Nat.lt_of_lt_of_le (by have := World.block_lt_of_cell? _ _ hx798_0; first | rwa [add_block] at this | exact this) GW797.out); have hn798_1 : ad798.block ≠ gb797 := Nat.ne_of_lt (Nat.lt_of_lt_of_le (by have := World.block_lt_of_cell? _ _ hx798_0; first | rwa [add_block] at this | exact this) GW797.out); have hn798_2 : ad798.block ≠ gb797 := Nat.ne_of_lt (Nat.lt_of_lt_of_le (by have := World.block_lt_of_cell? _ _ hx798_0; first | rwa [add_block] at this | exact this) GW797.out); replace hx798_0 := (HB.out.cell (World.block_lt_of_cell? w _ hx798_0)).trans hx798_0; replace hx798_1 := (HB.out.cell (World.block_lt_of_cell? w _ hx798_1)).trans hx798_1; replace hx798_0 := (cell_far (p := ⟨gb797, 0, none⟩) (by first | (rw [add_block]; exact hn798_0) | (show (Addr.add _ _).block ≠ _; rw [add_block]; exact hn798_0) | exact hn798_0) (.int .i64 0)).trans hx798_0; replace hx798_1 := (cell_far (p := ⟨gb797, 0, none⟩) (by first | (rw [add_block]; exact hn798_0) | (show (Addr.add _ _).block ≠ _; rw [add_block]; exact hn798_0) | exact hn798_0) (.int .i64 0)).trans hx798_1; replace hx798_0 := (cell_far (p := ⟨gb797, 1, none⟩) (by first | (rw [add_block]; exact hn798_1) | (show (Addr.add _ _).block ≠ _; rw [add_block]; exact hn798_1) | exact hn798_1) (.complex .f64 0 0)).trans hx798_0; replace hx798_1 := (cell_far (p := ⟨gb797, 1, none⟩) (by first | (rw [add_block]; exact hn798_1) | (show (Addr.add _ _).block ≠ _; rw [add_block]; exact hn798_1) | exact hn798_1) (.complex .f64 0 0)).trans hx798_1; replace hx798_0 := (cell_far (p := ⟨gb797, 2, none⟩) (by first | (rw [add_block]; exact hn798_2) | (show (Addr.add _ _).block ≠ _; rw [add_block]; exact hn798_2) | exact hn798_2) (.bool true)).trans hx798_0; replace hx798_1 := (cell_far (p := ⟨gb797, 2, none⟩) (by first | (rw [add_block]; exact hn798_2) | (show (Addr.add _ _).block ≠ _; rw [add_block]; exact hn798_2) | exact hn798_2) (.bool true)).trans hx798_1; clear hn798_0; clear hn798_1; clear hn798_2; replace p798 := eq_true p798; replace q798 := eq_true q798) | ((with_reducible refine gate_builtin (b := .append) (xs := #[.tmp 49, .tmp 51]) rfl ?_); at_builtin; refine Kd.R_append k80 (w0 := w) w.heap.size rfl (.tmp 49) (.tmp 51) 118 80 (.agg #[(.int .i64 0), (.complex .f64 0 0), (.bool false)]) 32 rfl Try.underlying118 info80 rfl (by decide) (by omega) u8 x8_1 (⟨0, (0, 0), true⟩ : S80) [.int .i64 0, .complex .f64 0 0, .bool true] (fun k_ => k_ ≠ gb797) (fun _ => False) rfl (by first | (go_simp; done) | (go_simp; rfl)) ?aP (fun _ hk => hk.elim) ?aF ?aO ?aB ?aS ?aL ?_; (case aP => exact k80_mkM _ _ _ (⟨0, (0, 0), true⟩ : S80)); (case aB => exact (by repeat (first | (with_reducible first | exact HB.out | apply below_alloc | apply pw_below_drewN | apply below_drew1 | refine below_set ?_ GE797.out) | exact HB.out))); (case aF => exact (fun k_ hk => Kd.freshB (g := gb797) (o := .cells #[.int .i64 0, .complex .f64 0 0, .bool true] 80 (0, 0)) (by (with_reducible repeat (first | refine blk_drewN ?_ _ | refine blk_drew ?_ | refine blk_alloc ?_ _)); refine blk_put (cs := #[.int .i64 0, .complex .f64 0 0, .bool false]) ?_ 2 _ rfl; (with_reducible repeat (first | refine blk_drewN ?_ _ | refine blk_drew ?_ | refine blk_alloc ?_ _)); refine blk_put (cs := #[.int .i64 0, .complex .f64 0 0, .bool false]) ?_ 1 _ rfl; (with_reducible repeat (first | refine blk_drewN ?_ _ | refine blk_drew ?_ | refine blk_alloc ?_ _)); refine blk_put (cs := #[.int .i64 0, .complex .f64 0 0, .bool false]) ?_ 0 _ rfl; (with_reducible repeat (first | refine blk_drewN ?_ _ | refine blk_drew ?_ | refine blk_alloc ?_ _)); exact BK797.out) k_ hk)); (case aO => exact (by (with_reducible repeat (first | apply Kd.R_alloc | apply Kd.R_drewN | apply Kd.R_drew)); exact Kd.R_mono (Kd.R_far (p := ⟨gb797, 2, none⟩) (Kd.R_far (p := ⟨gb797, 1, none⟩) (Kd.R_far (p := ⟨gb797, 0, none⟩) (Kd.R_mono HO_8.out (fun k_ hk => (⟨hk, hk.2⟩ : _ ∧ k_ ≠ gb797))) (fun _ hk => hk.2) (.int .i64 0)) (fun _ hk => hk.2) (.complex .f64 0 0)) (fun _ hk => hk.2) (.bool true)) (fun _ hk => hk.1.2))); (case aS => exact (below_size (by repeat (first | (with_reducible first | exact HB.out | apply below_alloc | apply pw_below_drewN | apply below_drew1 | refine below_set ?_ GE797.out) | exact HB.out)))); (case aL => have := LMc12.out; omega); intro v800 w15 ho hb hg hat; rw [← Ny799.out] at ho; have n0_ := Aside0.mk (blk_grown (g := gb797) (o := .cells #[.int .i64 0, .complex .f64 0 0, .bool true] 80 (0, 0)) (by (with_reducible repeat (first | refine blk_drewN ?_ _ | refine blk_drew ?_ | refine blk_alloc ?_ _)); refine blk_put (cs := #[.int .i64 0, .complex .f64 0 0, .bool false]) ?_ 2 _ rfl; (with_reducible repeat (first | refine blk_drewN ?_ _ | refine blk_drew ?_ | refine blk_alloc ?_ _)); refine blk_put (cs := #[.int .i64 0, .complex .f64 0 0, .bool false]) ?_ 1 _ rfl; (with_reducible repeat (first | refine blk_drewN ?_ _ | refine blk_drew ?_ | refine blk_alloc ?_ _)); refine blk_put (cs := #[.int .i64 0, .complex .f64 0 0, .bool false]) ?_ 0 _ rfl; (with_reducible repeat (first | refine blk_drewN ?_ _ | refine blk_drew ?_ | refine blk_alloc ?_ _)); exact BK797.out) hg (Kd.R_away HO_8.out (fun _ hk => hk.2))); have n1_ := Aside0.mk (hb); have n2_ := Aside0.mk (ho); clear BK797; clear HB; clear HO_8; have BK797 := n0_; have HB := n1_; have HO801 := n2_; clear n0_ n1_ n2_; clear ho hb hg hat))
         first | go_roundg k1 | (simp only [add_plain] at *; go_roundg k1)
         case measure => have := HK1.out; omega
         case rel => exact ⟨(y799), (wrap64 (x9_1 + 1)), (by first | rfl | (simp; done) | (simp [*]; done)), H', ⟨by have := HK1.out; omega⟩, ⟨by (with_reducible repeat (first | apply Kd.R_alloc | apply Kd.R_drewN | apply Kd.R_drew)); exact Kd.R_mono HO801.out (fun _ hk => trivial)⟩, ⟨by repeat (first | (with_reducible first | exact HB.out | apply below_alloc | apply pw_below_drewN | apply below_drew1 | refine below_set ?_ GE797.out) | exact HB.out)⟩⟩
        ·rw [if_neg c12] at H
         exact absurd H (by simp)
       ·replace c11 := Bool.eq_false_iff.mpr c11
        subst c11
        have H1 : ((foghornref05_Decide.f k1 a0 ((rd_T101 l1 x9_1).f0)).bind fun bt803 => (if x8_1.length < 4398046511104 then (foghornref05_Row.l0 k1 a0 l1 (x8_1 ++ [(⟨bt803.1, bt803.2.1, bt803.2.2.1⟩ : S80)]) (wrap64 (x9_1 + 1))) else (none))) = some (r1, r2) := by rw [if_neg (show ¬ (false = true) by decide)] at H; exact H
        clear H
        have H := H1
        clear H1
        replace H := Option.bind_eq_some_iff.mp H
        obtain ⟨⟨t803, t804, t805, t806⟩, A160, H⟩ := H
        replace H : (if x8_1.length < 4398046511104 then (foghornref05_Row.l0 k1 a0 l1 (x8_1 ++ [(⟨t803, t804, t805⟩ : S80)]) (wrap64 (x9_1 + 1))) else (none)) = some (r1, r2) := H
        have A16 := Aside0.mk A160
        clear A160
        by_cases c17 : x8_1.length < 4398046511104
        ·rw [if_pos c17] at H
         have LMc17 := Aside0.mk c17
         clear c17
         obtain ⟨y807, hy807⟩ : ∃ y_ : List (S80), y_ = (x8_1 ++ [(⟨t803, t804, t805⟩ : S80)]) := ⟨_, rfl⟩
         replace H : (foghornref05_Row.l0 k1 a0 l1 y807 (wrap64 (x9_1 + 1))) = some (r1, r2) := by first | (rw [hy807]; with_reducible exact H) | (have H2_ := (Option.bind_some _ _).symm.trans H; rw [hy807]; with_reducible exact H2_) | (have H2_ := (Option.bind_some _ _).symm.trans H; with_reducible exact H2_) | with_reducible exact H | (rw [hy807]; exact H) | exact H
         have Ny807 := Aside0.mk hy807
         clear hy807
         have H' := Aside0.mk H
         clear H
         go_wp2_with (first | ((with_reducible refine gate_dst (N := 10) rfl ?_); refine box_event ?hg (N := 10) ?hd (cs := #[.int .i64 0, .complex .f64 0 0, .bool false]) (t := 80) ?hr ?_; (case hd => rfl); (case hg => rfl); (case hr => first | (go_simp; done) | (go_simp; rfl)); intro gb797 hg w18 hbox hb; have n0_ := Aside0.mk (Kd.R_below (Kd.R_elderB (by (with_reducible repeat (first | apply Kd.R_alloc | apply Kd.R_drewN | apply Kd.R_drew)); exact HO_8.out) gb797 (Nat.le_of_eq hg.symm)) hb); have n1_ := Aside0.mk (below_step (by repeat (first | (with_reducible first | exact HB.out | apply below_alloc | apply pw_below_drewN | apply below_drew1) | exact HB.out)) hb); have n2_ := Aside0.mk (hbox); have n3_ := Aside0.mk ((by rw [hg]; exact (below_size (by repeat (first | (with_reducible first | exact HB.out | apply below_alloc | apply pw_below_drewN | apply below_drew1) | exact HB.out))) : w.heap.size ≤ gb797)); have n4_ := Aside0.mk ((by rw [hg]; exact (below_size (by repeat (first | (with_reducible first | exact HB.out | apply below_alloc | apply pw_below_drewN | apply below_drew1) | exact HB.out))) : w.heap.size ≤ gb797)); clear HO_8; clear HB; have HO_8 := n0_; have HB := n1_; have BK797 := n2_; have GW797 := n3_; have GE797 := n4_; clear n0_ n1_ n2_ n3_ n4_; clear hb hbox hg; have hcz19_0 : w18.cell? ⟨gb797, 0, none⟩ = some (.int .i64 0) := (blk_cell BK797.out 0).trans rfl; have hcz19_1 : w18.cell? ⟨gb797, 1, none⟩ = some (.complex .f64 0 0) := (blk_cell BK797.out 1).trans rfl; have hcz19_2 : w18.cell? ⟨gb797, 2, none⟩ = some (.bool false) := (blk_cell BK797.out 2).trans rfl; have hfz19_0 := blk_frozen BK797.out 0; have hfz19_1 := blk_frozen BK797.out 1; have hfz19_2 := blk_frozen BK797.out 2; have p798 : 0 ≤ (x9_1 : Int) := of_decide_eq_true (by first | (with_reducible assumption) | assumption); have q798 : x9_1 < (l1.length : Int) := of_decide_eq_true (by first | (with_reducible assumption) | assumption); obtain ⟨ad798, e798, hx798_0, hx798_1⟩ := at_T101 HR1.out x9_1 p798 q798; (try rw [← Nbq10.out] at hx798_1); cases e798; have hn798_0 : ad798.block ≠ gb797 := Nat.ne_of_lt (Nat.lt_of_lt_of_le (by have := World.block_lt_of_cell? _ _ hx798_0; first | rwa [add_block] at this | exact this) GW797.out); have hn798_1 : ad798.block ≠ gb797 := Nat.ne_of_lt (Nat.lt_of_lt_of_le (by have := World.block_lt_of_cell? _ _ hx798_0; first | rwa [add_block] at this | exact this) GW797.out); have hn798_2 : ad798.block ≠ gb797 := Nat.ne_of_lt (Nat.lt_of_lt_of_le (by have := World.block_lt_of_cell? _ _ hx798_0; first | rwa [add_block] at this | exact this) GW797.out); replace hx798_0 := (HB.out.cell (World.block_lt_of_cell? w _ hx798_0)).trans hx798_0; replace hx798_1 := (HB.out.cell (World.block_lt_of_cell? w _ hx798_1)).trans hx798_1; replace hx798_0 := (cell_far (p := ⟨gb797, 0, none⟩) (by first | (rw [add_block]; exact hn798_0) | (show (Addr.add _ _).block ≠ _; rw [add_block]; exact hn798_0) | exact hn798_0) (.int .i64 0)).trans hx798_0; replace hx798_1 := (cell_far (p := ⟨gb797, 0, none⟩) (by first | (rw [add_block]; exact hn798_0) | (show (Addr.add _ _).block ≠ _; rw [add_block]; exact hn798_0) | exact hn798_0) (.int .i64 0)).trans hx798_1; replace hx798_0 := (cell_far (p := ⟨gb797, 1, none⟩) (by first | (rw [add_block]; exact hn798_1) | (show (Addr.add _ _).block ≠ _; rw [add_block]; exact hn798_1) | exact hn798_1) (.complex .f64 0 0)).trans hx798_0; replace hx798_1 := (cell_far (p := ⟨gb797, 1, none⟩) (by first | (rw [add_block]; exact hn798_1) | (show (Addr.add _ _).block ≠ _; rw [add_block]; exact hn798_1) | exact hn798_1) (.complex .f64 0 0)).trans hx798_1; replace hx798_0 := (cell_far (p := ⟨gb797, 2, none⟩) (by first | (rw [add_block]; exact hn798_2) | (show (Addr.add _ _).block ≠ _; rw [add_block]; exact hn798_2) | exact hn798_2) (.bool true)).trans hx798_0; replace hx798_1 := (cell_far (p := ⟨gb797, 2, none⟩) (by first | (rw [add_block]; exact hn798_2) | (show (Addr.add _ _).block ≠ _; rw [add_block]; exact hn798_2) | exact hn798_2) (.bool true)).trans hx798_1; clear hn798_0; clear hn798_1; clear hn798_2; replace p798 := eq_true p798; replace q798 := eq_true q798; have p802 : 0 ≤ (x9_1 : Int) := of_decide_eq_true (by first | (with_reducible assumption) | assumption); have q802 : x9_1 < (l1.length : Int) := of_decide_eq_true (by first | (with_reducible assumption) | assumption); obtain ⟨ad802, e802, hx802_0, hx802_1⟩ := at_T101 HR1.out x9_1 p802 q802; (try rw [← Nbq10.out] at hx802_1); obtain rfl : ad798 = ad802 := (by injection e802); have hn802_0 : ad798.block ≠ gb797 := Nat.ne_of_lt (Nat.lt_of_lt_of_le (by have := World.block_lt_of_cell? _ _ hx802_0; first | rwa [add_block] at this | exact this) GW797.out); have hn802_1 : ad798.block ≠ gb797 := Nat.ne_of_lt (Nat.lt_of_lt_of_le (by have := World.block_lt_of_cell? _ _ hx802_0; first | rwa [add_block] at this | exact this) GW797.out); have hn802_2 : ad798.block ≠ gb797 := Nat.ne_of_lt (Nat.lt_of_lt_of_le (by have := World.block_lt_of_cell? _ _ hx802_0; first | rwa [add_block] at this | exact this) GW797.out); replace hx802_0 := (HB.out.cell (World.block_lt_of_cell? w _ hx802_0)).trans hx802_0; replace hx802_1 := (HB.out.cell (World.block_lt_of_cell? w _ hx802_1)).trans hx802_1; replace hx802_0 := (cell_far (p := ⟨gb797, 0, none⟩) (by first | (rw [add_block]; exact hn802_0) | (show (Addr.add _ _).block ≠ _; rw [add_block]; exact hn802_0) | exact hn802_0) (.int .i64 0)).trans hx802_0; replace hx802_1 := (cell_far (p := ⟨gb797, 0, none⟩) (by first | (rw [add_block]; exact hn802_0) | (show (Addr.add _ _).block ≠ _; rw [add_block]; exact hn802_0) | exact hn802_0) (.int .i64 0)).trans hx802_1; replace hx802_0 := (cell_far (p := ⟨gb797, 1, none⟩) (by first | (rw [add_block]; exact hn802_1) | (show (Addr.add _ _).block ≠ _; rw [add_block]; exact hn802_1) | exact hn802_1) (.complex .f64 0 0)).trans hx802_0; replace hx802_1 := (cell_far (p := ⟨gb797, 1, none⟩) (by first | (rw [add_block]; exact hn802_1) | (show (Addr.add _ _).block ≠ _; rw [add_block]; exact hn802_1) | exact hn802_1) (.complex .f64 0 0)).trans hx802_1; replace hx802_0 := (cell_far (p := ⟨gb797, 2, none⟩) (by first | (rw [add_block]; exact hn802_2) | (show (Addr.add _ _).block ≠ _; rw [add_block]; exact hn802_2) | exact hn802_2) (.bool true)).trans hx802_0; replace hx802_1 := (cell_far (p := ⟨gb797, 2, none⟩) (by first | (rw [add_block]; exact hn802_2) | (show (Addr.add _ _).block ≠ _; rw [add_block]; exact hn802_2) | exact hn802_2) (.bool true)).trans hx802_1; clear hn802_0; clear hn802_1; clear hn802_2; replace p802 := eq_true p802; replace q802 := eq_true q802) | ((with_reducible refine gate_callee (f := 52) rfl ?_); refine goesL_ (some 46) rfl rfl Try.func52 (by kernel_rfl) rfl #[.int .i64 a0, .complex .f64 (((rd_T101 l1 x9_1).f0).1) (((rd_T101 l1 x9_1).f0).2)] rfl (by (try simp only [List.map_toArray, List.map_cons, List.map_nil]); first | done | rfl | (simp only [List.length_drop, List.length_take]; rfl)) ?_; (with_reducible refine (foghornref05_Decide.calls k1 a0 ((rd_T101 l1 x9_1).f0) t803 t804 t805 t806 _ A16.out).mono ?_); rintro e w20 ⟨rfl, hb⟩; refine ⟨_, rfl, ?_⟩; have n0_ := Aside0.mk (Kd.R_below (by (with_reducible repeat (first | apply Kd.R_alloc | apply Kd.R_drewN | apply Kd.R_drew)); exact (Kd.R_mono (Kd.R_far (p := ⟨gb797, 2, none⟩) (Kd.R_far (p := ⟨gb797, 1, none⟩) (Kd.R_far (p := ⟨gb797, 0, none⟩) (Kd.R_mono HO_8.out (fun k_ hk => (⟨hk, hk.2⟩ : _ ∧ k_ ≠ gb797))) (fun _ hk => hk.2) (.int .i64 0)) (fun _ hk => hk.2) (.complex .f64 0 0)) (fun _ hk => hk.2) (.bool true)) (fun _ h_ => h_.1))) hb); have n1_ := Aside0.mk (blk_below (g := gb797) (o := .cells #[.int .i64 0, .complex .f64 0 0, .bool true] 80 (0, 0)) (by (with_reducible repeat (first | refine blk_drewN ?_ _ | refine blk_drew ?_ | refine blk_alloc ?_ _)); refine blk_put (cs := #[.int .i64 0, .complex .f64 0 0, .bool false]) ?_ 2 _ rfl; (with_reducible repeat (first | refine blk_drewN ?_ _ | refine blk_drew ?_ | refine blk_alloc ?_ _)); refine blk_put (cs := #[.int .i64 0, .complex .f64 0 0, .bool false]) ?_ 1 _ rfl; (with_reducible repeat (first | refine blk_drewN ?_ _ | refine blk_drew ?_ | refine blk_alloc ?_ _)); refine blk_put (cs := #[.int .i64 0, .complex .f64 0 0, .bool false]) ?_ 0 _ rfl; (with_reducible repeat (first | refine blk_drewN ?_ _ | refine blk_drew ?_ | refine blk_alloc ?_ _)); exact BK797.out) hb); have n2_ := Aside0.mk (below_step (by repeat (first | (with_reducible first | exact HB.out | apply below_alloc | apply pw_below_drewN | apply below_drew1 | refine below_set ?_ GE797.out) | exact HB.out)) hb); clear HO_8; clear BK797; clear HB; have HO_8 := n0_; have BK797 := n1_; have HB := n2_; clear n0_ n1_ n2_; (try clear hb); (try clear hb2); (try clear hk); (try clear hi); have hcz21_0 : w20.cell? ⟨gb797, 0, none⟩ = some (.int .i64 0) := (blk_cell BK797.out 0).trans rfl; have hcz21_1 : w20.cell? ⟨gb797, 1, none⟩ = some (.complex .f64 0 0) := (blk_cell BK797.out 1).trans rfl; have hcz21_2 : w20.cell? ⟨gb797, 2, none⟩ = some (.bool true) := (blk_cell BK797.out 2).trans rfl; have hfz21_0 := blk_frozen BK797.out 0; have hfz21_1 := blk_frozen BK797.out 1; have hfz21_2 := blk_frozen BK797.out 2) | ((with_reducible refine gate_builtin (b := .append) (xs := #[.tmp 49, .tmp 51]) rfl ?_); at_builtin; refine Kd.R_append k80 (w0 := w) w.heap.size rfl (.tmp 49) (.tmp 51) 118 80 (.agg #[(.int .i64 0), (.complex .f64 0 0), (.bool false)]) 32 rfl Try.underlying118 info80 rfl (by decide) (by omega) u8 x8_1 (⟨t803, t804, t805⟩ : S80) [.int .i64 t803, .complex .f64 t804.1 t804.2, .bool t805] (fun k_ => k_ ≠ gb797) (fun _ => False) rfl (by first | (go_simp; done) | (go_simp; rfl)) ?aP (fun _ hk => hk.elim) ?aF ?aO ?aB ?aS ?aL ?_; (case aP => exact k80_mkM _ _ _ (⟨t803, t804, t805⟩ : S80)); (case aB => exact (by repeat (first | (with_reducible first | exact HB.out | apply below_alloc | apply pw_below_drewN | apply below_drew1 | refine below_set ?_ GE797.out) | exact HB.out))); (case aF => exact (fun k_ hk => Kd.freshB (g := gb797) (o := .cells #[.int .i64 t803, .complex .f64 t804.1 t804.2, .bool t805] 80 (0, 0)) (by (with_reducible repeat (first | refine blk_drewN ?_ _ | refine blk_drew ?_ | refine blk_alloc ?_ _)); refine blk_put (cs := #[.int .i64 t803, .complex .f64 t804.1 t804.2, .bool true]) ?_ 2 _ rfl; (with_reducible repeat (first | refine blk_drewN ?_ _ | refine blk_drew ?_ | refine blk_alloc ?_ _)); refine blk_put (cs := #[.int .i64 t803, .complex .f64 0 0, .bool true]) ?_ 1 _ rfl; (with_reducible repeat (first | refine blk_drewN ?_ _ | refine blk_drew ?_ | refine blk_alloc ?_ _)); refine blk_put (cs := #[.int .i64 0, .complex .f64 0 0, .bool true]) ?_ 0 _ rfl; (with_reducible repeat (first | refine blk_drewN ?_ _ | refine blk_drew ?_ | refine blk_alloc ?_ _)); exact BK797.out) k_ hk)); (case aO => exact (by (with_reducible repeat (first | apply Kd.R_alloc | apply Kd.R_drewN | apply Kd.R_drew)); exact Kd.R_mono (Kd.R_far (p := ⟨gb797, 2, none⟩) (Kd.R_far (p := ⟨gb797, 1, none⟩) (Kd.R_far (p := ⟨gb797, 0, none⟩) (Kd.R_mono HO_8.out (fun k_ hk => (⟨hk, hk.2⟩ : _ ∧ k_ ≠ gb797))) (fun _ hk => hk.2) (.int .i64 t803)) (fun _ hk => hk.2) (.complex .f64 t804.1 t804.2)) (fun _ hk => hk.2) (.bool t805)) (fun _ hk => hk.1.2))); (case aS => exact (below_size (by repeat (first | (with_reducible first | exact HB.out | apply below_alloc | apply pw_below_drewN | apply below_drew1 | refine below_set ?_ GE797.out) | exact HB.out)))); (case aL => have := LMc17.out; omega); intro v808 w22 ho hb hg hat; rw [← Ny807.out] at ho; have n0_ := Aside0.mk (blk_grown (g := gb797) (o := .cells #[.int .i64 t803, .complex .f64 t804.1 t804.2, .bool t805] 80 (0, 0)) (by (with_reducible repeat (first | refine blk_drewN ?_ _ | refine blk_drew ?_ | refine blk_alloc ?_ _)); refine blk_put (cs := #[.int .i64 t803, .complex .f64 t804.1 t804.2, .bool true]) ?_ 2 _ rfl; (with_reducible repeat (first | refine blk_drewN ?_ _ | refine blk_drew ?_ | refine blk_alloc ?_ _)); refine blk_put (cs := #[.int .i64 t803, .complex .f64 0 0, .bool true]) ?_ 1 _ rfl; (with_reducible repeat (first | refine blk_drewN ?_ _ | refine blk_drew ?_ | refine blk_alloc ?_ _)); refine blk_put (cs := #[.int .i64 0, .complex .f64 0 0, .bool true]) ?_ 0 _ rfl; (with_reducible repeat (first | refine blk_drewN ?_ _ | refine blk_drew ?_ | refine blk_alloc ?_ _)); exact BK797.out) hg (Kd.R_away HO_8.out (fun _ hk => hk.2))); have n1_ := Aside0.mk (hb); have n2_ := Aside0.mk (ho); clear BK797; clear HB; clear HO_8; have BK797 := n0_; have HB := n1_; have HO809 := n2_; clear n0_ n1_ n2_; clear ho hb hg hat))
         first | go_roundg k1 | (simp only [add_plain] at *; go_roundg k1)
         case measure => have := HK1.out; omega
         case rel => exact ⟨(y807), (wrap64 (x9_1 + 1)), (by first | rfl | (simp; done) | (simp [*]; done)), H', ⟨by have := HK1.out; omega⟩, ⟨by (with_reducible repeat (first | apply Kd.R_alloc | apply Kd.R_drewN | apply Kd.R_drew)); exact Kd.R_mono HO809.out (fun _ hk => trivial)⟩, ⟨by repeat (first | (with_reducible first | exact HB.out | apply below_alloc | apply pw_below_drewN | apply below_drew1 | refine below_set ?_ GE797.out) | exact HB.out)⟩⟩
        ·rw [if_neg c17] at H
         exact absurd H (by simp)
      ·rw [if_neg c9] at H
       exact absurd H (by simp)
     ·rw [if_neg c8] at H
      have c8b0 : decide (x9_1 < (l1.length : Int)) = false := decide_eq_false c8
      clear c8
      simp only [Option.some.injEq, Prod.mk.injEq] at H
      obtain ⟨rfl, rfl⟩ := H
      go_wp2
      go_ret2
      exact ⟨_, by first | rfl | (simp [errW_none, errW_some] <;> rfl) | (simp [*, errW_none, errW_some] <;> rfl), by (with_reducible repeat (first | apply Kd.R_alloc | apply Kd.R_drewN | apply Kd.R_drew)); exact HO_8.out, by repeat (first | (with_reducible first | exact HB.out | apply below_alloc | apply pw_below_drewN | apply below_drew1) | exact HB.out)⟩
  ·rw [if_neg c6] at H
   have c6b0 : (t796 == 0) = false := beq_eq_false_iff_ne.mpr c6
   have c6b1 : (t796 != 0) = true := bne_iff_ne.mpr c6
   simp only [Option.some.injEq, Prod.mk.injEq] at H
   obtain ⟨rfl, rfl⟩ := H
   go_enter Try.func67, Try.ntmps67
   go_wp2_with (first | ((with_reducible refine gate_callee (f := 65) rfl ?_); refine goesL_ (some 13) rfl rfl Try.func65 (by kernel_rfl) rfl #[.int .i64 a0] rfl (by (try simp only [List.map_toArray, List.map_cons, List.map_nil]); first | done | rfl | (simp only [List.length_drop, List.length_take]; rfl)) ?_; (with_reducible refine (foghornref04_Edge.calls a0 t793 t794 _ A3.out).mono ?_); rintro e w' ⟨rfl, ⟨nd, rfl⟩⟩; refine ⟨_, rfl, ?_⟩) | ((with_reducible refine gate_callee (f := 132) rfl ?_); refine goesL_ (some 20) rfl rfl Try.func132 (by kernel_rfl) rfl #[.slice A1 l1.length c1] rfl (by (try simp only [List.map_toArray, List.map_cons, List.map_nil]); first | done | rfl | (simp only [List.length_drop, List.length_take]; rfl)) ?_; (with_reducible refine (foghornref02_Check.calls k _ _ l1 t795 t796 _ ?side1 ?side2 A5.out).mono ?_); (case side1 => repeat (first | exact HR1.out | (with_reducible refine Kd.C_alloc ?_ _) | (with_reducible refine Kd.C_drewN ?_ _) | (with_reducible refine Kd.C_drew ?_))); (case side2 => exact HC1.out); rintro e w23 ⟨rfl, hb⟩; refine ⟨_, rfl, ?_⟩; have n0_ := Aside0.mk (below_step (by repeat (first | (with_reducible first | exact HB.out | apply below_alloc | apply pw_below_drewN | apply below_drew1) | exact HB.out)) hb); clear HB; have HB := n0_; clear n0_; (try clear hb); (try clear hb2); (try clear hk); (try clear hi)))
   go_ret2
   exact ⟨_, by first | rfl | (simp [errW_none, errW_some] <;> rfl) | (simp [*, errW_none, errW_some] <;> rfl), by first | exact Kd.R_nil _ _ _ _ _ | exact Kd.N_nil _ _ _ _ _ | exact Kd.V_nil _ _ _ _ _ | exact Kd.Q_nil _ _ _ _ _ | exact Kd.S_nil _ _ _ _ _, by repeat (first | (with_reducible first | exact HB.out | apply below_alloc | apply pw_below_drewN | apply below_drew1) | exact HB.out)⟩
 ·rw [if_neg c4] at H
  have c4b0 : (t794 == 0) = false := beq_eq_false_iff_ne.mpr c4
  have c4b1 : (t794 != 0) = true := bne_iff_ne.mpr c4
  simp only [Option.some.injEq, Prod.mk.injEq] at H
  obtain ⟨rfl, rfl⟩ := H
  go_enter Try.func67, Try.ntmps67
  go_wp2_with (first | ((with_reducible refine gate_callee (f := 65) rfl ?_); refine goesL_ (some 13) rfl rfl Try.func65 (by kernel_rfl) rfl #[.int .i64 a0] rfl (by (try simp only [List.map_toArray, List.map_cons, List.map_nil]); first | done | rfl | (simp only [List.length_drop, List.length_take]; rfl)) ?_; (with_reducible refine (foghornref04_Edge.calls a0 t793 t794 _ A3.out).mono ?_); rintro e w' ⟨rfl, ⟨nd, rfl⟩⟩; refine ⟨_, rfl, ?_⟩))
  go_ret2
  exact ⟨_, by first | rfl | (simp [errW_none, errW_some] <;> rfl) | (simp [*, errW_none, errW_some] <;> rfl), by first | exact Kd.R_nil _ _ _ _ _ | exact Kd.N_nil _ _ _ _ _ | exact Kd.V_nil _ _ _ _ _ | exact Kd.Q_nil _ _ _ _ _ | exact Kd.S_nil _ _ _ _ _, by repeat (first | (with_reducible first | exact HB.out | apply below_alloc | apply pw_below_drewN | apply below_drew1) | exact HB.out)⟩

/-! ### points_Label: function 176 -/
set_option maxHeartbeats 8000000 in
set_option maxRecDepth 100000 in
theorem points_Label.calls (k : Nat) (a0 : Int) (a1 : (Nat × Nat)) (r1 : Int) (r2 : Int) (w : World) (h : points_Label.f k a0 a1 = some (r1, r2)) :
  Calls Try.prog 176 #[.int .i64 a0, .complex .f64 a1.1 a1.2] w fun e w' => e = .returned (.tuple #[.int .i64 r1, .int .i64 r2]) ∧ Below w.heap.size w w' := by
 have HB := Aside0.mk (Below.refl w.heap.size w)
 have H : ((points_All.f a0).bind fun bt613 => (if bt613.2 = 0 then (points_Label.l0 k a1 bt613.1 (bt613.1.length : Int) 0) else (some (0, bt613.2)))) = some (r1, r2) := h
 clear h
 replace H := Option.bind_eq_some_iff.mp H
 obtain ⟨⟨t613, t614⟩, A30, H⟩ := H
 replace H : (if t614 = 0 then (points_Label.l0 k a1 t613 (t613.length : Int) 0) else (some (0, t614))) = some (r1, r2) := H
 have A3 := Aside0.mk A30
 clear A30
 by_cases c4 : t614 = 0
 ·rw [if_pos c4] at H
  have c4b0 : (t614 == 0) = true := beq_iff_eq.mpr c4
  have c4b1 : (t614 != 0) = false := bne_eq_false_iff_eq.mpr c4
  clear c4
  have H' := Aside0.mk H
  clear H
  go_enter Try.func176, Try.ntmps176
  go_wp2_with (first | ((with_reducible refine gate_callee (f := 56) rfl ?_); refine goesL_ (some 12) rfl rfl Try.func56 (by kernel_rfl) rfl #[.int .i64 a0] rfl (by (try simp only [List.map_toArray, List.map_cons, List.map_nil]); first | done | rfl | (simp only [List.length_drop, List.length_take]; rfl)) ?_; (with_reducible refine (points_All.calls a0 t613 t614 _ A3.out).mono ?_); rintro e w5 ⟨v615, rfl, ho0, hb⟩; refine ⟨_, rfl, ?_⟩; have n0_ := Aside0.mk (Kd.R_lower ho0 (below_size (by repeat (first | (with_reducible first | exact HB.out | apply below_alloc | apply pw_below_drewN | apply below_drew1) | exact HB.out)))); have n1_ := Aside0.mk (below_step (by repeat (first | (with_reducible first | exact HB.out | apply below_alloc | apply pw_below_drewN | apply below_drew1) | exact HB.out)) hb); clear HB; have HO616 := n0_; have HB := n1_; clear n0_ n1_; (try clear hb); (try clear hb2); (try clear hk); (try clear hi); (try clear ho0); obtain ⟨Ao6, co6, eo6⟩ := Kd.R_slice HO616.out; subst eo6))
  go_loopg [20] k (fun kq v20 w' => ∃ (x20_1 : Int), v20 = .int .i64 x20_1 ∧ Aside0 (points_Label.l0 kq a1 t613 (t613.length : Int) x20_1 = some (r1, r2)) ∧ Aside0 (kq ≤ k) ∧ Aside0 (Kd.R Kd.cplx 32 w' w.heap.size (fun _ => True) (.slice Ao6 t613.length co6) t613) ∧ Aside0 (Below w.heap.size w w'))
  case atStart => exact ⟨(0), (by first | rfl | (simp; done) | (simp [*]; done)), H', ⟨Nat.le_refl _⟩, ⟨by (with_reducible repeat (first | apply Kd.R_alloc | apply Kd.R_drewN | apply Kd.R_drew)); exact HO616.out⟩, ⟨by repeat (first | (with_reducible first | exact HB.out | apply below_alloc | apply pw_below_drewN | apply below_drew1) | exact HB.out)⟩⟩
  case round =>
   clear H'
   try clear c1
   try clear p2
   try clear c4
   try clear c4b0
   try clear c4b1
   try clear c5
   obtain ⟨x20_1, rfl, HA, HK1, HO_18, HB⟩ := hrel
   cases gk with
   | zero => exact absurd HA.out (by simp [points_Label.l0])
   | succ k1 =>
    have H := HA.out
    clear HA
    simp only [points_Label.l0] at H
    by_cases c7 : x20_1 < (t613.length : Int)
    ·rw [if_pos c7] at H
     have c7b0 : decide (x20_1 < (t613.length : Int)) = true := decide_eq_true c7
     clear c7
     by_cases c8 : 0 ≤ x20_1
     ·rw [if_pos c8] at H
      have c8b0 : decide (0 ≤ x20_1) = true := decide_eq_true c8
      clear c8
      by_cases c9 : x20_1 < (t613.length : Int)
      ·rw [if_pos c9] at H
       have c9b0 : decide (x20_1 < (t613.length : Int)) = true := decide_eq_true c9
       clear c9
       by_cases c10 : ((FloatKind.f64.format.order ((rdOf (0, 0) t613 x20_1).1) a1.1 == some .eq) && (FloatKind.f64.format.order ((rdOf (0, 0) t613 x20_1).2) a1.2 == some .eq)) = true
       ·rw [if_pos c10] at H
        have c10b0 : ((FloatKind.f64.format.order ((rdOf (0, 0) t613 x20_1).1) a1.1 == some .eq) && (FloatKind.f64.format.order ((rdOf (0, 0) t613 x20_1).2) a1.2 == some .eq)) = true := c10
        clear c10
        simp only [Option.some.injEq, Prod.mk.injEq] at H
        obtain ⟨rfl, rfl⟩ := H
        have p617 : 0 ≤ (x20_1 : Int) := of_decide_eq_true (by first | (with_reducible assumption) | assumption)
        have q617 : x20_1 < (t613.length : Int) := of_decide_eq_true (by first | (with_reducible assumption) | assumption)
        obtain ⟨ad617, e617, hx617_0⟩ := Kd.at_cplx (Kd.R_reads' HO_18.out).2.2 x20_1 p617 q617
        cases e617
        replace p617 := eq_true p617
        replace q617 := eq_true q617
        go_wp2
        go_ret2
        exact ⟨by first | rfl | (simp [errW_none, errW_some] <;> rfl) | (simp [*, errW_none, errW_some] <;> rfl), by repeat (first | (with_reducible first | exact HB.out | apply below_alloc | apply pw_below_drewN | apply below_drew1) | exact HB.out)⟩
       ·rw [if_neg c10] at H
        have c10b0 : ((FloatKind.f64.format.order ((rdOf (0, 0) t613 x20_1).1) a1.1 == some .eq) && (FloatKind.f64.format.order ((rdOf (0, 0) t613 x20_1).2) a1.2 == some .eq)) = false := by simpa using c10
        clear c10
        have H' := Aside0.mk H
        clear H
        have p617 : 0 ≤ (x20_1 : Int) := of_decide_eq_true (by first | (with_reducible assumption) | assumption)
        have q617 : x20_1 < (t613.length : Int) := of_decide_eq_true (by first | (with_reducible assumption) | assumption)
        obtain ⟨ad617, e617, hx617_0⟩ := Kd.at_cplx (Kd.R_reads' HO_18.out).2.2 x20_1 p617 q617
        cases e617
        replace p617 := eq_true p617
        replace q617 := eq_true q617
        go_wp2
        first | go_roundg k1 | (simp only [add_plain] at *; go_roundg k1)
        case measure => have := HK1.out; omega
        case rel => exact ⟨(wrap64 (x20_1 + 1)), (by first | rfl | (simp; done) | (simp [*]; done)), H', ⟨by have := HK1.out; omega⟩, ⟨by (with_reducible repeat (first | apply Kd.R_alloc | apply Kd.R_drewN | apply Kd.R_drew)); exact HO_18.out⟩, ⟨by repeat (first | (with_reducible first | exact HB.out | apply below_alloc | apply pw_below_drewN | apply below_drew1) | exact HB.out)⟩⟩
      ·rw [if_neg c9] at H
       exact absurd H (by simp)
     ·rw [if_neg c8] at H
      exact absurd H (by simp)
    ·rw [if_neg c7] at H
     have c7b0 : decide (x20_1 < (t613.length : Int)) = false := decide_eq_false c7
     clear c7
     simp only [Option.some.injEq, Prod.mk.injEq] at H
     obtain ⟨rfl, rfl⟩ := H
     go_wp2
     go_ret2
     exact ⟨by first | rfl | (simp [errW_none, errW_some] <;> rfl) | (simp [*, errW_none, errW_some] <;> rfl), by repeat (first | (with_reducible first | exact HB.out | apply below_alloc | apply pw_below_drewN | apply below_drew1) | exact HB.out)⟩
 ·rw [if_neg c4] at H
  have c4b0 : (t614 == 0) = false := beq_eq_false_iff_ne.mpr c4
  have c4b1 : (t614 != 0) = true := bne_iff_ne.mpr c4
  simp only [Option.some.injEq, Prod.mk.injEq] at H
  obtain ⟨rfl, rfl⟩ := H
  go_enter Try.func176, Try.ntmps176
  go_wp2_with (first | ((with_reducible refine gate_callee (f := 56) rfl ?_); refine goesL_ (some 12) rfl rfl Try.func56 (by kernel_rfl) rfl #[.int .i64 a0] rfl (by (try simp only [List.map_toArray, List.map_cons, List.map_nil]); first | done | rfl | (simp only [List.length_drop, List.length_take]; rfl)) ?_; (with_reducible refine (points_All.calls a0 t613 t614 _ A3.out).mono ?_); rintro e w11 ⟨v615, rfl, ho0, hb⟩; refine ⟨_, rfl, ?_⟩; have n0_ := Aside0.mk (Kd.R_lower ho0 (below_size (by repeat (first | (with_reducible first | exact HB.out | apply below_alloc | apply pw_below_drewN | apply below_drew1) | exact HB.out)))); have n1_ := Aside0.mk (below_step (by repeat (first | (with_reducible first | exact HB.out | apply below_alloc | apply pw_below_drewN | apply below_drew1) | exact HB.out)) hb); clear HB; have HO616 := n0_; have HB := n1_; clear n0_ n1_; (try clear hb); (try clear hb2); (try clear hk); (try clear hi); (try clear ho0)))
  go_ret2
  exact ⟨by first | rfl | (simp [errW_none, errW_some] <;> rfl) | (simp [*, errW_none, errW_some] <;> rfl), by repeat (first | (with_reducible first | exact HB.out | apply below_alloc | apply pw_below_drewN | apply below_drew1) | exact HB.out)⟩

/-! ### slice_axes: function 166 -/
set_option maxHeartbeats 8000000 in
set_option maxRecDepth 100000 in
theorem slice_axes.calls (k : Nat) (a0 : Int) (a1 : Int) (a2 : (Nat × Nat)) (r1 : Int) (r2 : (Nat × Nat)) (r3 : Bool) (w : World) (h : slice_axes.f k a0 a1 a2 = some (r1, r2, r3)) :
  Calls Try.prog 166 #[.int .i64 a0, .int .i64 a1, .complex .f64 a2.1 a2.2] w fun e w' => e = .returned (.agg #[.int .i64 r1, .complex .f64 r2.1 r2.2, .bool r3]) ∧ Below w.heap.size w w' := by
 have hu83 := Try.underlying83
 have HB := Aside0.mk (Below.refl w.heap.size w)
 have H : ((slice_Axis.f k a2.1 a1).bind fun bt619 => ((slice_Axis.f k a2.2 a1).bind fun bt621 => ((points_Label.f k a0 (floatOfInt .f64 bt619.1, floatOfInt .f64 bt621.1)).bind fun bt623 => (some (bt623.1, (floatOfInt .f64 bt619.1, floatOfInt .f64 bt621.1), false))))) = some (r1, r2, r3) := h
 clear h
 replace H := Option.bind_eq_some_iff.mp H
 obtain ⟨⟨t619, t620⟩, A40, H⟩ := H
 replace H : ((slice_Axis.f k a2.2 a1).bind fun bt621 => ((points_Label.f k a0 (floatOfInt .f64 t619, floatOfInt .f64 bt621.1)).bind fun bt623 => (some (bt623.1, (floatOfInt .f64 t619, floatOfInt .f64 bt621.1), false)))) = some (r1, r2, r3) := H
 have A4 := Aside0.mk A40
 clear A40
 replace H := Option.bind_eq_some_iff.mp H
 obtain ⟨⟨t621, t622⟩, A50, H⟩ := H
 replace H : ((points_Label.f k a0 (floatOfInt .f64 t619, floatOfInt .f64 t621)).bind fun bt623 => (some (bt623.1, (floatOfInt .f64 t619, floatOfInt .f64 t621), false))) = some (r1, r2, r3) := H
 have A5 := Aside0.mk A50
 clear A50
 replace H := Option.bind_eq_some_iff.mp H
 obtain ⟨⟨t623, t624⟩, A60, H⟩ := H
 replace H : (some (t623, (floatOfInt .f64 t619, floatOfInt .f64 t621), false)) = some (r1, r2, r3) := H
 have A6 := Aside0.mk A60
 clear A60
 simp only [Option.some.injEq, Prod.mk.injEq] at H
 obtain ⟨rfl, rfl, rfl⟩ := H
 go_enter Try.func166, Try.ntmps166
 go_wp2_with (first | ((with_reducible refine gate_dst (N := 6) rfl ?_); refine box_event ?hg (N := 6) ?hd (cs := #[.int .i64 0, .complex .f64 0 0, .bool false]) (t := 83) ?hr ?_; (case hd => rfl); (case hg => rfl); (case hr => first | (go_simp; done) | (go_simp; rfl)); intro gb618 hg w7 hbox hb; have n0_ := Aside0.mk (below_step (by repeat (first | (with_reducible first | exact HB.out | apply below_alloc | apply pw_below_drewN | apply below_drew1) | exact HB.out)) hb); have n1_ := Aside0.mk (hbox); have n2_ := Aside0.mk ((by rw [hg]; exact (below_size (by repeat (first | (with_reducible first | exact HB.out | apply below_alloc | apply pw_below_drewN | apply below_drew1) | exact HB.out))) : w.heap.size ≤ gb618)); have n3_ := Aside0.mk ((by rw [hg]; exact (below_size (by repeat (first | (with_reducible first | exact HB.out | apply below_alloc | apply pw_below_drewN | apply below_drew1) | exact HB.out))) : w.heap.size ≤ gb618)); clear HB; have HB := n0_; have BK618 := n1_; have GW618 := n2_; have GE618 := n3_; clear n0_ n1_ n2_ n3_; clear hb hbox hg) | ((with_reducible refine gate_callee (f := 47) rfl ?_); refine goesL_ (some 18) rfl rfl Try.func47 (by kernel_rfl) rfl #[.float .f64 a2.1, .int .i64 a1] rfl (by (try simp only [List.map_toArray, List.map_cons, List.map_nil]); first | done | rfl | (simp only [List.length_drop, List.length_take]; rfl)) ?_; (with_reducible refine (slice_Axis.calls k a2.1 a1 t619 t620 _ A4.out).mono ?_); rintro e w8 ⟨rfl, hb⟩; refine ⟨_, rfl, ?_⟩; have n0_ := Aside0.mk (blk_below (g := gb618) (o := .cells #[.int .i64 0, .complex .f64 0 0, .bool false] 83 (0, 0)) (by (with_reducible repeat (first | refine blk_drewN ?_ _ | refine blk_drew ?_ | refine blk_alloc ?_ _)); exact BK618.out) hb); have n1_ := Aside0.mk (below_step (by repeat (first | (with_reducible first | exact HB.out | apply below_alloc | apply pw_below_drewN | apply below_drew1 | refine below_set ?_ GE618.out) | exact HB.out)) hb); clear BK618; clear HB; have BK618 := n0_; have HB := n1_; clear n0_ n1_; (try clear hb); (try clear hb2); (try clear hk); (try clear hi)) | ((with_reducible refine gate_callee (f := 47) rfl ?_); refine goesL_ (some 25) rfl rfl Try.func47 (by kernel_rfl) rfl #[.float .f64 a2.2, .int .i64 a1] rfl (by (try simp only [List.map_toArray, List.map_cons, List.map_nil]); first | done | rfl | (simp only [List.length_drop, List.length_take]; rfl)) ?_; (with_reducible refine (slice_Axis.calls k a2.2 a1 t621 t622 _ A5.out).mono ?_); rintro e w9 ⟨rfl, hb⟩; refine ⟨_, rfl, ?_⟩; have n0_ := Aside0.mk (blk_below (g := gb618) (o := .cells #[.int .i64 0, .complex .f64 0 0, .bool false] 83 (0, 0)) (by (with_reducible repeat (first | refine blk_drewN ?_ _ | refine blk_drew ?_ | refine blk_alloc ?_ _)); exact BK618.out) hb); have n1_ := Aside0.mk (below_step (by repeat (first | (with_reducible first | exact HB.out | apply below_alloc | apply pw_below_drewN | apply below_drew1 | refine below_set ?_ GE618.out) | exact HB.out)) hb); clear BK618; clear HB; have BK618 := n0_; have HB := n1_; clear n0_ n1_; (try clear hb); (try clear hb2); (try clear hk); (try clear hi)) | ((with_reducible refine gate_callee (f := 176) rfl ?_); refine goesL_ (some 36) rfl rfl Try.func176 (by kernel_rfl) rfl #[.int .i64 a0, .complex .f64 (floatOfInt .f64 t619) (floatOfInt .f64 t621)] rfl (by (try simp only [List.map_toArray, List.map_cons, List.map_nil]); first | done | rfl | (simp only [List.length_drop, List.length_take]; rfl)) ?_; (with_reducible refine (points_Label.calls k a0 (floatOfInt .f64 t619, floatOfInt .f64 t621) t623 t624 _ A6.out).mono ?_); rintro e w10 ⟨rfl, hb⟩; refine ⟨_, rfl, ?_⟩; have n0_ := Aside0.mk (blk_below (g := gb618) (o := .cells #[.int .i64 0, .complex .f64 0 0, .bool false] 83 (0, 0)) (by (with_reducible repeat (first | refine blk_drewN ?_ _ | refine blk_drew ?_ | refine blk_alloc ?_ _)); exact BK618.out) hb); have n1_ := Aside0.mk (below_step (by repeat (first | (with_reducible first | exact HB.out | apply below_alloc | apply pw_below_drewN | apply below_drew1 | refine below_set ?_ GE618.out) | exact HB.out)) hb); clear BK618; clear HB; have BK618 := n0_; have HB := n1_; clear n0_ n1_; (try clear hb); (try clear hb2); (try clear hk); (try clear hi); have hcz11_0 : w10.cell? ⟨gb618, 0, none⟩ = some (.int .i64 0) := (blk_cell BK618.out 0).trans rfl; have hcz11_1 : w10.cell? ⟨gb618, 1, none⟩ = some (.complex .f64 0 0) := (blk_cell BK618.out 1).trans rfl; have hcz11_2 : w10.cell? ⟨gb618, 2, none⟩ = some (.bool false) := (blk_cell BK618.out 2).trans rfl; have hfz11_0 := blk_frozen BK618.out 0; have hfz11_1 := blk_frozen BK618.out 1; have hfz11_2 := blk_frozen BK618.out 2))
 refine bodyPost_ret (results_cell_row rfl _ _ gb618 83 #[.int .i64 t623, .complex .f64 (floatOfInt .f64 t619) (floatOfInt .f64 t621), .bool false] (0, 0) _ rfl (by (with_reducible repeat (first | refine blk_drewN ?_ _ | refine blk_drew ?_ | refine blk_alloc ?_ _)); refine blk_put (cs := #[.int .i64 t623, .complex .f64 (floatOfInt .f64 t619) (floatOfInt .f64 t621), .bool false]) ?_ 2 _ rfl; (with_reducible repeat (first | refine blk_drewN ?_ _ | refine blk_drew ?_ | refine blk_alloc ?_ _)); refine blk_put (cs := #[.int .i64 t623, .complex .f64 0 0, .bool false]) ?_ 1 _ rfl; (with_reducible repeat (first | refine blk_drewN ?_ _ | refine blk_drew ?_ | refine blk_alloc ?_ _)); refine blk_put (cs := #[.int .i64 0, .complex .f64 0 0, .bool false]) ?_ 0 _ rfl; (with_reducible repeat (first | refine blk_drewN ?_ _ | refine blk_drew ?_ | refine blk_alloc ?_ _)); exact BK618.out) Try.underlying83 rfl (by kernel_rfl)) rfl ?_
 exact ⟨by first | rfl | (simp [errW_none, errW_some] <;> rfl) | (simp [*, errW_none, errW_some] <;> rfl), by repeat (first | (with_reducible first | exact HB.out | apply below_alloc | apply pw_below_drewN | apply below_drew1 | refine below_set ?_ GE618.out) | exact HB.out)⟩

end Go.Proofs.Ythfcafllcgjepaa.Q
