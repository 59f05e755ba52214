-- Printed by myprint.py (ours) over the kit's printer, out of the translation.
import Derived.Test.YthfcafllcgjepaaQ0
import Derived.Test.YthfcafllcgjepaaQF0
namespace Go.Proofs.Ythfcafllcgjepaa.Q
open Go.RowKit Go.Proofs.YthfcafllcgjepaaW.PrintWords Go.Proofs.YthfcafllcgjepaaW.PrintLast Go.Proofs.YthfcafllcgjepaaW.PrintMore
attribute [local go_sem] ArrW.ptrOf_slice unary_neg_float unary_neg_complex run_store_float run_store_complex max2_int min2_int max_two min_two max_three min_three max_four min_four   -- for this text's walks alone
set_option linter.unusedVariables false
set_option linter.unusedSimpArgs false

/-! ### foghornlaw11_numbers: function 24 -/
set_option maxHeartbeats 8000000 in
set_option maxRecDepth 100000 in
theorem foghornlaw11_numbers.calls (k : Nat) (A0 : Option Addr) (c0 : Nat) (l0 : List (S146)) (r : List (Nat × Nat)) (w : World) (hr0 : Kd.C k146 w A0 l0.length l0) (hc0 : l0.length ≤ c0) (h : foghornlaw11_numbers.f k l0 = some r) :
    Calls Try.prog 24 #[.slice A0 l0.length c0] w fun e w' => ∃ v0_ : Value, e = .returned (v0_) ∧ Kd.U (Kd.cplx, (4651892959631900672, 0)) 32 w' w.heap.size (fun _ => True) v0_ r ∧ Below w.heap.size w w' := by
  have HR0 := Aside0.mk hr0
  have HC0 := Aside0.mk hc0
  clear hr0 hc0
  have HB := Aside0.mk (Below.refl w.heap.size w)
  have H : (foghornlaw11_numbers.l0 k l0 ([] : List (Nat × Nat)) 0) = some r := h
  clear h
  have H' := Aside0.mk H
  clear H
  go_enter Try.func24, Try.ntmps24
  go_wp2
  go_loopg [3, 4] k (fun kq v3 v4 w' => ∃ (x3_1 : List (Nat × Nat)) (x4_1 : Int), v4 = .int .i64 x4_1 ∧ Aside0 (foghornlaw11_numbers.l0 kq l0 x3_1 x4_1 = some r) ∧ Aside0 (kq ≤ k) ∧ Aside0 (Kd.R Kd.cplx 32 w' w.heap.size (fun _ => True) v3 x3_1) ∧ Aside0 (Below w.heap.size w w'))
  case atStart => exact ⟨(([] : List (Nat × Nat))), (0), (by first | rfl | (simp; done) | (simp [*]; done)), H', ⟨Nat.le_refl _⟩, ⟨by first | exact Kd.R_nil _ _ _ _ _ | exact Kd.N_nil _ _ _ _ _ | exact Kd.V_nil _ _ _ _ _ | exact Kd.Q_nil _ _ _ _ _ | exact Kd.S_nil _ _ _ _ _⟩, ⟨by repeat (first | (with_reducible first | exact HB.out | apply below_alloc | apply pw_below_drewN | apply below_drew1) | exact HB.out)⟩⟩
  case round =>
    clear H'
    obtain ⟨x3_1, x4_1, rfl, HA, HK1, HO_3, HB⟩ := hrel
    cases gk with
    | zero => exact absurd HA.out (by simp [foghornlaw11_numbers.l0])
    | succ k1 =>
      have H := HA.out
      clear HA
      simp only [foghornlaw11_numbers.l0] at H
      by_cases c2 : x4_1 < (l0.length : Int)
      · rw [if_pos c2] at H
        have c2b0 : decide (x4_1 < (l0.length : Int)) = true := decide_eq_true c2
        clear c2
        by_cases c3 : 0 ≤ x4_1
        · rw [if_pos c3] at H
          have c3b0 : decide (0 ≤ x4_1) = true := decide_eq_true c3
          clear c3
          replace H := Option.bind_eq_some_iff.mp H
          obtain ⟨t121, A40, H⟩ := H
          replace H : ((floatBits .quo .f64 (floatOfInt .f64 ((rd_T146 l0 x4_1).f1)) 4661225614328463360).bind fun t123 => (if x3_1.length < 14073748835379 then (foghornlaw11_numbers.l0 k1 l0 (x3_1 ++ [(t121, t123)]) (wrap64 (x4_1 + 1))) else (none))) = some r := H
          have A4 := Aside0.mk A40
          clear A40
          replace H := Option.bind_eq_some_iff.mp H
          obtain ⟨t123, A50, H⟩ := H
          replace H : (if x3_1.length < 14073748835379 then (foghornlaw11_numbers.l0 k1 l0 (x3_1 ++ [(t121, t123)]) (wrap64 (x4_1 + 1))) else (none)) = some r := H
          have A5 := Aside0.mk A50
          clear A50
          by_cases c6 : x3_1.length < 14073748835379
          · rw [if_pos c6] at H
            have LMc6 := Aside0.mk c6
            clear c6
            obtain ⟨y124, hy124⟩ : ∃ y_ : List (Nat × Nat), y_ = (x3_1 ++ [(t121, t123)]) := ⟨_, rfl⟩
            replace H : (foghornlaw11_numbers.l0 k1 l0 y124 (wrap64 (x4_1 + 1))) = some r := by first | (rw [hy124]; with_reducible exact H) | (have H2_ := (Option.bind_some _ _).symm.trans H; rw [hy124]; with_reducible exact H2_) | (have H2_ := (Option.bind_some _ _).symm.trans H; with_reducible exact H2_) | with_reducible exact H | (rw [hy124]; exact H) | exact H
            have Ny124 := Aside0.mk hy124
            clear hy124
            have H' := Aside0.mk H
            clear H
            try go_wp2
            have n0_ := Aside0.mk (Kd.R_drew HO_3.out)
            have n1_ := Aside0.mk (below_drew1 HB.out)
            clear HO_3
            clear HB
            have HO_3 := n0_
            have HB := n1_
            clear n0_ n1_
            have p120 : 0 ≤ (x4_1 : Int) := of_decide_eq_true (by first | (with_reducible assumption) | assumption)
            have q120 : x4_1 < (l0.length : Int) := of_decide_eq_true (by first | (with_reducible assumption) | assumption)
            obtain ⟨ad120, e120, hx120_0, hx120_1, hx120_2⟩ := at_T146 HR0.out x4_1 p120 q120
            have hw120_2 := hx120_2
            have hw120_1 := hx120_1
            have hw120_0 := hx120_0
            cases e120
            replace hx120_0 := (HB.out.cell (World.block_lt_of_cell? w _ hx120_0)).trans hx120_0
            replace hx120_1 := (HB.out.cell (World.block_lt_of_cell? w _ hx120_1)).trans hx120_1
            replace hx120_2 := (HB.out.cell (World.block_lt_of_cell? w _ hx120_2)).trans hx120_2
            replace p120 := eq_true p120
            replace q120 := eq_true q120
            have hfoA4_ := fun (t_ : TypeId) (w_ : World) => run_float_arith (P := Try.prog) w_ .quo t_ .f64 (floatOfInt .f64 ((rd_T146 l0 x4_1).f0)) 4661225614328463360 t121 A4.out
            have p122 : 0 ≤ (x4_1 : Int) := of_decide_eq_true (by first | (with_reducible assumption) | assumption)
            have q122 : x4_1 < (l0.length : Int) := of_decide_eq_true (by first | (with_reducible assumption) | assumption)
            obtain ⟨ad122, e122, hx122_0, hx122_1, hx122_2⟩ := at_T146 HR0.out x4_1 p122 q122
            have hw122_2 := hx122_2
            have hw122_1 := hx122_1
            have hw122_0 := hx122_0
            obtain rfl : ad120 = ad122 := (by injection e122)
            replace hx122_0 := (HB.out.cell (World.block_lt_of_cell? w _ hx122_0)).trans hx122_0
            replace hx122_1 := (HB.out.cell (World.block_lt_of_cell? w _ hx122_1)).trans hx122_1
            replace hx122_2 := (HB.out.cell (World.block_lt_of_cell? w _ hx122_2)).trans hx122_2
            replace p122 := eq_true p122
            replace q122 := eq_true q122
            have hfoA5_ := fun (t_ : TypeId) (w_ : World) => run_float_arith (P := Try.prog) w_ .quo t_ .f64 (floatOfInt .f64 ((rd_T146 l0 x4_1).f1)) 4661225614328463360 t123 A5.out
            refine start_ (n := 19) (S := fun w' => w'.cell? (ad120.add ((x4_1).toNat * 3)) = some (.int .i32 ((rd_T146 l0 x4_1).f0)) ∧ w'.cell? ⟨(ad120.add ((x4_1).toNat * 3)).block, (ad120.add ((x4_1).toNat * 3)).off + 1, none⟩ = some (.int .i32 ((rd_T146 l0 x4_1).f1)) ∧ w'.cell? ⟨(ad120.add ((x4_1).toNat * 3)).block, (ad120.add ((x4_1).toNat * 3)).off + 2, none⟩ = some (.bool ((rd_T146 l0 x4_1).f2)) ∧ w'.cell? (ad120.add ((x4_1).toNat * 3)) = some (.int .i32 ((rd_T146 l0 x4_1).f0)) ∧ w'.cell? ⟨(ad120.add ((x4_1).toNat * 3)).block, (ad120.add ((x4_1).toNat * 3)).off + 1, none⟩ = some (.int .i32 ((rd_T146 l0 x4_1).f1)) ∧ w'.cell? ⟨(ad120.add ((x4_1).toNat * 3)).block, (ad120.add ((x4_1).toNat * 3)).off + 2, none⟩ = some (.bool ((rd_T146 l0 x4_1).f2))) (ds := []) #[false, false, false, false, false, false, false, false, false, false, false, false, false, false, false, false, false, false, false] (by kernel_rfl) rfl rfl ⟨((HB.out.cell (World.block_lt_of_cell? w _ hw120_0)).trans hw120_0), ((HB.out.cell (World.block_lt_of_cell? w _ hw120_1)).trans hw120_1), ((HB.out.cell (World.block_lt_of_cell? w _ hw120_2)).trans hw120_2), ((HB.out.cell (World.block_lt_of_cell? w _ hw122_0)).trans hw122_0), ((HB.out.cell (World.block_lt_of_cell? w _ hw122_1)).trans hw122_1), ((HB.out.cell (World.block_lt_of_cell? w _ hw122_2)).trans hw122_2)⟩ (fun hHeld => ?_); refine with_tabW foghornlaw11_numbers.tab5 foghornlaw11_numbers.bits5 (fun HT_ HW_ => ?_)
            generalize wr.drew = w7 at HO_3 HB hx120_0 hx120_1 hx120_2 hx122_0 hx122_1 hx122_2 hHeld ⊢
            refine pure_ (i := 0) (N := some 12) (v := ?_) (a' := ?_) #[true, false, false, false, false, false, false, false, false, false, false, false, false, false, false, false, false, false, false] rfl rfl (any_of HT_.out (by kernel_rfl)) (fun _ _ _ h => h) (Or.inl ⟨by rfl, ?_⟩) ?_ ?_
            rotate_left
            · intro w'
              go_simp
              with_reducible rfl
            rotate_left
            · simp only [Act.put, List.setIfInBounds_toArray, List.set_cons_zero, List.set_cons_succ, i64_w, i32_w]
              rfl
            refine pure_ (i := 1) (N := some 13) (v := ?_) (a' := ?_) #[true, true, false, false, false, false, false, false, false, false, false, false, false, false, false, false, false, false, false] rfl rfl (any_of HT_.out (by kernel_rfl)) (fun _ _ _ h => h) (Or.inl ⟨by rfl, ?_⟩) ?_ ?_
            rotate_left
            · intro w'
              go_simp
              with_reducible rfl
            rotate_left
            · simp only [Act.put, List.setIfInBounds_toArray, List.set_cons_zero, List.set_cons_succ, i64_w, i32_w]
              rfl
            refine pure_ (i := 2) (N := some 14) (v := ?_) (a' := ?_) #[true, true, true, false, false, false, false, false, false, false, false, false, false, false, false, false, false, false, false] rfl rfl (any_of HT_.out (by kernel_rfl)) (fun _ _ _ h => h) (Or.inl ⟨by rfl, ?_⟩) ?_ ?_
            rotate_left
            · intro w'
              go_simp
              with_reducible rfl
            rotate_left
            · simp only [Act.put, List.setIfInBounds_toArray, List.set_cons_zero, List.set_cons_succ, i64_w, i32_w]
              rfl
            refine pure_ (i := 3) (N := some 15) (v := ?_) (a' := ?_) #[true, true, true, true, false, false, false, false, false, false, false, false, false, false, false, false, false, false, false] rfl rfl (any_of HT_.out (by kernel_rfl)) (fun _ _ _ h => h) (Or.inl ⟨by rfl, ?_⟩) ?_ ?_
            rotate_left
            · intro w'
              go_simp
              with_reducible rfl
            rotate_left
            · simp only [Act.put, List.setIfInBounds_toArray, List.set_cons_zero, List.set_cons_succ, i64_w, i32_w]
              rfl
            refine pure_ (i := 4) (N := some 16) (v := ?_) (a' := ?_) #[true, true, true, true, true, false, false, false, false, false, false, false, false, false, false, false, false, false, false] rfl rfl (any_of HT_.out (by kernel_rfl)) (fun _ _ _ h => h) (Or.inl ⟨by rfl, ?_⟩) ?_ ?_
            rotate_left
            · intro w'
              go_simp
              with_reducible rfl
            rotate_left
            · simp only [Act.put, List.setIfInBounds_toArray, List.set_cons_zero, List.set_cons_succ, i64_w, i32_w]
              rfl
            refine pure_ (i := 8) (N := some 20) (v := ?_) (a' := ?_) #[true, true, true, true, true, false, false, false, true, false, false, false, false, false, false, false, false, false, false] rfl rfl (any_of HT_.out (by kernel_rfl)) (fun _ _ _ h => h) (Or.inl ⟨by rfl, ?_⟩) ?_ ?_
            rotate_left
            · intro w'
              go_simp
              with_reducible rfl
            rotate_left
            · simp only [Act.put, List.setIfInBounds_toArray, List.set_cons_zero, List.set_cons_succ, i64_w, i32_w]
              rfl
            refine pure_ (i := 9) (N := some 21) (v := ?_) (a' := ?_) #[true, true, true, true, true, false, false, false, true, true, false, false, false, false, false, false, false, false, false] rfl rfl (any_of HT_.out (by kernel_rfl)) (fun _ _ _ h => h) (Or.inl ⟨by rfl, ?_⟩) ?_ ?_
            rotate_left
            · intro w'
              go_simp
              with_reducible rfl
            rotate_left
            · simp only [Act.put, List.setIfInBounds_toArray, List.set_cons_zero, List.set_cons_succ, i64_w, i32_w]
              rfl
            refine pure_ (i := 10) (N := some 22) (v := ?_) (a' := ?_) #[true, true, true, true, true, false, false, false, true, true, true, false, false, false, false, false, false, false, false] rfl rfl (any_of HT_.out (by kernel_rfl)) (fun _ _ _ h => h) (Or.inl ⟨by rfl, ?_⟩) ?_ ?_
            rotate_left
            · intro w'
              go_simp
              with_reducible rfl
            rotate_left
            · simp only [Act.put, List.setIfInBounds_toArray, List.set_cons_zero, List.set_cons_succ, i64_w, i32_w]
              rfl
            refine pure_ (i := 11) (N := some 23) (v := ?_) (a' := ?_) #[true, true, true, true, true, false, false, false, true, true, true, true, false, false, false, false, false, false, false] rfl rfl (any_of HT_.out (by kernel_rfl)) (fun _ _ _ h => h) (Or.inl ⟨by rfl, ?_⟩) ?_ ?_
            rotate_left
            · intro w'
              go_simp
              with_reducible rfl
            rotate_left
            · simp only [Act.put, List.setIfInBounds_toArray, List.set_cons_zero, List.set_cons_succ, i64_w, i32_w]
              rfl
            refine take_ (i := 5) (N := some 17) (v := ?_) (a' := ?_) #[true, true, true, true, true, true, false, false, true, true, true, true, false, false, false, false, false, false, false] rfl rfl (take_ofW HT_.out HW_.out (by kernel_rfl)) (fun _ _ _ h => h) (Or.inl ⟨by rfl, ?_⟩) hHeld ?_ ?_
            rotate_left
            · rintro w' ⟨s0, s1, s2, s3, s4, s5⟩
              go_simp
              with_reducible rfl
            rotate_left
            · simp only [Act.put, List.setIfInBounds_toArray, List.set_cons_zero, List.set_cons_succ, i64_w, i32_w]
              rfl
            refine pure_ (i := 6) (N := some 18) (v := ?_) (a' := ?_) #[true, true, true, true, true, true, true, false, true, true, true, true, false, false, false, false, false, false, false] rfl rfl (any_of HT_.out (by kernel_rfl)) (fun _ _ _ h => h) (Or.inl ⟨by rfl, ?_⟩) ?_ ?_
            rotate_left
            · intro w'
              go_simp
              with_reducible rfl
            rotate_left
            · simp only [Act.put, List.setIfInBounds_toArray, List.set_cons_zero, List.set_cons_succ, i64_w, i32_w]
              rfl
            refine pure_ (i := 7) (N := some 19) (v := ?_) (a' := ?_) #[true, true, true, true, true, true, true, true, true, true, true, true, false, false, false, false, false, false, false] rfl rfl (any_of HT_.out (by kernel_rfl)) (fun _ _ _ h => h) (Or.inl ⟨by rfl, ?_⟩) ?_ ?_
            rotate_left
            · intro w'
              go_simp
              with_reducible rfl
            rotate_left
            · simp only [Act.put, List.setIfInBounds_toArray, List.set_cons_zero, List.set_cons_succ, i64_w, i32_w]
              rfl
            refine take_ (i := 12) (N := some 24) (v := ?_) (a' := ?_) #[true, true, true, true, true, true, true, true, true, true, true, true, true, false, false, false, false, false, false] rfl rfl (take_ofW HT_.out HW_.out (by kernel_rfl)) (fun _ _ _ h => h) (Or.inl ⟨by rfl, ?_⟩) hHeld ?_ ?_
            rotate_left
            · rintro w' ⟨s0, s1, s2, s3, s4, s5⟩
              go_simp
              with_reducible rfl
            rotate_left
            · simp only [Act.put, List.setIfInBounds_toArray, List.set_cons_zero, List.set_cons_succ, i64_w, i32_w]
              rfl
            refine pure_ (i := 13) (N := some 25) (v := ?_) (a' := ?_) #[true, true, true, true, true, true, true, true, true, true, true, true, true, true, false, false, false, false, false] rfl rfl (any_of HT_.out (by kernel_rfl)) (fun _ _ _ h => h) (Or.inl ⟨by rfl, ?_⟩) ?_ ?_
            rotate_left
            · intro w'
              go_simp
              with_reducible rfl
            rotate_left
            · simp only [Act.put, List.setIfInBounds_toArray, List.set_cons_zero, List.set_cons_succ, i64_w, i32_w]
              rfl
            refine pure_ (i := 14) (N := some 26) (v := ?_) (a' := ?_) #[true, true, true, true, true, true, true, true, true, true, true, true, true, true, true, false, false, false, false] rfl rfl (any_of HT_.out (by kernel_rfl)) (fun _ _ _ h => h) (Or.inl ⟨by rfl, ?_⟩) ?_ ?_
            rotate_left
            · intro w'
              go_simp
              with_reducible rfl
            rotate_left
            · simp only [Act.put, List.setIfInBounds_toArray, List.set_cons_zero, List.set_cons_succ, i64_w, i32_w]
              rfl
            refine pure_ (i := 15) (N := some 27) (v := ?_) (a' := ?_) #[true, true, true, true, true, true, true, true, true, true, true, true, true, true, true, true, false, false, false] rfl rfl (any_of HT_.out (by kernel_rfl)) (fun _ _ _ h => h) (Or.inl ⟨by rfl, ?_⟩) ?_ ?_
            rotate_left
            · intro w'
              go_simp
              with_reducible rfl
            rotate_left
            · simp only [Act.put, List.setIfInBounds_toArray, List.set_cons_zero, List.set_cons_succ, i64_w, i32_w]
              rfl
            refine one_ (i := 16) (N := some 28) #[true, true, true, true, true, true, true, true, true, true, true, true, true, true, true, true, true, false, false] rfl rfl (one_of HT_.out (by kernel_rfl)) (by decide) (fun K hK => ?_)
            refine value_ (w1 := ?_) (v := ?_) (by rfl) rfl ?_ ?_
            rotate_left 2
            · go_simp
              constructor
              · rfl
              · rfl
            refine hK.out _ _ ⟨(World.cell?_alloc_lt _ _ _ (World.block_lt_of_cell? _ _ (((HB.out.cell (World.block_lt_of_cell? w _ hw120_0)).trans hw120_0)))).trans (((HB.out.cell (World.block_lt_of_cell? w _ hw120_0)).trans hw120_0)), (World.cell?_alloc_lt _ _ _ (World.block_lt_of_cell? _ _ (((HB.out.cell (World.block_lt_of_cell? w _ hw120_1)).trans hw120_1)))).trans (((HB.out.cell (World.block_lt_of_cell? w _ hw120_1)).trans hw120_1)), (World.cell?_alloc_lt _ _ _ (World.block_lt_of_cell? _ _ (((HB.out.cell (World.block_lt_of_cell? w _ hw120_2)).trans hw120_2)))).trans (((HB.out.cell (World.block_lt_of_cell? w _ hw120_2)).trans hw120_2)), (World.cell?_alloc_lt _ _ _ (World.block_lt_of_cell? _ _ (((HB.out.cell (World.block_lt_of_cell? w _ hw122_0)).trans hw122_0)))).trans (((HB.out.cell (World.block_lt_of_cell? w _ hw122_0)).trans hw122_0)), (World.cell?_alloc_lt _ _ _ (World.block_lt_of_cell? _ _ (((HB.out.cell (World.block_lt_of_cell? w _ hw122_1)).trans hw122_1)))).trans (((HB.out.cell (World.block_lt_of_cell? w _ hw122_1)).trans hw122_1)), (World.cell?_alloc_lt _ _ _ (World.block_lt_of_cell? _ _ (((HB.out.cell (World.block_lt_of_cell? w _ hw122_2)).trans hw122_2)))).trans (((HB.out.cell (World.block_lt_of_cell? w _ hw122_2)).trans hw122_2))⟩ (fun hHeld => ?_)
            clear hK K
            refine norm_ (a' := ?_) ?_ ?_
            rotate_left
            · show Act.put _ (some 28) _ = _
              simp only [Act.put, List.setIfInBounds_toArray, List.set_cons_zero, List.set_cons_succ, i64_w, i32_w]
              rfl
            refine one_ (i := 17) (N := some 29) #[true, true, true, true, true, true, true, true, true, true, true, true, true, true, true, true, true, true, false] rfl rfl (one_of HT_.out (by kernel_rfl)) (by decide) (fun K hK => ?_)
            refine Kd.R_appendw_step Kd.cplx (w0 := w) w.heap.size (by rfl) (.tmp 12) (.tmp 28) 24 32 (.complex .f64 0 0) 16 rfl Try.underlying24 info32 rfl (by decide) (by omega) u3 x3_1 (t121, t123) [.complex .f64 t121 t123] (fun _ => True) (fun _ => False) rfl rfl ?aP (fun _ hk => hk.elim) ?aF ?aO ?aB ?aS ?aL ?_
            (case aP => exact rfl)
            (case aB => exact (by repeat (first | (with_reducible first | exact HB.out | apply below_alloc | apply pw_below_drewN | apply below_drew1) | exact HB.out)))
            (case aF => exact (fun _ _ => trivial))
            (case aO => exact (by (with_reducible repeat (first | apply Kd.R_alloc | apply Kd.R_drewN | apply Kd.R_drew)); exact HO_3.out))
            (case aS => exact (below_size (by repeat (first | (with_reducible first | exact HB.out | apply below_alloc | apply pw_below_drewN | apply below_drew1) | exact HB.out))))
            (case aL => have := LMc6.out; omega)
            intro v125 w8 ho hb hg hat
            rw [← Ny124.out] at ho
            have n0_ := Aside0.mk (hb)
            have n1_ := Aside0.mk (ho)
            clear HB
            clear HO_3
            have HB := n0_
            have HO126 := n1_
            clear n0_ n1_
            clear ho hb hg hat
            refine hK.out _ _ ⟨((HB.out.cell (World.block_lt_of_cell? w _ hw120_0)).trans hw120_0), ((HB.out.cell (World.block_lt_of_cell? w _ hw120_1)).trans hw120_1), ((HB.out.cell (World.block_lt_of_cell? w _ hw120_2)).trans hw120_2), ((HB.out.cell (World.block_lt_of_cell? w _ hw122_0)).trans hw122_0), ((HB.out.cell (World.block_lt_of_cell? w _ hw122_1)).trans hw122_1), ((HB.out.cell (World.block_lt_of_cell? w _ hw122_2)).trans hw122_2)⟩ (fun hHeld => ?_)
            clear hK K
            refine norm_ (a' := ?_) ?_ ?_
            rotate_left
            · show Act.put _ (some 29) _ = _
              simp only [Act.put, List.setIfInBounds_toArray, List.set_cons_zero, List.set_cons_succ, i64_w, i32_w]
              rfl
            refine pure_ (i := 18) (N := some 3) (v := ?_) (a' := ?_) #[true, true, true, true, true, true, true, true, true, true, true, true, true, true, true, true, true, true, true] rfl rfl (any_of HT_.out (by kernel_rfl)) (fun _ _ _ h => h) (Or.inl ⟨by rfl, ?_⟩) ?_ ?_
            rotate_left
            · intro w'
              go_simp
              with_reducible rfl
            rotate_left
            · simp only [Act.put, List.setIfInBounds_toArray, List.set_cons_zero, List.set_cons_succ, i64_w, i32_w]
              rfl
            refine done_ (done_of HT_.out (by kernel_rfl)) ?_
            try go_wp2
            first | go_roundg k1 | (simp only [add_plain] at *; go_roundg k1)
            case measure => have := HK1.out; omega
            case rel => exact ⟨(y124), (wrap64 (x4_1 + 1)), (by first | rfl | (simp; done) | (simp [*]; done)), H', ⟨by have := HK1.out; omega⟩, ⟨by (with_reducible repeat (first | apply Kd.R_alloc | apply Kd.R_drewN | apply Kd.R_drew)); exact HO126.out⟩, ⟨by repeat (first | (with_reducible first | exact HB.out | apply below_alloc | apply pw_below_drewN | apply below_drew1) | exact HB.out)⟩⟩
          · rw [if_neg c6] at H
            exact absurd H (by simp)
        · rw [if_neg c3] at H
          exact absurd H (by simp)
      · rw [if_neg c2] at H
        have c2b0 : decide (x4_1 < (l0.length : Int)) = false := decide_eq_false c2
        clear c2
        by_cases c9 : x3_1.length < 14073748835379
        · rw [if_pos c9] at H
          have LMc9 := Aside0.mk c9
          clear c9
          obtain ⟨y127, hy127⟩ : ∃ y_ : List (Nat × Nat), y_ = (x3_1 ++ [(4651892959631900672, 0)]) := ⟨_, rfl⟩
          replace H : (if (x3_1.length : Int) ≤ (y127.length : Int) then (some (x3_1)) else (none)) = some r := by first | (rw [hy127]; with_reducible exact H) | (have H2_ := (Option.bind_some _ _).symm.trans H; rw [hy127]; with_reducible exact H2_) | (have H2_ := (Option.bind_some _ _).symm.trans H; with_reducible exact H2_) | with_reducible exact H | (rw [hy127]; exact H) | exact H
          have Ny127 := Aside0.mk hy127
          clear hy127
          by_cases c10 : (x3_1.length : Int) ≤ (y127.length : Int)
          · rw [if_pos c10] at H
            have c10b0 := eq_true c10
            have c10b1 : decide ((x3_1.length : Int) ≤ (y127.length : Int)) = true := decide_eq_true c10
            clear c10
            obtain ⟨y130, hy130⟩ : ∃ y_ : List (Nat × Nat), y_ = (x3_1) := ⟨_, rfl⟩
            replace H : (some y130) = some r := by first | (rw [hy130]; with_reducible exact H) | (have H2_ := (Option.bind_some _ _).symm.trans H; rw [hy130]; with_reducible exact H2_) | (have H2_ := (Option.bind_some _ _).symm.trans H; with_reducible exact H2_) | with_reducible exact H | (rw [hy130]; exact H) | exact H
            have Ny130 := Aside0.mk hy130
            clear hy130
            obtain rfl := Option.some.inj H
            obtain ⟨Ao11, co11, eo11⟩ := Kd.R_slice HO_3.out
            subst eo11
            go_wp2_with (first | ((with_reducible refine gate_builtin (b := .append) (xs := #[.tmp 32, .tmp 33]) rfl ?_); at_builtin; refine Kd.R_appendw Kd.cplx (w0 := w) w.heap.size rfl (.tmp 32) (.tmp 33) 24 32 (.complex .f64 0 0) 16 rfl Try.underlying24 info32 rfl (by decide) (by omega) (.slice Ao11 x3_1.length co11) x3_1 (4651892959631900672, 0) [.complex .f64 4651892959631900672 0] (fun _ => True) (fun _ => False) rfl rfl ?aP (fun _ hk => hk.elim) ?aF ?aO ?aB ?aS ?aL ?_; (case aP => exact rfl); (case aB => exact (by repeat (first | (with_reducible first | exact HB.out | apply below_alloc | apply pw_below_drewN | apply below_drew1) | exact HB.out))); (case aF => exact (fun _ _ => trivial)); (case aO => exact (by (with_reducible repeat (first | apply Kd.R_alloc | apply Kd.R_drewN | apply Kd.R_drew)); exact HO_3.out)); (case aS => exact (below_size (by repeat (first | (with_reducible first | exact HB.out | apply below_alloc | apply pw_below_drewN | apply below_drew1) | exact HB.out)))); (case aL => have := LMc9.out; omega); intro v128 w12 ho hb hg hat; rw [← Ny127.out] at ho; have n0_ := Aside0.mk (hb); have n1_ := Aside0.mk (ho); clear HB; clear HO_3; have HB := n0_; have HO129 := n1_; clear n0_ n1_; clear ho hb hg hat; obtain ⟨Ao13, co13, eo13⟩ := Kd.R_slice HO129.out; subst eo13; have q14 : ((x3_1.length : Int) : Int) ≤ ((y127.length : Int) : Int) := of_decide_eq_true (by first | (with_reducible assumption) | assumption); obtain ⟨i014, hi014, _, hsz14, _⟩ := info_parts info32; have hcut14 := cut_to (P := Try.prog) 24 32 .i64 Try.underlying24 hi014 Ao13 y127.length co13 (x3_1.length : Int) (by omega) q14 (Kd.R_reads' HO129.out).2.1; have hr14 := Kd.U_of (m := (Kd.cplx, (4651892959631900672, 0))) HO129.out rfl Ny127.out; rw [← Ny130.out] at hr14; have hy14 : y130.length = ((x3_1.length : Int) : Int).toNat := (by rw [Ny130.out]; omega); rw [← hy14] at hcut14; clear hy14 hi014 hsz14 HO129; have HO132 := Aside0.mk hr14; clear hr14; replace q14 := eq_true q14))
            go_ret
            exact ⟨_, by first | rfl | (simp [errW_none, errW_some] <;> rfl) | (simp [*, errW_none, errW_some] <;> rfl), by (with_reducible repeat (first | apply Kd.U_alloc | apply Kd.U_drewN | apply Kd.U_drew)); exact HO132.out, by repeat (first | (with_reducible first | exact HB.out | apply below_alloc | apply pw_below_drewN | apply below_drew1) | exact HB.out)⟩
          · rw [if_neg c10] at H
            exact absurd H (by simp)
        · rw [if_neg c9] at H
          exact absurd H (by simp)

/-! ### foghornref11_step: function 142 -/
set_option maxHeartbeats 8000000 in
set_option maxRecDepth 100000 in
theorem foghornref11_step.calls (a0 : Nat) (r : Bool) (w : World) (h : foghornref11_step.f a0 = some r) :
    Calls Try.prog 142 #[.float .f64 a0] w fun e w' => e = .returned (.bool r) ∧ Drawn0 w w' := by
  have H : (if (FloatKind.f64.format.order a0 13830554455654793216 == some .gt || FloatKind.f64.format.order a0 13830554455654793216 == some .eq) = true then (if (FloatKind.f64.format.order a0 4607182418800017408 == some .lt || FloatKind.f64.format.order a0 4607182418800017408 == some .eq) = true then ((floatBits .mul .f64 a0 4634204016564240384).bind fun t133 => ((floatToIntVal .f64 t133 .i64).bind fun t134 => (some (FloatKind.f64.format.order (floatOfInt .f64 t134) t133 == some .eq)))) else (some false)) else (some false)) = some r := h
  clear h
  by_cases c2 : (FloatKind.f64.format.order a0 13830554455654793216 == some .gt || FloatKind.f64.format.order a0 13830554455654793216 == some .eq) = true
  · rw [if_pos c2] at H
    have c2b0 : (FloatKind.f64.format.order a0 13830554455654793216 == some .gt || FloatKind.f64.format.order a0 13830554455654793216 == some .eq) = true := c2
    (try (have c2b1 : decide (FloatKind.f64.format.order a0 13830554455654793216 = some .gt || FloatKind.f64.format.order a0 13830554455654793216 == some .eq) = true := by simpa using c2))
    (try (have c2b2 : (FloatKind.f64.format.order a0 13830554455654793216 == some .gt || FloatKind.f64.format.order a0 13830554455654793216 == some .eq) = true := by simpa using c2))
    clear c2
    by_cases c3 : (FloatKind.f64.format.order a0 4607182418800017408 == some .lt || FloatKind.f64.format.order a0 4607182418800017408 == some .eq) = true
    · rw [if_pos c3] at H
      have c3b0 : (FloatKind.f64.format.order a0 4607182418800017408 == some .lt || FloatKind.f64.format.order a0 4607182418800017408 == some .eq) = true := c3
      (try (have c3b1 : decide (FloatKind.f64.format.order a0 4607182418800017408 = some .lt || FloatKind.f64.format.order a0 4607182418800017408 == some .eq) = true := by simpa using c3))
      (try (have c3b2 : (FloatKind.f64.format.order a0 4607182418800017408 == some .lt || FloatKind.f64.format.order a0 4607182418800017408 == some .eq) = true := by simpa using c3))
      clear c3
      replace H := Option.bind_eq_some_iff.mp H
      obtain ⟨t133, A40, H⟩ := H
      replace H : ((floatToIntVal .f64 t133 .i64).bind fun t134 => (some (FloatKind.f64.format.order (floatOfInt .f64 t134) t133 == some .eq))) = some r := H
      have A4 := Aside0.mk A40
      clear A40
      replace H := Option.bind_eq_some_iff.mp H
      obtain ⟨t134, A50, H⟩ := H
      replace H : (some (FloatKind.f64.format.order (floatOfInt .f64 t134) t133 == some .eq)) = some r := H
      have A5 := Aside0.mk A50
      clear A50
      obtain rfl := Option.some.inj H
      have hfoA4_ := fun (t_ : TypeId) (w_ : World) => run_float_arith (P := Try.prog) w_ .mul t_ .f64 a0 4634204016564240384 t133 A4.out
      have hfoA5_ := fun (w_ : World) => run_convert_float_int (P := Try.prog) w_ 34 2 .f64 .i64 t133 t134 (by rw [Try.underlying34]; rfl) Try.underlying2 A5.out
      go_enter Try.func142, Try.ntmps142
      go_wp2
      go_ret
      exact ⟨by first | rfl | (simp; done) | (simp [*]; done), by repeat (first | exact Drawn0.refl _ | apply Drawn0.step)⟩
    · rw [if_neg c3] at H
      have c3b0 : (FloatKind.f64.format.order a0 4607182418800017408 == some .lt || FloatKind.f64.format.order a0 4607182418800017408 == some .eq) = false := by simpa using c3
      (try (have c3b1 : decide (FloatKind.f64.format.order a0 4607182418800017408 = some .lt || FloatKind.f64.format.order a0 4607182418800017408 == some .eq) = false := by simpa using c3))
      (try (have c3b2 : (FloatKind.f64.format.order a0 4607182418800017408 == some .lt || FloatKind.f64.format.order a0 4607182418800017408 == some .eq) = false := by simpa using c3))
      (try (have c3b3 : ¬ (FloatKind.f64.format.order a0 4607182418800017408 = some .lt || FloatKind.f64.format.order a0 4607182418800017408 == some .eq) := by simpa using c3))
      clear c3
      obtain rfl := Option.some.inj H
      go_enter Try.func142, Try.ntmps142
      go_wp2
      go_ret
      exact ⟨by first | rfl | (simp; done) | (simp [*]; done), by repeat (first | exact Drawn0.refl _ | apply Drawn0.step)⟩
  · rw [if_neg c2] at H
    have c2b0 : (FloatKind.f64.format.order a0 13830554455654793216 == some .gt || FloatKind.f64.format.order a0 13830554455654793216 == some .eq) = false := by simpa using c2
    (try (have c2b1 : decide (FloatKind.f64.format.order a0 13830554455654793216 = some .gt || FloatKind.f64.format.order a0 13830554455654793216 == some .eq) = false := by simpa using c2))
    (try (have c2b2 : (FloatKind.f64.format.order a0 13830554455654793216 == some .gt || FloatKind.f64.format.order a0 13830554455654793216 == some .eq) = false := by simpa using c2))
    (try (have c2b3 : ¬ (FloatKind.f64.format.order a0 13830554455654793216 = some .gt || FloatKind.f64.format.order a0 13830554455654793216 == some .eq) := by simpa using c2))
    clear c2
    obtain rfl := Option.some.inj H
    go_enter Try.func142, Try.ntmps142
    go_wp2
    go_ret
    exact ⟨by first | rfl | (simp; done) | (simp [*]; done), by repeat (first | exact Drawn0.refl _ | apply Drawn0.step)⟩

/-! ### foghornref11_size: function 143 -/
set_option maxHeartbeats 8000000 in
set_option maxRecDepth 100000 in
theorem foghornref11_size.calls (a0 : Nat) (r : Nat) (w : World) (h : foghornref11_size.f a0 = some r) :
    Calls Try.prog 143 #[.float .f64 a0] w fun e w' => e = .returned (.float .f64 r) ∧ Drawn0 w w' := by
  have H : (if (FloatKind.f64.format.order a0 0 == some .lt) = true then (some (Op.negFloat .f64 a0)) else (some a0)) = some r := h
  clear h
  by_cases c2 : (FloatKind.f64.format.order a0 0 == some .lt) = true
  · rw [if_pos c2] at H
    have c2b0 : (FloatKind.f64.format.order a0 0 == some .lt) = true := c2
    (try (have c2b1 : decide (FloatKind.f64.format.order a0 0 = some .lt) = true := by simpa using c2))
    (try (have c2b2 : (FloatKind.f64.format.order a0 0 == some .lt) = true := by simpa using c2))
    clear c2
    obtain rfl := Option.some.inj H
    go_enter Try.func143, Try.ntmps143
    go_wp2
    go_ret
    exact ⟨by first | rfl | (simp; done) | (simp [*]; done), by repeat (first | exact Drawn0.refl _ | apply Drawn0.step)⟩
  · rw [if_neg c2] at H
    have c2b0 : (FloatKind.f64.format.order a0 0 == some .lt) = false := by simpa using c2
    (try (have c2b1 : decide (FloatKind.f64.format.order a0 0 = some .lt) = false := by simpa using c2))
    (try (have c2b2 : (FloatKind.f64.format.order a0 0 == some .lt) = false := by simpa using c2))
    (try (have c2b3 : ¬ (FloatKind.f64.format.order a0 0 = some .lt) := by simpa using c2))
    clear c2
    obtain rfl := Option.some.inj H
    go_enter Try.func143, Try.ntmps143
    go_wp2
    go_ret
    exact ⟨by first | rfl | (simp; done) | (simp [*]; done), by repeat (first | exact Drawn0.refl _ | apply Drawn0.step)⟩

/-! ### foghornref11_Taps: function 102 -/
set_option maxHeartbeats 8000000 in
set_option maxRecDepth 100000 in
theorem foghornref11_Taps.calls (k : Nat) (A0 : Option Addr) (c0 : Nat) (l0 : List (Nat × Nat)) (r : Bool) (w : World) (hr0 : Kd.C Kd.cplx w A0 l0.length l0) (hc0 : l0.length ≤ c0) (h : foghornref11_Taps.f k l0 = some r) :
    Calls Try.prog 102 #[.slice A0 l0.length c0] w fun e w' => e = .returned (.bool r) ∧ Below w.heap.size w w' := by
  have HR0 := Aside0.mk hr0
  have HC0 := Aside0.mk hc0
  clear hr0 hc0
  have HB := Aside0.mk (Below.refl w.heap.size w)
  have H : (if (l0.length : Int) < 1 then (foghornref11_Taps.j0 k l0 true) else (foghornref11_Taps.j0 k l0 (decide ((l0.length : Int) > 64)))) = some r := h
  clear h
  have HC2 := Aside0.mk H
  clear H
  go_enter Try.func102, Try.ntmps102
  go_upto_region 1 with (fail)
  repeat (go_quiet (fail); go_upto_region 1 with (fail))
  go_cut [12] (fun v12 wc => ∃ (kq : Nat) (x12_1 : Bool), v12 = .bool x12_1 ∧ Aside0 (foghornref11_Taps.j0 kq l0 x12_1 = some r) ∧ Aside0 (kq ≤ k) ∧ Aside0 (Below w.heap.size w wc))
  case first =>
    have H := HC2.out
    clear HC2
    by_cases c3 : (l0.length : Int) < 1
    · rw [if_pos c3] at H
      have c3b0 : decide ((l0.length : Int) < 1) = true := decide_eq_true c3
      have c3b1 : decide (l0.length < 1) = true := decide_eq_true (by omega)
      clear c3
      (first | rw [c3b0] | (simp only [i64_w, i32_w]; rw [c3b0]) | skip)
      have H' := Aside0.mk H
      clear H
      go_wp2
      repeat (go_quiet (fail); try go_wp2)
      go_meet
      case rel => exact ⟨_, (true), (by first | rfl | (simp; done) | (simp [*]; done)), H', ⟨by first | omega | exact Nat.le_refl _⟩, ⟨by repeat (first | (with_reducible first | exact HB.out | apply below_alloc | apply pw_below_drewN | apply below_drew1) | exact HB.out)⟩⟩
    · rw [if_neg c3] at H
      have c3b0 : decide ((l0.length : Int) < 1) = false := decide_eq_false c3
      have c3b1 : decide (l0.length < 1) = false := decide_eq_false (by omega)
      clear c3
      (first | rw [c3b0] | (simp only [i64_w, i32_w]; rw [c3b0]) | skip)
      have H' := Aside0.mk H
      clear H
      go_wp2
      repeat (go_quiet (fail); try go_wp2)
      go_meet
      case rel => exact ⟨_, (decide ((l0.length : Int) > 64)), (by first | rfl | (simp; done) | (simp [*]; done)), H', ⟨by first | omega | exact Nat.le_refl _⟩, ⟨by repeat (first | (with_reducible first | exact HB.out | apply below_alloc | apply pw_below_drewN | apply below_drew1) | exact HB.out)⟩⟩
  case rest =>
    clear HC2
    try clear c1
    try clear p2
    try clear c3
    try clear c3b0
    try clear c3b1
    obtain ⟨kq, x12_1, rfl, HA, HJ1, HB⟩ := hcut
    cases kq with
    | zero => exact absurd HA.out (by simp [foghornref11_Taps.j0])
    | succ kj1 =>
      have H := HA.out
      clear HA
      simp only [foghornref11_Taps.j0] at H
      by_cases c4 : x12_1 = true
      · subst c4
        have H1 : (some false) = some r := by rw [if_pos rfl] at H; exact H
        clear H
        have H := H1
        clear H1
        obtain rfl := Option.some.inj H
        go_wp2
        repeat (go_quiet (fail); try go_wp2)
        go_ret
        exact ⟨by first | rfl | (simp [errW_none, errW_some] <;> rfl) | (simp [*, errW_none, errW_some] <;> rfl), by repeat (first | (with_reducible first | exact HB.out | apply below_alloc | apply pw_below_drewN | apply below_drew1) | exact HB.out)⟩
      · replace c4 := Bool.eq_false_iff.mpr c4
        subst c4
        have H1 : (foghornref11_Taps.l0 kj1 l0 0 0) = some r := by rw [if_neg (show ¬ (false = true) by decide)] at H; exact H
        clear H
        have H := H1
        clear H1
        have H' := Aside0.mk H
        clear H
        go_wp2
        repeat (go_quiet (fail); try go_wp2)
        go_loopg [3, 4] kj1 (fun kq v3 v4 w' => ∃ (x3_2 : Nat) (x4_2 : Int), v3 = .float .f64 x3_2 ∧ v4 = .int .i64 x4_2 ∧ Aside0 (foghornref11_Taps.l0 kq l0 x3_2 x4_2 = some r) ∧ Aside0 (kq ≤ kj1) ∧ Aside0 (Below w.heap.size w w'))
        case atStart => exact ⟨(0), (0), (by first | rfl | (simp; done) | (simp [*]; done)), (by first | rfl | (simp; done) | (simp [*]; done)), H', ⟨Nat.le_refl _⟩, ⟨by repeat (first | (with_reducible first | exact HB.out | apply below_alloc | apply pw_below_drewN | apply below_drew1) | exact HB.out)⟩⟩
        case round =>
          clear H'
          try clear c1
          try clear p2
          try clear c3
          try clear c3b0
          try clear c3b1
          try clear c4
          try clear p2
          obtain ⟨x3_2, x4_2, rfl, rfl, HA, HK2, HB⟩ := hrel
          cases gk with
          | zero => exact absurd HA.out (by simp [foghornref11_Taps.l0])
          | succ k2 =>
            have H := HA.out
            clear HA
            simp only [foghornref11_Taps.l0] at H
            by_cases c5 : x4_2 < (l0.length : Int)
            · rw [if_pos c5] at H
              have c5b0 : decide (x4_2 < (l0.length : Int)) = true := decide_eq_true c5
              clear c5
              have HC6 := Aside0.mk H
              clear H
              go_upto_region 7 with (fail)
              repeat (go_quiet (fail); go_upto_region 7 with (fail))
              go_cut [34] (fun v34 wc => ∃ (kq : Nat) (x34_5 : Bool), v34 = .bool x34_5 ∧ Aside0 (foghornref11_Taps.j2 kq l0 x3_2 x4_2 x34_5 = some r) ∧ Aside0 (kq ≤ k2) ∧ Aside0 (Below w.heap.size w wc))
              case first =>
                have H := HC6.out
                clear HC6
                by_cases c7 : 0 ≤ x4_2
                · rw [if_pos c7] at H
                  have c7b0 : decide (0 ≤ x4_2) = true := decide_eq_true c7
                  clear c7
                  (first | rw [c7b0] | (simp only [i64_w, i32_w]; rw [c7b0]) | skip)
                  replace H := Option.bind_eq_some_iff.mp H
                  obtain ⟨t136, A80, H⟩ := H
                  replace H : (if t136 = true then ((foghornref11_step.f ((rdOf (0, 0) l0 x4_2).2)).bind fun t138 => (foghornref11_Taps.j2 k2 l0 x3_2 x4_2 (!t138))) else (foghornref11_Taps.j2 k2 l0 x3_2 x4_2 true)) = some r := H
                  have A8 := Aside0.mk A80
                  clear A80
                  by_cases c9 : t136 = true
                  · subst c9
                    have H1 : ((foghornref11_step.f ((rdOf (0, 0) l0 x4_2).2)).bind fun t138 => (foghornref11_Taps.j2 k2 l0 x3_2 x4_2 (!t138))) = some r := by rw [if_pos rfl] at H; exact H
                    clear H
                    have H := H1
                    clear H1
                    replace H := Option.bind_eq_some_iff.mp H
                    obtain ⟨t138, A100, H⟩ := H
                    replace H : (foghornref11_Taps.j2 k2 l0 x3_2 x4_2 (!t138)) = some r := H
                    have A10 := Aside0.mk A100
                    clear A100
                    have H' := Aside0.mk H
                    clear H
                    have p135 : 0 ≤ (x4_2 : Int) := of_decide_eq_true (by first | (with_reducible assumption) | assumption)
                    have q135 : x4_2 < (l0.length : Int) := of_decide_eq_true (by first | (with_reducible assumption) | assumption)
                    obtain ⟨ad135, e135, hx135_0⟩ := Kd.at_cplx HR0.out x4_2 p135 q135
                    cases e135
                    replace hx135_0 := (HB.out.cell (World.block_lt_of_cell? w _ hx135_0)).trans hx135_0
                    replace p135 := eq_true p135
                    replace q135 := eq_true q135
                    go_wp2_with (first | (go_at_call 142; (with_reducible refine (foghornref11_step.calls ((rdOf (0, 0) l0 x4_2).1) true _ A8.out).mono ?_); rintro e w' ⟨rfl, ⟨nd, rfl⟩⟩; (try first | exact ⟨rfl, _, World.drewN_drewN _ _ _⟩ | exact ⟨rfl, _, Eq.trans (World.drewN_drewN _ _ _) (congrArg (World.drewN _) (Nat.add_assoc _ _ _))⟩); have p137 : 0 ≤ (x4_2 : Int) := of_decide_eq_true (by first | (with_reducible assumption) | assumption); have q137 : x4_2 < (l0.length : Int) := of_decide_eq_true (by first | (with_reducible assumption) | assumption); obtain ⟨ad137, e137, hx137_0⟩ := Kd.at_cplx HR0.out x4_2 p137 q137; obtain rfl : ad135 = ad137 := (by injection e137); replace hx137_0 := (HB.out.cell (World.block_lt_of_cell? w _ hx137_0)).trans hx137_0; replace p137 := eq_true p137; replace q137 := eq_true q137) | (go_at_call 142; (with_reducible refine (foghornref11_step.calls ((rdOf (0, 0) l0 x4_2).2) t138 _ A10.out).mono ?_); rintro e w' ⟨rfl, ⟨nd, rfl⟩⟩; (try first | exact ⟨rfl, _, World.drewN_drewN _ _ _⟩ | exact ⟨rfl, _, Eq.trans (World.drewN_drewN _ _ _) (congrArg (World.drewN _) (Nat.add_assoc _ _ _))⟩)))
                    repeat (go_quiet (first | (go_at_call 142; (with_reducible refine (foghornref11_step.calls ((rdOf (0, 0) l0 x4_2).1) true _ A8.out).mono ?_); rintro e w' ⟨rfl, ⟨nd, rfl⟩⟩; (try first | exact ⟨rfl, _, World.drewN_drewN _ _ _⟩ | exact ⟨rfl, _, Eq.trans (World.drewN_drewN _ _ _) (congrArg (World.drewN _) (Nat.add_assoc _ _ _))⟩); have p137 : 0 ≤ (x4_2 : Int) := of_decide_eq_true (by first | (with_reducible assumption) | assumption); have q137 : x4_2 < (l0.length : Int) := of_decide_eq_true (by first | (with_reducible assumption) | assumption); obtain ⟨ad137, e137, hx137_0⟩ := Kd.at_cplx HR0.out x4_2 p137 q137; obtain rfl : ad135 = ad137 := (by injection e137); replace hx137_0 := (HB.out.cell (World.block_lt_of_cell? w _ hx137_0)).trans hx137_0; replace p137 := eq_true p137; replace q137 := eq_true q137) | (go_at_call 142; (with_reducible refine (foghornref11_step.calls ((rdOf (0, 0) l0 x4_2).2) t138 _ A10.out).mono ?_); rintro e w' ⟨rfl, ⟨nd, rfl⟩⟩; (try first | exact ⟨rfl, _, World.drewN_drewN _ _ _⟩ | exact ⟨rfl, _, Eq.trans (World.drewN_drewN _ _ _) (congrArg (World.drewN _) (Nat.add_assoc _ _ _))⟩))); try go_wp2_with (first | (go_at_call 142; (with_reducible refine (foghornref11_step.calls ((rdOf (0, 0) l0 x4_2).1) true _ A8.out).mono ?_); rintro e w' ⟨rfl, ⟨nd, rfl⟩⟩; (try first | exact ⟨rfl, _, World.drewN_drewN _ _ _⟩ | exact ⟨rfl, _, Eq.trans (World.drewN_drewN _ _ _) (congrArg (World.drewN _) (Nat.add_assoc _ _ _))⟩); have p137 : 0 ≤ (x4_2 : Int) := of_decide_eq_true (by first | (with_reducible assumption) | assumption); have q137 : x4_2 < (l0.length : Int) := of_decide_eq_true (by first | (with_reducible assumption) | assumption); obtain ⟨ad137, e137, hx137_0⟩ := Kd.at_cplx HR0.out x4_2 p137 q137; obtain rfl : ad135 = ad137 := (by injection e137); replace hx137_0 := (HB.out.cell (World.block_lt_of_cell? w _ hx137_0)).trans hx137_0; replace p137 := eq_true p137; replace q137 := eq_true q137) | (go_at_call 142; (with_reducible refine (foghornref11_step.calls ((rdOf (0, 0) l0 x4_2).2) t138 _ A10.out).mono ?_); rintro e w' ⟨rfl, ⟨nd, rfl⟩⟩; (try first | exact ⟨rfl, _, World.drewN_drewN _ _ _⟩ | exact ⟨rfl, _, Eq.trans (World.drewN_drewN _ _ _) (congrArg (World.drewN _) (Nat.add_assoc _ _ _))⟩))))
                    go_meet
                    case rel => exact ⟨_, (!t138), (by first | rfl | (simp; done) | (simp [*]; done)), H', ⟨by have := HJ1.out; have := HK2.out; first | omega | exact Nat.le_refl _⟩, ⟨by repeat (first | (with_reducible first | exact HB.out | apply below_alloc | apply pw_below_drewN | apply below_drew1) | exact HB.out)⟩⟩
                  · replace c9 := Bool.eq_false_iff.mpr c9
                    subst c9
                    have H1 : (foghornref11_Taps.j2 k2 l0 x3_2 x4_2 true) = some r := by rw [if_neg (show ¬ (false = true) by decide)] at H; exact H
                    clear H
                    have H := H1
                    clear H1
                    have H' := Aside0.mk H
                    clear H
                    have p135 : 0 ≤ (x4_2 : Int) := of_decide_eq_true (by first | (with_reducible assumption) | assumption)
                    have q135 : x4_2 < (l0.length : Int) := of_decide_eq_true (by first | (with_reducible assumption) | assumption)
                    obtain ⟨ad135, e135, hx135_0⟩ := Kd.at_cplx HR0.out x4_2 p135 q135
                    cases e135
                    replace hx135_0 := (HB.out.cell (World.block_lt_of_cell? w _ hx135_0)).trans hx135_0
                    replace p135 := eq_true p135
                    replace q135 := eq_true q135
                    go_wp2_with (first | (go_at_call 142; (with_reducible refine (foghornref11_step.calls ((rdOf (0, 0) l0 x4_2).1) false _ A8.out).mono ?_); rintro e w' ⟨rfl, ⟨nd, rfl⟩⟩; (try first | exact ⟨rfl, _, World.drewN_drewN _ _ _⟩ | exact ⟨rfl, _, Eq.trans (World.drewN_drewN _ _ _) (congrArg (World.drewN _) (Nat.add_assoc _ _ _))⟩)))
                    repeat (go_quiet (first | (go_at_call 142; (with_reducible refine (foghornref11_step.calls ((rdOf (0, 0) l0 x4_2).1) false _ A8.out).mono ?_); rintro e w' ⟨rfl, ⟨nd, rfl⟩⟩; (try first | exact ⟨rfl, _, World.drewN_drewN _ _ _⟩ | exact ⟨rfl, _, Eq.trans (World.drewN_drewN _ _ _) (congrArg (World.drewN _) (Nat.add_assoc _ _ _))⟩))); try go_wp2_with (first | (go_at_call 142; (with_reducible refine (foghornref11_step.calls ((rdOf (0, 0) l0 x4_2).1) false _ A8.out).mono ?_); rintro e w' ⟨rfl, ⟨nd, rfl⟩⟩; (try first | exact ⟨rfl, _, World.drewN_drewN _ _ _⟩ | exact ⟨rfl, _, Eq.trans (World.drewN_drewN _ _ _) (congrArg (World.drewN _) (Nat.add_assoc _ _ _))⟩))))
                    go_meet
                    case rel => exact ⟨_, (true), (by first | rfl | (simp; done) | (simp [*]; done)), H', ⟨by have := HJ1.out; have := HK2.out; first | omega | exact Nat.le_refl _⟩, ⟨by repeat (first | (with_reducible first | exact HB.out | apply below_alloc | apply pw_below_drewN | apply below_drew1) | exact HB.out)⟩⟩
                · rw [if_neg c7] at H
                  exact absurd H (by simp)
              case rest =>
                clear HC6
                try clear c1
                try clear p1
                try clear q1
                try clear hx1
                try clear p2
                try clear c3
                try clear c3b0
                try clear c3b1
                try clear c4
                try clear c5
                try clear c5b0
                try clear c7
                try clear c7b0
                try clear c9
                try clear c10
                try clear hx135_0
                try clear hx137_0
                try clear p135
                try clear p137
                try clear p2
                try clear q135
                try clear q137
                obtain ⟨kq, x34_5, rfl, HA, HJ5, HB⟩ := hcut
                cases kq with
                | zero => exact absurd HA.out (by simp [foghornref11_Taps.j2])
                | succ kj5 =>
                  have H := HA.out
                  clear HA
                  simp only [foghornref11_Taps.j2] at H
                  by_cases c11 : x34_5 = true
                  · subst c11
                    have H1 : (some false) = some r := by rw [if_pos rfl] at H; exact H
                    clear H
                    have H := H1
                    clear H1
                    obtain rfl := Option.some.inj H
                    go_wp2
                    repeat (go_quiet (fail); try go_wp2)
                    go_ret
                    exact ⟨by first | rfl | (simp [errW_none, errW_some] <;> rfl) | (simp [*, errW_none, errW_some] <;> rfl), by repeat (first | (with_reducible first | exact HB.out | apply below_alloc | apply pw_below_drewN | apply below_drew1) | exact HB.out)⟩
                  · replace c11 := Bool.eq_false_iff.mpr c11
                    subst c11
                    have H1 : (if 0 ≤ x4_2 then (if x4_2 < (l0.length : Int) then ((foghornref11_size.f ((rdOf (0, 0) l0 x4_2).1)).bind fun t140 => ((floatBits .add .f64 x3_2 t140).bind fun t141 => ((foghornref11_size.f ((rdOf (0, 0) l0 x4_2).2)).bind fun t143 => ((floatBits .add .f64 t141 t143).bind fun t144 => (foghornref11_Taps.l0 kj5 l0 t144 (wrap64 (x4_2 + 1))))))) else (none)) else (none)) = some r := by rw [if_neg (show ¬ (false = true) by decide)] at H; exact H
                    clear H
                    have H := H1
                    clear H1
                    by_cases c12 : 0 ≤ x4_2
                    · rw [if_pos c12] at H
                      have c12b0 : decide (0 ≤ x4_2) = true := decide_eq_true c12
                      clear c12
                      by_cases c13 : x4_2 < (l0.length : Int)
                      · rw [if_pos c13] at H
                        have c13b0 : decide (x4_2 < (l0.length : Int)) = true := decide_eq_true c13
                        clear c13
                        replace H := Option.bind_eq_some_iff.mp H
                        obtain ⟨t140, A140, H⟩ := H
                        replace H : ((floatBits .add .f64 x3_2 t140).bind fun t141 => ((foghornref11_size.f ((rdOf (0, 0) l0 x4_2).2)).bind fun t143 => ((floatBits .add .f64 t141 t143).bind fun t144 => (foghornref11_Taps.l0 kj5 l0 t144 (wrap64 (x4_2 + 1)))))) = some r := H
                        have A14 := Aside0.mk A140
                        clear A140
                        replace H := Option.bind_eq_some_iff.mp H
                        obtain ⟨t141, A150, H⟩ := H
                        replace H : ((foghornref11_size.f ((rdOf (0, 0) l0 x4_2).2)).bind fun t143 => ((floatBits .add .f64 t141 t143).bind fun t144 => (foghornref11_Taps.l0 kj5 l0 t144 (wrap64 (x4_2 + 1))))) = some r := H
                        have A15 := Aside0.mk A150
                        clear A150
                        replace H := Option.bind_eq_some_iff.mp H
                        obtain ⟨t143, A160, H⟩ := H
                        replace H : ((floatBits .add .f64 t141 t143).bind fun t144 => (foghornref11_Taps.l0 kj5 l0 t144 (wrap64 (x4_2 + 1)))) = some r := H
                        have A16 := Aside0.mk A160
                        clear A160
                        replace H := Option.bind_eq_some_iff.mp H
                        obtain ⟨t144, A170, H⟩ := H
                        replace H : (foghornref11_Taps.l0 kj5 l0 t144 (wrap64 (x4_2 + 1))) = some r := H
                        have A17 := Aside0.mk A170
                        clear A170
                        have H' := Aside0.mk H
                        clear H
                        have p139 : 0 ≤ (x4_2 : Int) := of_decide_eq_true (by first | (with_reducible assumption) | assumption)
                        have q139 : x4_2 < (l0.length : Int) := of_decide_eq_true (by first | (with_reducible assumption) | assumption)
                        obtain ⟨ad139, e139, hx139_0⟩ := Kd.at_cplx HR0.out x4_2 p139 q139
                        cases e139
                        replace hx139_0 := (HB.out.cell (World.block_lt_of_cell? w _ hx139_0)).trans hx139_0
                        replace p139 := eq_true p139
                        replace q139 := eq_true q139
                        go_wp2_with (first | (go_at_call 143; (with_reducible refine (foghornref11_size.calls ((rdOf (0, 0) l0 x4_2).1) t140 _ A14.out).mono ?_); rintro e w' ⟨rfl, ⟨nd, rfl⟩⟩; (try first | exact ⟨rfl, _, World.drewN_drewN _ _ _⟩ | exact ⟨rfl, _, Eq.trans (World.drewN_drewN _ _ _) (congrArg (World.drewN _) (Nat.add_assoc _ _ _))⟩); have hfoA15_ := fun (t_ : TypeId) (w_ : World) => run_float_arith (P := Try.prog) w_ .add t_ .f64 x3_2 t140 t141 A15.out; have p142 : 0 ≤ (x4_2 : Int) := of_decide_eq_true (by first | (with_reducible assumption) | assumption); have q142 : x4_2 < (l0.length : Int) := of_decide_eq_true (by first | (with_reducible assumption) | assumption); obtain ⟨ad142, e142, hx142_0⟩ := Kd.at_cplx HR0.out x4_2 p142 q142; obtain rfl : ad139 = ad142 := (by injection e142); replace hx142_0 := (HB.out.cell (World.block_lt_of_cell? w _ hx142_0)).trans hx142_0; replace p142 := eq_true p142; replace q142 := eq_true q142) | (go_at_call 143; (with_reducible refine (foghornref11_size.calls ((rdOf (0, 0) l0 x4_2).2) t143 _ A16.out).mono ?_); rintro e w' ⟨rfl, ⟨nd, rfl⟩⟩; (try first | exact ⟨rfl, _, World.drewN_drewN _ _ _⟩ | exact ⟨rfl, _, Eq.trans (World.drewN_drewN _ _ _) (congrArg (World.drewN _) (Nat.add_assoc _ _ _))⟩); have hfoA17_ := fun (t_ : TypeId) (w_ : World) => run_float_arith (P := Try.prog) w_ .add t_ .f64 t141 t143 t144 A17.out))
                        repeat (go_quiet (first | (go_at_call 143; (with_reducible refine (foghornref11_size.calls ((rdOf (0, 0) l0 x4_2).1) t140 _ A14.out).mono ?_); rintro e w' ⟨rfl, ⟨nd, rfl⟩⟩; (try first | exact ⟨rfl, _, World.drewN_drewN _ _ _⟩ | exact ⟨rfl, _, Eq.trans (World.drewN_drewN _ _ _) (congrArg (World.drewN _) (Nat.add_assoc _ _ _))⟩); have hfoA15_ := fun (t_ : TypeId) (w_ : World) => run_float_arith (P := Try.prog) w_ .add t_ .f64 x3_2 t140 t141 A15.out; have p142 : 0 ≤ (x4_2 : Int) := of_decide_eq_true (by first | (with_reducible assumption) | assumption); have q142 : x4_2 < (l0.length : Int) := of_decide_eq_true (by first | (with_reducible assumption) | assumption); obtain ⟨ad142, e142, hx142_0⟩ := Kd.at_cplx HR0.out x4_2 p142 q142; obtain rfl : ad139 = ad142 := (by injection e142); replace hx142_0 := (HB.out.cell (World.block_lt_of_cell? w _ hx142_0)).trans hx142_0; replace p142 := eq_true p142; replace q142 := eq_true q142) | (go_at_call 143; (with_reducible refine (foghornref11_size.calls ((rdOf (0, 0) l0 x4_2).2) t143 _ A16.out).mono ?_); rintro e w' ⟨rfl, ⟨nd, rfl⟩⟩; (try first | exact ⟨rfl, _, World.drewN_drewN _ _ _⟩ | exact ⟨rfl, _, Eq.trans (World.drewN_drewN _ _ _) (congrArg (World.drewN _) (Nat.add_assoc _ _ _))⟩); have hfoA17_ := fun (t_ : TypeId) (w_ : World) => run_float_arith (P := Try.prog) w_ .add t_ .f64 t141 t143 t144 A17.out)); try go_wp2_with (first | (go_at_call 143; (with_reducible refine (foghornref11_size.calls ((rdOf (0, 0) l0 x4_2).1) t140 _ A14.out).mono ?_); rintro e w' ⟨rfl, ⟨nd, rfl⟩⟩; (try first | exact ⟨rfl, _, World.drewN_drewN _ _ _⟩ | exact ⟨rfl, _, Eq.trans (World.drewN_drewN _ _ _) (congrArg (World.drewN _) (Nat.add_assoc _ _ _))⟩); have hfoA15_ := fun (t_ : TypeId) (w_ : World) => run_float_arith (P := Try.prog) w_ .add t_ .f64 x3_2 t140 t141 A15.out; have p142 : 0 ≤ (x4_2 : Int) := of_decide_eq_true (by first | (with_reducible assumption) | assumption); have q142 : x4_2 < (l0.length : Int) := of_decide_eq_true (by first | (with_reducible assumption) | assumption); obtain ⟨ad142, e142, hx142_0⟩ := Kd.at_cplx HR0.out x4_2 p142 q142; obtain rfl : ad139 = ad142 := (by injection e142); replace hx142_0 := (HB.out.cell (World.block_lt_of_cell? w _ hx142_0)).trans hx142_0; replace p142 := eq_true p142; replace q142 := eq_true q142) | (go_at_call 143; (with_reducible refine (foghornref11_size.calls ((rdOf (0, 0) l0 x4_2).2) t143 _ A16.out).mono ?_); rintro e w' ⟨rfl, ⟨nd, rfl⟩⟩; (try first | exact ⟨rfl, _, World.drewN_drewN _ _ _⟩ | exact ⟨rfl, _, Eq.trans (World.drewN_drewN _ _ _) (congrArg (World.drewN _) (Nat.add_assoc _ _ _))⟩); have hfoA17_ := fun (t_ : TypeId) (w_ : World) => run_float_arith (P := Try.prog) w_ .add t_ .f64 t141 t143 t144 A17.out)))
                        first | go_roundg kj5 | (simp only [add_plain] at *; go_roundg kj5)
                        case measure => have := HJ1.out; have := HK2.out; have := HJ5.out; omega
                        case rel => exact ⟨(t144), (wrap64 (x4_2 + 1)), (by first | rfl | (simp; done) | (simp [*]; done)), (by first | rfl | (simp; done) | (simp [*]; done)), H', ⟨by have := HJ1.out; have := HK2.out; have := HJ5.out; omega⟩, ⟨by repeat (first | (with_reducible first | exact HB.out | apply below_alloc | apply pw_below_drewN | apply below_drew1) | exact HB.out)⟩⟩
                      · rw [if_neg c13] at H
                        exact absurd H (by simp)
                    · rw [if_neg c12] at H
                      exact absurd H (by simp)
            · rw [if_neg c5] at H
              have c5b0 : decide (x4_2 < (l0.length : Int)) = false := decide_eq_false c5
              clear c5
              obtain rfl := Option.some.inj H
              go_wp2
              repeat (go_quiet (fail); try go_wp2)
              go_ret
              exact ⟨by first | rfl | (simp [errW_none, errW_some] <;> rfl) | (simp [*, errW_none, errW_some] <;> rfl), by repeat (first | (with_reducible first | exact HB.out | apply below_alloc | apply pw_below_drewN | apply below_drew1) | exact HB.out)⟩

/-! ### foghornref02_On: function 103 -/
set_option maxHeartbeats 8000000 in
set_option maxRecDepth 100000 in
theorem foghornref02_On.calls (a0 : Nat) (r : Bool) (w : World) (h : foghornref02_On.f a0 = some r) :
    Calls Try.prog 103 #[.float .f64 a0] w fun e w' => e = .returned (.bool r) ∧ Drawn0 w w' := by
  have H : (if (FloatKind.f64.format.order a0 13875590451928498176 == some .gt || FloatKind.f64.format.order a0 13875590451928498176 == some .eq) = true then (if ((FloatKind.f64.format.order a0 4652218415073722368 == some .lt || FloatKind.f64.format.order a0 4652218415073722368 == some .eq) = true) then ((floatBits .mul .f64 a0 4661225614328463360).bind fun t145 => ((floatToIntVal .f64 t145 .i64).bind fun t146 => (some (FloatKind.f64.format.order (floatOfInt .f64 t146) t145 == some .eq)))) else (some false)) else (some false)) = some r := h
  clear h
  by_cases c2 : (FloatKind.f64.format.order a0 13875590451928498176 == some .gt || FloatKind.f64.format.order a0 13875590451928498176 == some .eq) = true
  · rw [if_pos c2] at H
    have c2b0 : (FloatKind.f64.format.order a0 13875590451928498176 == some .gt || FloatKind.f64.format.order a0 13875590451928498176 == some .eq) = true := c2
    (try (have c2b1 : decide (FloatKind.f64.format.order a0 13875590451928498176 = some .gt || FloatKind.f64.format.order a0 13875590451928498176 == some .eq) = true := by simpa using c2))
    (try (have c2b2 : (FloatKind.f64.format.order a0 13875590451928498176 == some .gt || FloatKind.f64.format.order a0 13875590451928498176 == some .eq) = true := by simpa using c2))
    clear c2
    by_cases c3 : ((FloatKind.f64.format.order a0 4652218415073722368 == some .lt || FloatKind.f64.format.order a0 4652218415073722368 == some .eq) = true)
    · rw [if_pos c3] at H
      have c3b0 : (FloatKind.f64.format.order a0 4652218415073722368 == some .lt || FloatKind.f64.format.order a0 4652218415073722368 == some .eq) = true := c3
      (try (have c3b1 : decide (FloatKind.f64.format.order a0 4652218415073722368 = some .lt || FloatKind.f64.format.order a0 4652218415073722368 == some .eq) = true := by simpa using c3))
      (try (have c3b2 : (FloatKind.f64.format.order a0 4652218415073722368 == some .lt || FloatKind.f64.format.order a0 4652218415073722368 == some .eq) = true := by simpa using c3))
      clear c3
      replace H := Option.bind_eq_some_iff.mp H
      obtain ⟨t145, A40, H⟩ := H
      replace H : ((floatToIntVal .f64 t145 .i64).bind fun t146 => (some (FloatKind.f64.format.order (floatOfInt .f64 t146) t145 == some .eq))) = some r := H
      have A4 := Aside0.mk A40
      clear A40
      replace H := Option.bind_eq_some_iff.mp H
      obtain ⟨t146, A50, H⟩ := H
      replace H : (some (FloatKind.f64.format.order (floatOfInt .f64 t146) t145 == some .eq)) = some r := H
      have A5 := Aside0.mk A50
      clear A50
      obtain rfl := Option.some.inj H
      have hfoA4_ := fun (t_ : TypeId) (w_ : World) => run_float_arith (P := Try.prog) w_ .mul t_ .f64 a0 4661225614328463360 t145 A4.out
      have hfoA5_ := fun (w_ : World) => run_convert_float_int (P := Try.prog) w_ 34 2 .f64 .i64 t145 t146 (by rw [Try.underlying34]; rfl) Try.underlying2 A5.out
      go_enter Try.func103, Try.ntmps103
      go_wp2
      go_ret
      exact ⟨by first | rfl | (simp; done) | (simp [*]; done), by repeat (first | exact Drawn0.refl _ | apply Drawn0.step)⟩
    · rw [if_neg c3] at H
      have c3b0 : (FloatKind.f64.format.order a0 4652218415073722368 == some .lt || FloatKind.f64.format.order a0 4652218415073722368 == some .eq) = false := by simpa using c3
      (try (have c3b1 : decide (FloatKind.f64.format.order a0 4652218415073722368 = some .lt || FloatKind.f64.format.order a0 4652218415073722368 == some .eq) = false := by simpa using c3))
      (try (have c3b2 : (FloatKind.f64.format.order a0 4652218415073722368 == some .lt || FloatKind.f64.format.order a0 4652218415073722368 == some .eq) = false := by simpa using c3))
      (try (have c3b3 : ¬ (FloatKind.f64.format.order a0 4652218415073722368 = some .lt || FloatKind.f64.format.order a0 4652218415073722368 == some .eq) := by simpa using c3))
      clear c3
      obtain rfl := Option.some.inj H
      go_enter Try.func103, Try.ntmps103
      go_wp2
      go_ret
      exact ⟨by first | rfl | (simp; done) | (simp [*]; done), by repeat (first | exact Drawn0.refl _ | apply Drawn0.step)⟩
  · rw [if_neg c2] at H
    have c2b0 : (FloatKind.f64.format.order a0 13875590451928498176 == some .gt || FloatKind.f64.format.order a0 13875590451928498176 == some .eq) = false := by simpa using c2
    (try (have c2b1 : decide (FloatKind.f64.format.order a0 13875590451928498176 = some .gt || FloatKind.f64.format.order a0 13875590451928498176 == some .eq) = false := by simpa using c2))
    (try (have c2b2 : (FloatKind.f64.format.order a0 13875590451928498176 == some .gt || FloatKind.f64.format.order a0 13875590451928498176 == some .eq) = false := by simpa using c2))
    (try (have c2b3 : ¬ (FloatKind.f64.format.order a0 13875590451928498176 = some .gt || FloatKind.f64.format.order a0 13875590451928498176 == some .eq) := by simpa using c2))
    clear c2
    obtain rfl := Option.some.inj H
    go_enter Try.func103, Try.ntmps103
    go_wp2
    go_ret
    exact ⟨by first | rfl | (simp; done) | (simp [*]; done), by repeat (first | exact Drawn0.refl _ | apply Drawn0.step)⟩

/-! ### foghornref11_mul: function 104 -/
set_option maxHeartbeats 8000000 in
set_option maxRecDepth 100000 in
theorem foghornref11_mul.calls (a0 : (Nat × Nat)) (a1 : (Nat × Nat)) (r : (Nat × Nat)) (w : World) (h : foghornref11_mul.f a0 a1 = some r) :
    Calls Try.prog 104 #[.complex .f64 a0.1 a0.2, .complex .f64 a1.1 a1.2] w fun e w' => e = .returned (.complex .f64 r.1 r.2) ∧ Below w.heap.size w w' := by
  have HB := Aside0.mk (Below.refl w.heap.size w)
  have H : ((floatBits .mul .f64 a0.1 a1.1).bind fun t147 => ((floatBits .mul .f64 a0.2 a1.2).bind fun t148 => ((floatBits .sub .f64 t147 t148).bind fun t149 => ((floatBits .mul .f64 a0.1 a1.2).bind fun t150 => ((floatBits .mul .f64 a0.2 a1.1).bind fun t151 => ((floatBits .add .f64 t150 t151).bind fun t152 => (some (t149, t152)))))))) = some r := h
  clear h
  replace H := Option.bind_eq_some_iff.mp H
  obtain ⟨t147, A30, H⟩ := H
  replace H : ((floatBits .mul .f64 a0.2 a1.2).bind fun t148 => ((floatBits .sub .f64 t147 t148).bind fun t149 => ((floatBits .mul .f64 a0.1 a1.2).bind fun t150 => ((floatBits .mul .f64 a0.2 a1.1).bind fun t151 => ((floatBits .add .f64 t150 t151).bind fun t152 => (some (t149, t152))))))) = some r := H
  have A3 := Aside0.mk A30
  clear A30
  replace H := Option.bind_eq_some_iff.mp H
  obtain ⟨t148, A40, H⟩ := H
  replace H : ((floatBits .sub .f64 t147 t148).bind fun t149 => ((floatBits .mul .f64 a0.1 a1.2).bind fun t150 => ((floatBits .mul .f64 a0.2 a1.1).bind fun t151 => ((floatBits .add .f64 t150 t151).bind fun t152 => (some (t149, t152)))))) = some r := H
  have A4 := Aside0.mk A40
  clear A40
  replace H := Option.bind_eq_some_iff.mp H
  obtain ⟨t149, A50, H⟩ := H
  replace H : ((floatBits .mul .f64 a0.1 a1.2).bind fun t150 => ((floatBits .mul .f64 a0.2 a1.1).bind fun t151 => ((floatBits .add .f64 t150 t151).bind fun t152 => (some (t149, t152))))) = some r := H
  have A5 := Aside0.mk A50
  clear A50
  replace H := Option.bind_eq_some_iff.mp H
  obtain ⟨t150, A60, H⟩ := H
  replace H : ((floatBits .mul .f64 a0.2 a1.1).bind fun t151 => ((floatBits .add .f64 t150 t151).bind fun t152 => (some (t149, t152)))) = some r := H
  have A6 := Aside0.mk A60
  clear A60
  replace H := Option.bind_eq_some_iff.mp H
  obtain ⟨t151, A70, H⟩ := H
  replace H : ((floatBits .add .f64 t150 t151).bind fun t152 => (some (t149, t152))) = some r := H
  have A7 := Aside0.mk A70
  clear A70
  replace H := Option.bind_eq_some_iff.mp H
  obtain ⟨t152, A80, H⟩ := H
  replace H : (some (t149, t152)) = some r := H
  have A8 := Aside0.mk A80
  clear A80
  obtain rfl := Option.some.inj H
  have hfoA3_ := fun (t_ : TypeId) (w_ : World) => run_float_arith (P := Try.prog) w_ .mul t_ .f64 a0.1 a1.1 t147 A3.out
  have hfoA4_ := fun (t_ : TypeId) (w_ : World) => run_float_arith (P := Try.prog) w_ .mul t_ .f64 a0.2 a1.2 t148 A4.out
  have hfoA5_ := fun (t_ : TypeId) (w_ : World) => run_float_arith (P := Try.prog) w_ .sub t_ .f64 t147 t148 t149 A5.out
  have hfoA6_ := fun (t_ : TypeId) (w_ : World) => run_float_arith (P := Try.prog) w_ .mul t_ .f64 a0.1 a1.2 t150 A6.out
  have hfoA7_ := fun (t_ : TypeId) (w_ : World) => run_float_arith (P := Try.prog) w_ .mul t_ .f64 a0.2 a1.1 t151 A7.out
  have hfoA8_ := fun (t_ : TypeId) (w_ : World) => run_float_arith (P := Try.prog) w_ .add t_ .f64 t150 t151 t152 A8.out
  go_enter Try.func104, Try.ntmps104
  go_wp2
  go_ret
  exact ⟨by first | rfl | (simp [errW_none, errW_some] <;> rfl) | (simp [*, errW_none, errW_some] <;> rfl), by repeat (first | (with_reducible first | exact HB.out | apply below_alloc | apply pw_below_drewN | apply below_drew1) | exact HB.out)⟩

end Go.Proofs.Ythfcafllcgjepaa.Q
