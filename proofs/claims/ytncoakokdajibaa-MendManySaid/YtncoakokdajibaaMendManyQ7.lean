import Derived.Test.YtncoakokdajibaaMendManyStepW
import Derived.Test.YtncoakokdajibaaMendManyK0
import Derived.Test.YtncoakokdajibaaMendManyF1
import Derived.Test.YtncoakokdajibaaMendManyQ3
import Derived.Test.YtncoakokdajibaaMendManyQ4
import Derived.Test.YtncoakokdajibaaMendManyQ5
import Derived.Test.YtncoakokdajibaaMendManyQ6
-- Printed by myprint.py (ours) over the kit's printer, out of the translation.
namespace Go.Proofs.Ytncoakokdajibaa.Q
open Go.RowKit Go.Proofs.YtncoakokdajibaaW.PrintWords Go.Proofs.YtncoakokdajibaaW.PrintLast Go.Proofs.YtncoakokdajibaaW.PrintMore
attribute [local go_sem] ArrW.ptrOf_slice unary_neg_float unary_neg_complex run_store_float run_store_complex max2_int min2_int max_two min_two max_three min_three max_four min_four   -- for this text's walks alone
set_option linter.unusedVariables false
set_option linter.unusedSimpArgs false
--WALK
set_option maxHeartbeats 8000000 in
set_option maxRecDepth 100000 in
theorem foghornref20_errors.calls (k : Nat) (A0 : Option Addr) (c0 : Nat) (l0 : List Int) (a1 : Int) (a2 : Int) (a3 : Int) (A4 : Option Addr) (c4 : Nat) (l4 : List Bool) (r1 : List Int) (r2 : Bool) (w : World) (hr0 : Kd.C (Kd.int .u8) w A0 l0.length l0) (hc0 : l0.length ≤ c0) (hr4 : Kd.C Kd.bool w A4 l4.length l4) (hc4 : l4.length ≤ c4) (h : foghornref20_errors.f k l0 a1 a2 a3 l4 = some (r1, r2)) :
  Calls Try.prog 93 #[.slice A0 l0.length c0, .int .i64 a1, .int .i64 a2, .int .i64 a3, .slice A4 l4.length c4] w fun e w' => ∃ v0_ : Value, e = .returned (.tuple #[v0_, .bool r2]) ∧ Kd.R (Kd.int .i64) 3 w' w.heap.size (fun _ => True) v0_ r1 ∧ Below w.heap.size w w' := by
 have HR0 := Aside0.mk hr0; have HC0 := Aside0.mk hc0; clear hr0 hc0; have HR4 := Aside0.mk hr4; have HC4 := Aside0.mk hc4; clear hr4 hc4; have HB := Aside0.mk (Below.refl w.heap.size w)
 have H : (foghornref20_errors.l0 k l0 a1 a2 a3 l4 ([] : List (List Int)) ([] : List Int) (wrap64 (a1 + a2))) = some (r1, r2) := h
 clear h
 have H' := Aside0.mk H
 clear H
 go_enter Try.func93, Try.ntmps93
 go_wp2
 go_loopg [12, 13, 14] k (fun kq v12 v13 v14 w' => ∃ (x12_1 : List (List Int)) (x13_1 : List Int) (x14_1 : Int), v14 = .int .i64 x14_1 ∧ Aside0 (foghornref20_errors.l0 kq l0 a1 a2 a3 l4 x12_1 x13_1 x14_1 = some (r1, r2)) ∧ Aside0 (kq ≤ k) ∧ Aside0 (Kd.S (Kd.slice 5 (Kd.int .u8)) 29 w' w.heap.size (fun k_ => some k_ ≠ (v13 : Value).ownBlock) v12 x12_1) ∧ Aside0 (Kd.R (Kd.int .u8) 5 w' w.heap.size (fun _ => True) v13 x13_1) ∧ Aside0 (Below w.heap.size w w'))
 case atStart => exact ⟨(([] : List (List Int))), (([] : List Int)), (wrap64 (a1 + a2)), (by rfl), H', ⟨Nat.le_refl _⟩, ⟨by first | exact Kd.S_nil _ _ _ _ _ | exact Kd.N_nil _ _ _ _ _ | exact Kd.V_nil _ _ _ _ _ | exact Kd.Q_nil _ _ _ _ _ | exact Kd.R_nil _ _ _ _ _⟩, ⟨by first | exact Kd.R_nil _ _ _ _ _ | exact Kd.N_nil _ _ _ _ _ | exact Kd.V_nil _ _ _ _ _ | exact Kd.Q_nil _ _ _ _ _ | exact Kd.S_nil _ _ _ _ _⟩, ⟨HB.out⟩⟩
 case round =>
  clear H'; (try clear c4)
  obtain ⟨x12_1, x13_1, x14_1, rfl, HA, HK1, HO_12, HO_13, HB⟩ := hrel
  cases gk with
  | zero => exact absurd HA.out (by simp [foghornref20_errors.l0])
  | succ k1 =>
   have H := HA.out; clear HA
   simp only [foghornref20_errors.l0] at H
   by_cases c6 : x14_1 < (wrap64 (a1 + (wrap64 (2 * a2))))
   ·rw [if_pos c6] at H
    have c6b0 : decide (x14_1 < (wrap64 (a1 + (wrap64 (2 * a2))))) = true := decide_eq_true c6
    clear c6
    have H' := Aside0.mk H
    clear H
    go_wp2
    go_loopg [15, 16] k1 (fun kq v15 v16 w' => ∃ (x15_2 : List Int) (x16_2 : Int), v16 = .int .i64 x16_2 ∧ Aside0 (foghornref20_errors.l1 kq l0 a1 a2 a3 l4 x12_1 x13_1 x14_1 x15_2 x16_2 = some (r1, r2)) ∧ Aside0 (kq ≤ k1) ∧ Aside0 (Kd.S (Kd.slice 5 (Kd.int .u8)) 29 w' w.heap.size (fun k_ => some k_ ≠ (u13 : Value).ownBlock ∧ some k_ ≠ (v15 : Value).ownBlock) u12 x12_1) ∧ Aside0 (Kd.R (Kd.int .u8) 5 w' w.heap.size (fun k_ => some k_ ≠ (v15 : Value).ownBlock) u13 x13_1) ∧ Aside0 (Kd.R (Kd.int .u8) 5 w' w.heap.size (fun k_ => some k_ ≠ (u13 : Value).ownBlock) v15 x15_2) ∧ Aside0 (Below w.heap.size w w'))
    case atStart => exact ⟨(([] : List Int)), (1), (by rfl), H', ⟨Nat.le_refl _⟩, ⟨by (with_reducible repeat (first | apply Kd.S_alloc | apply Kd.S_drewN | apply Kd.S_drew)); exact Kd.S_mono HO_12.out (fun _ hk => ⟨hk, (by simp [Value.ownBlock])⟩)⟩, ⟨by (with_reducible repeat (first | apply Kd.R_alloc | apply Kd.R_drewN | apply Kd.R_drew)); exact Kd.R_mono HO_13.out (fun _ hk => (by simp [Value.ownBlock]))⟩, ⟨by first | exact Kd.R_nil _ _ _ _ _ | exact Kd.N_nil _ _ _ _ _ | exact Kd.V_nil _ _ _ _ _ | exact Kd.Q_nil _ _ _ _ _ | exact Kd.S_nil _ _ _ _ _⟩, ⟨HB.out⟩⟩
    case round =>
     clear H'; (try clear c4); (try clear c6); (try clear c6b0)
     obtain ⟨x15_2, x16_2, rfl, HA, HK2, HO_12, HO_13, HO_15, HB⟩ := hrel
     cases gk with
     | zero => exact absurd HA.out (by simp [foghornref20_errors.l1])
     | succ k2 =>
      have H := HA.out; clear HA
      simp only [foghornref20_errors.l1] at H
      by_cases c7 : x16_2 ≤ a2
      ·rw [if_pos c7] at H
       have c7b0 : decide (x16_2 ≤ a2) = true := decide_eq_true c7
       clear c7
       obtain ⟨ji8, hji8⟩ : ∃ j_ : Int, (wrap64 (x14_1 - x16_2)) = j_ := ⟨_, rfl⟩
       replace H : (if 0 ≤ (ji8) then (if (ji8) < (l0.length : Int) then (if x15_2.length < 140737488355328 then (foghornref20_errors.l1 k2 l0 a1 a2 a3 l4 x12_1 x13_1 x14_1 (x15_2 ++ [rd l0 (ji8)]) (wrap64 (x16_2 + 1))) else (none)) else (none)) else (none)) = some (r1, r2) := by first | (rw [hji8] at H; exact H) | (simp only [hji8] at H ⊢; exact H)
       have hji8w : (IntKind.i64.wrap (x14_1 - x16_2)) = ji8 := (i64_w _).trans hji8
       by_cases c9 : 0 ≤ (ji8)
       ·rw [if_pos c9] at H
        have c9b0 : decide (0 ≤ (ji8)) = true := decide_eq_true c9
        clear c9
        by_cases c10 : (ji8) < (l0.length : Int)
        ·rw [if_pos c10] at H
         have c10b0 : decide ((ji8) < (l0.length : Int)) = true := decide_eq_true c10
         clear c10
         by_cases c11 : x15_2.length < 140737488355328
         ·rw [if_pos c11] at H
          have LMc11 := Aside0.mk c11; clear c11
          obtain ⟨y1044, hy1044⟩ : ∃ y_ : List Int, y_ = (x15_2 ++ [rd l0 (ji8)]) := ⟨_, rfl⟩
          replace H : (foghornref20_errors.l1 k2 l0 a1 a2 a3 l4 x12_1 x13_1 x14_1 y1044 (wrap64 (x16_2 + 1))) = some (r1, r2) := by first | (rw [hy1044]; exact H) | exact H
          have Ny1044 := Aside0.mk hy1044; clear hy1044
          have H' := Aside0.mk H
          clear H
          have p1043 : 0 ≤ ((ji8) : Int) := of_decide_eq_true (by assumption)
          have q1043 : (ji8) < (l0.length : Int) := of_decide_eq_true (by assumption)
          obtain ⟨ad1043, e1043, hx1043_0⟩ := Kd.at_int HR0.out (ji8) p1043 q1043
          cases e1043
          replace hx1043_0 := (HB.out.cell (World.block_lt_of_cell? w _ hx1043_0)).trans hx1043_0; replace p1043 := eq_true p1043; replace q1043 := eq_true q1043
          go_wp2_with (first | ((with_reducible refine gate_builtin (b := .append) (xs := #[.tmp 41, .tmp 48]) rfl ?_); at_builtin; refine Kd.R_append (Kd.int .u8) (w0 := w) w.heap.size rfl (.tmp 41) (.tmp 48) 29 5 (.int .u8 0) 1 rfl Try.underlying29 info5 rfl (by decide) (by omega) u15 x15_2 (rd l0 (ji8)) [.int .u8 (rd l0 (ji8))] (fun k_ => some k_ ≠ (u13 : Value).ownBlock) (fun _ => False) rfl rfl ?aP (fun _ hk => hk.elim) ?aF ?aO ?aB ?aS ?aL ?_; (case aP => exact rfl); (case aB => exact HB.out); (case aF => exact (fun k_ hk => Kd.fresh' (Kd.R_lt HO_13.out) k_ hk)); (case aO => exact HO_15.out); (case aS => exact (below_size HB.out)); (case aL => have := LMc11.out; omega); intro v1045 w12 ho hb hg hat; rw [← Ny1044.out] at ho; have n0_ := Aside0.mk (Kd.S_after (ok := (fun k_ => some k_ ≠ (u13 : Value).ownBlock)) HO_12.out hg hat); have n1_ := Aside0.mk (Kd.R_after (ok := (fun _ => True)) (by (with_reducible repeat (first | apply Kd.R_alloc | apply Kd.R_drewN | apply Kd.R_drew)); exact Kd.R_mono HO_13.out (fun _ hk => ⟨trivial, hk⟩)) hg hat); have n2_ := Aside0.mk (hb); have n3_ := Aside0.mk (ho); clear HO_12 HO_13 HB HO_15; have HO_12 := n0_; have HO_13 := n1_; have HB := n2_; have HO1046 := n3_; clear n0_ n1_ n2_ n3_; clear ho hb hg hat))
          first | go_roundg k2 | (simp only [add_plain] at *; go_roundg k2)
          case measure => have := HK1.out; have := HK2.out; omega
          case rel => exact ⟨(y1044), (wrap64 (x16_2 + 1)), (by rfl), H', ⟨by have := HK1.out; have := HK2.out; omega⟩, ⟨by (with_reducible repeat (first | apply Kd.S_alloc | apply Kd.S_drewN | apply Kd.S_drew)); exact HO_12.out⟩, ⟨by (with_reducible repeat (first | apply Kd.R_alloc | apply Kd.R_drewN | apply Kd.R_drew)); exact Kd.R_mono HO_13.out (fun _ hk => hk.2)⟩, ⟨by (with_reducible repeat (first | apply Kd.R_alloc | apply Kd.R_drewN | apply Kd.R_drew)); exact HO1046.out⟩, ⟨HB.out⟩⟩
         ·rw [if_neg c11] at H
          exact absurd H (by simp)
        ·rw [if_neg c10] at H
         exact absurd H (by simp)
       ·rw [if_neg c9] at H
        exact absurd H (by simp)
      ·rw [if_neg c7] at H
       have c7b0 : decide (x16_2 ≤ a2) = false := decide_eq_false c7
       clear c7
       by_cases c13 : x12_1.length < 5864062014805
       ·rw [if_pos c13] at H
        have LMc13 := Aside0.mk c13; clear c13
        obtain ⟨y1047, hy1047⟩ : ∃ y_ : List (List Int), y_ = (x12_1 ++ [x15_2]) := ⟨_, rfl⟩
        replace H : (if 0 ≤ x14_1 then (if x14_1 < (l0.length : Int) then (if x13_1.length < 140737488355328 then (foghornref20_errors.l0 k2 l0 a1 a2 a3 l4 y1047 (x13_1 ++ [rd l0 x14_1]) (wrap64 (x14_1 + 1))) else (none)) else (none)) else (none)) = some (r1, r2) := by first | (rw [hy1047]; exact H) | exact H
        have Ny1047 := Aside0.mk hy1047; clear hy1047
        by_cases c14 : 0 ≤ x14_1
        ·rw [if_pos c14] at H
         have c14b0 : decide (0 ≤ x14_1) = true := decide_eq_true c14
         clear c14
         by_cases c15 : x14_1 < (l0.length : Int)
         ·rw [if_pos c15] at H
          have c15b0 : decide (x14_1 < (l0.length : Int)) = true := decide_eq_true c15
          clear c15
          by_cases c16 : x13_1.length < 140737488355328
          ·rw [if_pos c16] at H
           have LMc16 := Aside0.mk c16; clear c16
           obtain ⟨y1051, hy1051⟩ : ∃ y_ : List Int, y_ = (x13_1 ++ [rd l0 x14_1]) := ⟨_, rfl⟩
           replace H : (foghornref20_errors.l0 k2 l0 a1 a2 a3 l4 y1047 y1051 (wrap64 (x14_1 + 1))) = some (r1, r2) := by first | (rw [hy1051]; exact H) | exact H
           have Ny1051 := Aside0.mk hy1051; clear hy1051
           have H' := Aside0.mk H
           clear H
           obtain ⟨Ao18, co18, eo18⟩ := Kd.R_slice HO_15.out
           subst eo18
           go_wp2_with (first | ((with_reducible refine gate_builtin (b := .append) (xs := #[.tmp 50, .tmp 52]) rfl ?_); at_builtin; refine Kd.S_append (Kd.slice 5 (Kd.int .u8)) (w0 := w) w.heap.size rfl (.tmp 50) (.tmp 52) 130 29 (.slice none 0 0) 24 rfl Try.underlying130 info29 rfl (by decide) (by omega) u12 x12_1 x15_2 [.slice Ao18 x15_2.length co18] (fun k_ => some k_ ≠ (u13 : Value).ownBlock) (fun k_ => some k_ = (.slice Ao18 x15_2.length co18 : Value).ownBlock) rfl rfl ?aP (fun k_ hk_ => ((Kd.R_mono (ok' := fun k_ => ((fun k_ => some k_ ≠ (u13 : Value).ownBlock)) k_ ∧ some k_ ≠ (u12 : Value).ownBlock) (Kd.R_apart' HO_15.out (Kd.S_typed HO_12.out) (by decide)) (fun k_ hk => ⟨hk.1, hk.2⟩))).1 k_ hk_.symm) ?aF ?aO ?aB ?aS ?aL ?_; (case aP => exact Kd.M_row (Kd.R_mono (Kd.R_tight rfl (Kd.R_mono (ok' := fun k_ => ((fun k_ => some k_ ≠ (u13 : Value).ownBlock)) k_ ∧ some k_ ≠ (u12 : Value).ownBlock) (Kd.R_apart' HO_15.out (Kd.S_typed HO_12.out) (by decide)) (fun k_ hk => ⟨hk.1, hk.2⟩))) (fun _ h_ => h_))); (case aB => exact HB.out); (case aF => exact (fun k_ hk => Kd.fresh' (Kd.R_lt HO_13.out) k_ hk)); (case aO => exact (by (with_reducible repeat (first | apply Kd.S_alloc | apply Kd.S_drewN | apply Kd.S_drew)); exact Kd.S_mono HO_12.out (fun k_ hk => ⟨hk.1, fun e_ => hk.2 e_⟩))); (case aS => exact (below_size HB.out)); (case aL => have := LMc13.out; omega); intro v1048 w17 ho hb hg hat; rw [← Ny1047.out] at ho; have n0_ := Aside0.mk (Kd.R_over' HO_13.out (Kd.S_typed HO_12.out) (by decide) hg); have n1_ := Aside0.mk (hb); have n2_ := Aside0.mk (ho); clear HO_13 HB HO_12 HO_15; have HO_13 := n0_; have HB := n1_; have HO1049 := n2_; clear n0_ n1_ n2_ ho hb hg hat; have p1050 : 0 ≤ (x14_1 : Int) := of_decide_eq_true (by assumption); have q1050 : x14_1 < (l0.length : Int) := of_decide_eq_true (by assumption); obtain ⟨ad1050, e1050, hx1050_0⟩ := Kd.at_int HR0.out x14_1 p1050 q1050; cases e1050; replace hx1050_0 := (HB.out.cell (World.block_lt_of_cell? w _ hx1050_0)).trans hx1050_0; replace p1050 := eq_true p1050; replace q1050 := eq_true q1050) | ((with_reducible refine gate_builtin (b := .append) (xs := #[.tmp 54, .tmp 59]) rfl ?_); at_builtin; refine Kd.R_append (Kd.int .u8) (w0 := w) w.heap.size rfl (.tmp 54) (.tmp 59) 29 5 (.int .u8 0) 1 rfl Try.underlying29 info5 rfl (by decide) (by omega) u13 x13_1 (rd l0 x14_1) [.int .u8 (rd l0 x14_1)] (fun _ => True) (fun _ => False) rfl rfl ?aP (fun _ hk => hk.elim) ?aF ?aO ?aB ?aS ?aL ?_; (case aP => exact rfl); (case aB => exact HB.out); (case aF => exact (fun _ _ => trivial)); (case aO => exact (by (with_reducible repeat (first | apply Kd.R_alloc | apply Kd.R_drewN | apply Kd.R_drew)); exact Kd.R_mono HO_13.out (fun _ hk => trivial))); (case aS => exact (below_size HB.out)); (case aL => have := LMc16.out; omega); intro v1052 w19 ho hb hg hat; rw [← Ny1051.out] at ho; have n0_ := Aside0.mk (Kd.S_after (ok := (fun _ => True)) (by (with_reducible repeat (first | apply Kd.S_alloc | apply Kd.S_drewN | apply Kd.S_drew)); exact Kd.S_mono HO1049.out (fun _ hk => ⟨trivial, hk⟩)) hg hat); have n1_ := Aside0.mk (hb); have n2_ := Aside0.mk (ho); clear HO1049 HB HO_13; have HO1049 := n0_; have HB := n1_; have HO1053 := n2_; clear n0_ n1_ n2_; clear ho hb hg hat))
           first | go_roundg k2 | (simp only [add_plain] at *; go_roundg k2)
           case measure => have := HK1.out; have := HK2.out; omega
           case rel => exact ⟨(y1047), (y1051), (wrap64 (x14_1 + 1)), (by rfl), H', ⟨by have := HK1.out; have := HK2.out; omega⟩, ⟨by (with_reducible repeat (first | apply Kd.S_alloc | apply Kd.S_drewN | apply Kd.S_drew)); exact Kd.S_mono HO1049.out (fun _ hk => hk.2)⟩, ⟨by (with_reducible repeat (first | apply Kd.R_alloc | apply Kd.R_drewN | apply Kd.R_drew)); exact HO1053.out⟩, ⟨HB.out⟩⟩
          ·rw [if_neg c16] at H
           exact absurd H (by simp)
         ·rw [if_neg c15] at H
          exact absurd H (by simp)
        ·rw [if_neg c14] at H
         exact absurd H (by simp)
       ·rw [if_neg c13] at H
        exact absurd H (by simp)
   ·rw [if_neg c6] at H
    have c6b0 : decide (x14_1 < (wrap64 (a1 + (wrap64 (2 * a2))))) = false := decide_eq_false c6
    clear c6; replace H := Option.bind_eq_some_iff.mp H
    obtain ⟨⟨t1054, t1055⟩, A200, H⟩ := H
    replace H : (if t1055 = true then (foghornref20_errors.l2 k1 a2 a3 l4 t1054 ([] : List Int) 0) else (some (([] : List Int), false))) = some (r1, r2) := H
    have A20 := Aside0.mk A200; clear A200
    by_cases c21 : t1055 = true
    ·subst c21
     have H1 : (foghornref20_errors.l2 k1 a2 a3 l4 t1054 ([] : List Int) 0) = some (r1, r2) := by rw [if_pos rfl] at H; exact H
     clear H; have H := H1; clear H1
     have H' := Aside0.mk H
     clear H
     obtain ⟨Ao22, co22, eo22⟩ := Kd.S_slice HO_12.out
     subst eo22
     obtain ⟨Ao23, co23, eo23⟩ := Kd.R_slice HO_13.out
     subst eo23
     go_wp2_with (first | ((with_reducible refine gate_callee (f := 109) rfl ?_); refine goesL_ (some 64) rfl rfl Try.func109 (by kernel_rfl) rfl #[.slice Ao22 x12_1.length co22, .slice Ao23 x13_1.length co23] rfl (by (try simp only [List.map_toArray, List.map_cons, List.map_nil]); first | done | rfl | (simp only [List.length_drop, List.length_take]; rfl)) ?_; (with_reducible refine (foghornref20_solve.own k1 w.heap.size w _ _ _ x12_1 x13_1 t1054 true _ _ HO_12.out HO_13.out (fun k_ hk => by first | exact hk | exact hk.1 | exact hk.2 | exact hk.1.1 | exact hk.1.2 | exact hk.2.1 | exact hk.2.2) HB.out A20.out).mono ?_); rintro e w24 ⟨v1056, rfl, ho0, hb⟩; refine ⟨_, rfl, ?_⟩; clear HO_12 HO_13 HB; have HO1057 := Aside0.mk ho0; have HB := Aside0.mk hb; clear ho0 hb))
     go_loopg [19, 20] k1 (fun kq v19 v20 w' => ∃ (x19_2 : List Int) (x20_2 : Int), v20 = .int .i64 x20_2 ∧ Aside0 (foghornref20_errors.l2 kq a2 a3 l4 t1054 x19_2 x20_2 = some (r1, r2)) ∧ Aside0 (kq ≤ k1) ∧ Aside0 (Kd.R (Kd.int .u8) 5 w' w.heap.size (fun _ => True) v1056 t1054) ∧ Aside0 (Kd.R (Kd.int .i64) 3 w' w.heap.size (fun _ => True) v19 x19_2) ∧ Aside0 (Below w.heap.size w w'))
     case atStart => exact ⟨(([] : List Int)), (0), (by rfl), H', ⟨Nat.le_refl _⟩, ⟨by (with_reducible repeat (first | apply Kd.R_alloc | apply Kd.R_drewN | apply Kd.R_drew)); exact Kd.R_mono HO1057.out (fun _ hk => trivial)⟩, ⟨by first | exact Kd.R_nil _ _ _ _ _ | exact Kd.N_nil _ _ _ _ _ | exact Kd.V_nil _ _ _ _ _ | exact Kd.Q_nil _ _ _ _ _ | exact Kd.S_nil _ _ _ _ _⟩, ⟨HB.out⟩⟩
     case round =>
      clear H'; (try clear c4); (try clear c6); (try clear c6b0); (try clear c7); (try clear c7b0); (try clear c9); (try clear c9b0); (try clear c10); (try clear c10b0); (try clear c11); (try clear c13); (try clear c14); (try clear c14b0); (try clear c15); (try clear c15b0); (try clear c16); (try clear c21); (try clear hx1043_0); (try clear hx1050_0); (try clear p1043); (try clear p1050); (try clear q1043); (try clear q1050)
      obtain ⟨x19_2, x20_2, rfl, HA, HK2, HO_17, HO_19, HB⟩ := hrel
      cases gk with
      | zero => exact absurd HA.out (by simp [foghornref20_errors.l2])
      | succ k2 =>
       have H := HA.out; clear HA
       simp only [foghornref20_errors.l2] at H
       by_cases c25 : x20_2 < a3
       ·rw [if_pos c25] at H
        have c25b0 : decide (x20_2 < a3) = true := decide_eq_true c25
        clear c25; replace H := Option.bind_eq_some_iff.mp H
        obtain ⟨t1058, A260, H⟩ := H
        replace H : ((foghornref20_inverse.f k2 t1058).bind fun t1059 => (foghornref20_errors.l3 k2 a2 a3 l4 t1054 x19_2 x20_2 t1059 1 t1059 0)) = some (r1, r2) := H
        have A26 := Aside0.mk A260; clear A260; replace H := Option.bind_eq_some_iff.mp H
        obtain ⟨t1059, A270, H⟩ := H
        replace H : (foghornref20_errors.l3 k2 a2 a3 l4 t1054 x19_2 x20_2 t1059 1 t1059 0) = some (r1, r2) := H
        have A27 := Aside0.mk A270; clear A270
        have H' := Aside0.mk H
        clear H
        go_wp2_with (first | ((with_reducible refine gate_callee (f := 98) rfl ?_); refine goesL_ (some 76) rfl rfl Try.func98 (by kernel_rfl) rfl #[.int .i64 x20_2, .int .i64 a3] rfl (by (try simp only [List.map_toArray, List.map_cons, List.map_nil]); first | done | rfl | (simp only [List.length_drop, List.length_take]; rfl)) ?_; (with_reducible refine (foghornref20_x.calls k2 x20_2 a3 t1058 _ A26.out).mono ?_); rintro e w' ⟨rfl, ⟨nd, rfl⟩⟩; refine ⟨_, rfl, ?_⟩) | ((with_reducible refine gate_callee (f := 110) rfl ?_); refine goesL_ (some 77) rfl rfl Try.func110 (by kernel_rfl) rfl #[.int .u8 t1058] rfl (by (try simp only [List.map_toArray, List.map_cons, List.map_nil]); first | done | rfl | (simp only [List.length_drop, List.length_take]; rfl)) ?_; (with_reducible refine (foghornref20_inverse.calls k2 t1058 t1059 _ A27.out).mono ?_); rintro e w' ⟨rfl, ⟨nd, rfl⟩⟩; refine ⟨_, rfl, ?_⟩))
        go_loopg [22, 23, 24] k2 (fun kq v22 v23 v24 w' => ∃ (x22_3 : Int) (x23_3 : Int) (x24_3 : Int), v22 = .int .u8 x22_3 ∧ v23 = .int .u8 x23_3 ∧ v24 = .int .i64 x24_3 ∧ Aside0 (foghornref20_errors.l3 kq a2 a3 l4 t1054 x19_2 x20_2 t1059 x22_3 x23_3 x24_3 = some (r1, r2)) ∧ Aside0 (kq ≤ k2) ∧ Aside0 (Kd.R (Kd.int .u8) 5 w' w.heap.size (fun _ => True) v1056 t1054) ∧ Aside0 (Kd.R (Kd.int .i64) 3 w' w.heap.size (fun _ => True) u19 x19_2) ∧ Aside0 (Below w.heap.size w w'))
        case atStart => exact ⟨(1), (t1059), (0), (by rfl), (by rfl), (by rfl), H', ⟨Nat.le_refl _⟩, ⟨by (with_reducible repeat (first | apply Kd.R_alloc | apply Kd.R_drewN | apply Kd.R_drew)); exact HO_17.out⟩, ⟨by (with_reducible repeat (first | apply Kd.R_alloc | apply Kd.R_drewN | apply Kd.R_drew)); exact HO_19.out⟩, ⟨by repeat (first | (with_reducible first | exact HB.out | apply below_alloc | apply pw_below_drewN | apply below_drew1) | exact HB.out)⟩⟩
        case round =>
         clear H'; (try clear c4); (try clear c6); (try clear c6b0); (try clear c7); (try clear c7b0); (try clear c9); (try clear c9b0); (try clear c10); (try clear c10b0); (try clear c11); (try clear c13); (try clear c14); (try clear c14b0); (try clear c15); (try clear c15b0); (try clear c16); (try clear c21); (try clear c25); (try clear c25b0); (try clear hx1043_0); (try clear hx1050_0); (try clear p1043); (try clear p1050); (try clear q1043); (try clear q1050)
         obtain ⟨x22_3, x23_3, x24_3, rfl, rfl, rfl, HA, HK3, HO_17, HO_19, HB⟩ := hrel
         cases gk with
         | zero => exact absurd HA.out (by simp [foghornref20_errors.l3])
         | succ k3 =>
          have H := HA.out; clear HA
          simp only [foghornref20_errors.l3] at H
          by_cases c28 : x24_3 < a2
          ·rw [if_pos c28] at H
           have c28b0 : decide (x24_3 < a2) = true := decide_eq_true c28
           clear c28
           by_cases c29 : 0 ≤ x24_3
           ·rw [if_pos c29] at H
            have c29b0 : decide (0 ≤ x24_3) = true := decide_eq_true c29
            clear c29
            by_cases c30 : x24_3 < (t1054.length : Int)
            ·rw [if_pos c30] at H
             have c30b0 : decide (x24_3 < (t1054.length : Int)) = true := decide_eq_true c30
             clear c30; replace H := Option.bind_eq_some_iff.mp H
             obtain ⟨t1061, A310, H⟩ := H
             replace H : ((foghornref18_Times.f k3 x23_3 t1059).bind fun t1062 => (foghornref20_errors.l3 k3 a2 a3 l4 t1054 x19_2 x20_2 t1059 (Go.bits .xor .u8 x22_3 t1061) t1062 (wrap64 (x24_3 + 1)))) = some (r1, r2) := H
             have A31 := Aside0.mk A310; clear A310; replace H := Option.bind_eq_some_iff.mp H
             obtain ⟨t1062, A320, H⟩ := H
             replace H : (foghornref20_errors.l3 k3 a2 a3 l4 t1054 x19_2 x20_2 t1059 (Go.bits .xor .u8 x22_3 t1061) t1062 (wrap64 (x24_3 + 1))) = some (r1, r2) := H
             have A32 := Aside0.mk A320; clear A320
             have H' := Aside0.mk H
             clear H
             obtain ⟨Ao33, co33, eo33⟩ := Kd.R_slice HO_17.out
             subst eo33
             have p1060 : 0 ≤ (x24_3 : Int) := of_decide_eq_true (by assumption)
             have q1060 : x24_3 < (t1054.length : Int) := of_decide_eq_true (by assumption)
             obtain ⟨ad1060, e1060, hx1060_0⟩ := Kd.at_int (Kd.R_reads' HO_17.out).2.2 x24_3 p1060 q1060
             cases e1060
             replace p1060 := eq_true p1060; replace q1060 := eq_true q1060
             go_wp2_with (first | ((with_reducible refine gate_callee (f := 92) rfl ?_); refine goesL_ (some 90) rfl rfl Try.func92 (by kernel_rfl) rfl #[.int .u8 (rd t1054 x24_3), .int .u8 x23_3] rfl (by (try simp only [List.map_toArray, List.map_cons, List.map_nil]); first | done | rfl | (simp only [List.length_drop, List.length_take]; rfl)) ?_; (with_reducible refine (foghornref18_Times.calls k3 (rd t1054 x24_3) x23_3 t1061 _ A31.out).mono ?_); rintro e w' ⟨rfl, ⟨nd, rfl⟩⟩; refine ⟨_, rfl, ?_⟩) | ((with_reducible refine gate_callee (f := 92) rfl ?_); refine goesL_ (some 94) rfl rfl Try.func92 (by kernel_rfl) rfl #[.int .u8 x23_3, .int .u8 t1059] rfl (by (try simp only [List.map_toArray, List.map_cons, List.map_nil]); first | done | rfl | (simp only [List.length_drop, List.length_take]; rfl)) ?_; (with_reducible refine (foghornref18_Times.calls k3 x23_3 t1059 t1062 _ A32.out).mono ?_); rintro e w' ⟨rfl, ⟨nd, rfl⟩⟩; refine ⟨_, rfl, ?_⟩))
             first | go_roundg k3 | (simp only [add_plain] at *; go_roundg k3)
             case measure => have := HK1.out; have := HK2.out; have := HK3.out; omega
             case rel => exact ⟨(Go.bits .xor .u8 x22_3 t1061), (t1062), (wrap64 (x24_3 + 1)), (by rfl), (by rfl), (by rfl), H', ⟨by have := HK1.out; have := HK2.out; have := HK3.out; omega⟩, ⟨by (with_reducible repeat (first | apply Kd.R_alloc | apply Kd.R_drewN | apply Kd.R_drew)); exact HO_17.out⟩, ⟨by (with_reducible repeat (first | apply Kd.R_alloc | apply Kd.R_drewN | apply Kd.R_drew)); exact HO_19.out⟩, ⟨by repeat (first | (with_reducible first | exact HB.out | apply below_alloc | apply pw_below_drewN | apply below_drew1) | exact HB.out)⟩⟩
            ·rw [if_neg c30] at H
             exact absurd H (by simp)
           ·rw [if_neg c29] at H
            exact absurd H (by simp)
          ·rw [if_neg c28] at H
           have c28b0 : decide (x24_3 < a2) = false := decide_eq_false c28
           clear c28
           by_cases c34 : x22_3 = 0
           ·rw [if_pos c34] at H
            have c34b0 : (x22_3 == 0) = true := beq_iff_eq.mpr c34
            have c34b1 : (x22_3 != 0) = false := bne_eq_false_iff_eq.mpr c34
            clear c34
            by_cases c35 : 0 ≤ x20_2
            ·rw [if_pos c35] at H
             have c35b0 : decide (0 ≤ x20_2) = true := decide_eq_true c35
             clear c35
             by_cases c36 : x20_2 < (l4.length : Int)
             ·rw [if_pos c36] at H
              have c36b0 : decide (x20_2 < (l4.length : Int)) = true := decide_eq_true c36
              clear c36
              obtain ⟨bq37, hbq37⟩ : ∃ b_ : Bool, b_ = (rdOf false l4 x20_2) := ⟨_, rfl⟩
              replace H : (if bq37 = true then (foghornref20_errors.l2 k3 a2 a3 l4 t1054 x19_2 (wrap64 (x20_2 + 1))) else (if x19_2.length < 17592186044416 then (foghornref20_errors.l2 k3 a2 a3 l4 t1054 (x19_2 ++ [x20_2]) (wrap64 (x20_2 + 1))) else (none))) = some (r1, r2) := by rw [← hbq37] at H; exact H
              have Nbq37 := Aside0.mk hbq37; clear hbq37
              by_cases c38 : bq37 = true
              ·subst c38
               have H1 : (foghornref20_errors.l2 k3 a2 a3 l4 t1054 x19_2 (wrap64 (x20_2 + 1))) = some (r1, r2) := by rw [if_pos rfl] at H; exact H
               clear H; have H := H1; clear H1
               have H' := Aside0.mk H
               clear H
               have p1063 : 0 ≤ (x20_2 : Int) := of_decide_eq_true (by assumption)
               have q1063 : x20_2 < (l4.length : Int) := of_decide_eq_true (by assumption)
               obtain ⟨ad1063, e1063, hx1063_0⟩ := Kd.at_bool HR4.out x20_2 p1063 q1063
               (try rw [← Nbq37.out] at hx1063_0)
               cases e1063
               replace hx1063_0 := (HB.out.cell (World.block_lt_of_cell? w _ hx1063_0)).trans hx1063_0; replace p1063 := eq_true p1063; replace q1063 := eq_true q1063
               go_wp2
               first | go_roundg k3 | (simp only [add_plain] at *; go_roundg k3)
               case measure => have := HK1.out; have := HK2.out; have := HK3.out; omega
               case rel => exact ⟨(x19_2), (wrap64 (x20_2 + 1)), (by rfl), H', ⟨by have := HK1.out; have := HK2.out; have := HK3.out; omega⟩, ⟨by (with_reducible repeat (first | apply Kd.R_alloc | apply Kd.R_drewN | apply Kd.R_drew)); exact HO_17.out⟩, ⟨by (with_reducible repeat (first | apply Kd.R_alloc | apply Kd.R_drewN | apply Kd.R_drew)); exact HO_19.out⟩, ⟨HB.out⟩⟩
              ·replace c38 := Bool.eq_false_iff.mpr c38
               subst c38
               have H1 : (if x19_2.length < 17592186044416 then (foghornref20_errors.l2 k3 a2 a3 l4 t1054 (x19_2 ++ [x20_2]) (wrap64 (x20_2 + 1))) else (none)) = some (r1, r2) := by rw [if_neg (show ¬ (false = true) by decide)] at H; exact H
               clear H; have H := H1; clear H1
               by_cases c39 : x19_2.length < 17592186044416
               ·rw [if_pos c39] at H
                have LMc39 := Aside0.mk c39; clear c39
                obtain ⟨y1064, hy1064⟩ : ∃ y_ : List Int, y_ = (x19_2 ++ [x20_2]) := ⟨_, rfl⟩
                replace H : (foghornref20_errors.l2 k3 a2 a3 l4 t1054 y1064 (wrap64 (x20_2 + 1))) = some (r1, r2) := by first | (rw [hy1064]; exact H) | exact H
                have Ny1064 := Aside0.mk hy1064; clear hy1064
                have H' := Aside0.mk H
                clear H
                have p1063 : 0 ≤ (x20_2 : Int) := of_decide_eq_true (by assumption)
                have q1063 : x20_2 < (l4.length : Int) := of_decide_eq_true (by assumption)
                obtain ⟨ad1063, e1063, hx1063_0⟩ := Kd.at_bool HR4.out x20_2 p1063 q1063
                (try rw [← Nbq37.out] at hx1063_0)
                cases e1063
                replace hx1063_0 := (HB.out.cell (World.block_lt_of_cell? w _ hx1063_0)).trans hx1063_0; replace p1063 := eq_true p1063; replace q1063 := eq_true q1063
                go_wp2_with (first | ((with_reducible refine gate_builtin (b := .append) (xs := #[.tmp 104, .tmp 106]) rfl ?_); at_builtin; refine Kd.R_append (Kd.int .i64) (w0 := w) w.heap.size rfl (.tmp 104) (.tmp 106) 60 3 (.int .i64 0) 8 rfl Try.underlying60 info3 rfl (by decide) (by omega) u19 x19_2 x20_2 [.int .i64 x20_2] (fun _ => True) (fun _ => False) rfl rfl ?aP (fun _ hk => hk.elim) ?aF ?aO ?aB ?aS ?aL ?_; (case aP => exact rfl); (case aB => exact HB.out); (case aF => exact (fun _ _ => trivial)); (case aO => exact HO_19.out); (case aS => exact (below_size HB.out)); (case aL => have := LMc39.out; omega); intro v1065 w40 ho hb hg hat; rw [← Ny1064.out] at ho; have n0_ := Aside0.mk (Kd.R_over' HO_17.out (Kd.R_typed HO_19.out) (by decide) hg); have n1_ := Aside0.mk (hb); have n2_ := Aside0.mk (ho); clear HO_17 HB HO_19; have HO_17 := n0_; have HB := n1_; have HO1066 := n2_; clear n0_ n1_ n2_; clear ho hb hg hat))
                first | go_roundg k3 | (simp only [add_plain] at *; go_roundg k3)
                case measure => have := HK1.out; have := HK2.out; have := HK3.out; omega
                case rel => exact ⟨(y1064), (wrap64 (x20_2 + 1)), (by rfl), H', ⟨by have := HK1.out; have := HK2.out; have := HK3.out; omega⟩, ⟨by (with_reducible repeat (first | apply Kd.R_alloc | apply Kd.R_drewN | apply Kd.R_drew)); exact HO_17.out⟩, ⟨by (with_reducible repeat (first | apply Kd.R_alloc | apply Kd.R_drewN | apply Kd.R_drew)); exact HO1066.out⟩, ⟨HB.out⟩⟩
               ·rw [if_neg c39] at H
                exact absurd H (by simp)
             ·rw [if_neg c36] at H
              exact absurd H (by simp)
            ·rw [if_neg c35] at H
             exact absurd H (by simp)
           ·rw [if_neg c34] at H
            have c34b0 : (x22_3 == 0) = false := beq_eq_false_iff_ne.mpr c34
            have c34b1 : (x22_3 != 0) = true := bne_iff_ne.mpr c34
            have H' := Aside0.mk H
            clear H
            go_wp2
            first | go_roundg k3 | (simp only [add_plain] at *; go_roundg k3)
            case measure => have := HK1.out; have := HK2.out; have := HK3.out; omega
            case rel => exact ⟨(x19_2), (wrap64 (x20_2 + 1)), (by rfl), H', ⟨by have := HK1.out; have := HK2.out; have := HK3.out; omega⟩, ⟨by (with_reducible repeat (first | apply Kd.R_alloc | apply Kd.R_drewN | apply Kd.R_drew)); exact HO_17.out⟩, ⟨by (with_reducible repeat (first | apply Kd.R_alloc | apply Kd.R_drewN | apply Kd.R_drew)); exact HO_19.out⟩, ⟨HB.out⟩⟩
       ·rw [if_neg c25] at H
        have c25b0 : decide (x20_2 < a3) = false := decide_eq_false c25
        clear c25
        simp only [Option.some.injEq, Prod.mk.injEq] at H
        obtain ⟨rfl, rfl⟩ := H
        go_wp2
        go_ret2
        exact ⟨_, by rfl, by (with_reducible repeat (first | apply Kd.R_alloc | apply Kd.R_drewN | apply Kd.R_drew)); exact HO_19.out, HB.out⟩
    ·replace c21 := Bool.eq_false_iff.mpr c21
     subst c21
     have H1 : (some (([] : List Int), false)) = some (r1, r2) := by rw [if_neg (show ¬ (false = true) by decide)] at H; exact H
     clear H; have H := H1; clear H1
     simp only [Option.some.injEq, Prod.mk.injEq] at H
     obtain ⟨rfl, rfl⟩ := H
     obtain ⟨Ao41, co41, eo41⟩ := Kd.S_slice HO_12.out
     subst eo41
     obtain ⟨Ao42, co42, eo42⟩ := Kd.R_slice HO_13.out
     subst eo42
     go_wp2_with (first | ((with_reducible refine gate_callee (f := 109) rfl ?_); refine goesL_ (some 64) rfl rfl Try.func109 (by kernel_rfl) rfl #[.slice Ao41 x12_1.length co41, .slice Ao42 x13_1.length co42] rfl (by (try simp only [List.map_toArray, List.map_cons, List.map_nil]); first | done | rfl | (simp only [List.length_drop, List.length_take]; rfl)) ?_; (with_reducible refine (foghornref20_solve.own k1 w.heap.size w _ _ _ x12_1 x13_1 t1054 false _ _ HO_12.out HO_13.out (fun k_ hk => by first | exact hk | exact hk.1 | exact hk.2 | exact hk.1.1 | exact hk.1.2 | exact hk.2.1 | exact hk.2.2) HB.out A20.out).mono ?_); rintro e w43 ⟨v1056, rfl, ho0, hb⟩; refine ⟨_, rfl, ?_⟩; clear HO_12 HO_13 HB; have HO1057 := Aside0.mk ho0; have HB := Aside0.mk hb; clear ho0 hb))
     go_ret2
     exact ⟨_, by rfl, by first | exact Kd.R_nil _ _ _ _ _ | exact Kd.N_nil _ _ _ _ _ | exact Kd.V_nil _ _ _ _ _ | exact Kd.Q_nil _ _ _ _ _ | exact Kd.S_nil _ _ _ _ _, HB.out⟩
--WALK
def D94q_ (a b : Nat) : Array Bool := (List.replicate a true ++ List.replicate b false).toArray
def D94n0_ : Array Bool := D94q_ 1 18
def D94n1_ : Array Bool := D94q_ 2 17
def D94n2_ : Array Bool := D94q_ 3 16
def D94n3_ : Array Bool := D94q_ 4 15
def D94n4_ : Array Bool := (List.replicate 4 true ++ List.replicate 1 false ++ List.replicate 1 true ++ List.replicate 13 false).toArray
def D94n5_ : Array Bool := (List.replicate 4 true ++ List.replicate 1 false ++ List.replicate 2 true ++ List.replicate 12 false).toArray
def D94n6_ : Array Bool := (List.replicate 4 true ++ List.replicate 1 false ++ List.replicate 3 true ++ List.replicate 11 false).toArray
def D94n7_ : Array Bool := (List.replicate 4 true ++ List.replicate 1 false ++ List.replicate 4 true ++ List.replicate 10 false).toArray
def D94n8_ : Array Bool := (List.replicate 4 true ++ List.replicate 1 false ++ List.replicate 4 true ++ List.replicate 3 false ++ List.replicate 1 true ++ List.replicate 6 false).toArray
def D94n9_ : Array Bool := (List.replicate 4 true ++ List.replicate 1 false ++ List.replicate 4 true ++ List.replicate 3 false ++ List.replicate 2 true ++ List.replicate 5 false).toArray
def D94n10_ : Array Bool := (List.replicate 4 true ++ List.replicate 1 false ++ List.replicate 4 true ++ List.replicate 3 false ++ List.replicate 3 true ++ List.replicate 4 false).toArray
def D94n11_ : Array Bool := (List.replicate 9 true ++ List.replicate 3 false ++ List.replicate 3 true ++ List.replicate 4 false).toArray
def D94n12_ : Array Bool := (List.replicate 10 true ++ List.replicate 2 false ++ List.replicate 3 true ++ List.replicate 4 false).toArray
def D94n13_ : Array Bool := (List.replicate 11 true ++ List.replicate 1 false ++ List.replicate 3 true ++ List.replicate 4 false).toArray
def D94n14_ : Array Bool := D94q_ 15 4
def D94n15_ : Array Bool := D94q_ 16 3
def D94n16_ : Array Bool := D94q_ 17 2
def D94n17_ : Array Bool := D94q_ 18 1
set_option maxHeartbeats 8000000 in
set_option maxRecDepth 100000 in
theorem foghornref20_filled.calls (k : Nat) (a0 : ByteArray) (a1 : Int) (A2 : Option Addr) (c2 : Nat) (l2 : List Int) (A3 : Option Addr) (c3 : Nat) (l3 : List Int) (r1 : ByteArray) (r2 : Bool) (w : World) (hr2 : Kd.C (Kd.int .i64) w A2 l2.length l2) (hc2 : l2.length ≤ c2) (hr3 : Kd.C (Kd.int .u8) w A3 l3.length l3) (hc3 : l3.length ≤ c3) (h : foghornref20_filled.f k a0 a1 l2 l3 = some (r1, r2)) :
  Calls Try.prog 94 #[.string a0, .int .i64 a1, .slice A2 l2.length c2, .slice A3 l3.length c3] w fun e w' => e = .returned (.tuple #[.string r1, .bool r2]) ∧ Below w.heap.size w w' := by
 have HR2 := Aside0.mk hr2; have HC2 := Aside0.mk hc2; clear hr2 hc2; have HR3 := Aside0.mk hr3; have HC3 := Aside0.mk hc3; clear hr3 hc3; have HB := Aside0.mk (Below.refl w.heap.size w)
 have H : (if (l2.length : Int) > a1 then (some ((⟨#[]⟩ : ByteArray), false)) else (foghornref20_filled.l0 k a0 a1 l2 l3 ([] : List (List Int)) 0)) = some (r1, r2) := h
 clear h
 by_cases c5 : (l2.length : Int) > a1
 ·rw [if_pos c5] at H
  have c5b0 : decide (a1 < (l2.length : Int)) = true := decide_eq_true c5
  clear c5
  simp only [Option.some.injEq, Prod.mk.injEq] at H
  obtain ⟨rfl, rfl⟩ := H
  go_enter Try.func94, Try.ntmps94
  go_wp2
  go_ret2
  exact ⟨by rfl, HB.out⟩
 ·rw [if_neg c5] at H
  have c5b0 : decide (a1 < (l2.length : Int)) = false := decide_eq_false c5
  clear c5
  have H' := Aside0.mk H
  clear H
  go_enter Try.func94, Try.ntmps94
  go_wp2
  go_loopg [10, 11] k (fun kq v10 v11 w' => ∃ (x10_1 : List (List Int)) (x11_1 : Int), v11 = .int .i64 x11_1 ∧ Aside0 (foghornref20_filled.l0 kq a0 a1 l2 l3 x10_1 x11_1 = some (r1, r2)) ∧ Aside0 (kq ≤ k) ∧ Aside0 (Kd.S (Kd.slice 5 (Kd.int .u8)) 29 w' w.heap.size (fun _ => True) v10 x10_1) ∧ Aside0 (Below w.heap.size w w'))
  case atStart => exact ⟨(([] : List (List Int))), (0), (by rfl), H', ⟨Nat.le_refl _⟩, ⟨by first | exact Kd.S_nil _ _ _ _ _ | exact Kd.N_nil _ _ _ _ _ | exact Kd.V_nil _ _ _ _ _ | exact Kd.Q_nil _ _ _ _ _ | exact Kd.R_nil _ _ _ _ _⟩, ⟨HB.out⟩⟩
  case round =>
   clear H'; (try clear c2); (try clear c3); (try clear c5); (try clear c5b0)
   obtain ⟨x10_1, x11_1, rfl, HA, HK1, HO_10, HB⟩ := hrel
   cases gk with
   | zero => exact absurd HA.out (by simp [foghornref20_filled.l0])
   | succ k1 =>
    have H := HA.out; clear HA
    simp only [foghornref20_filled.l0] at H
    by_cases c6 : x11_1 < (l2.length : Int)
    ·rw [if_pos c6] at H
     have c6b0 : decide (x11_1 < (l2.length : Int)) = true := decide_eq_true c6
     clear c6
     have H' := Aside0.mk H
     clear H
     go_wp2
     go_loopg [12, 13] k1 (fun kq v12 v13 w' => ∃ (x12_2 : List Int) (x13_2 : Int), v13 = .int .i64 x13_2 ∧ Aside0 (foghornref20_filled.l1 kq a0 a1 l2 l3 x10_1 x11_1 x12_2 x13_2 = some (r1, r2)) ∧ Aside0 (kq ≤ k1) ∧ Aside0 (Kd.S (Kd.slice 5 (Kd.int .u8)) 29 w' w.heap.size (fun k_ => some k_ ≠ (v12 : Value).ownBlock) u10 x10_1) ∧ Aside0 (Kd.R (Kd.int .u8) 5 w' w.heap.size (fun _ => True) v12 x12_2) ∧ Aside0 (Below w.heap.size w w'))
     case atStart => exact ⟨(([] : List Int)), (0), (by rfl), H', ⟨Nat.le_refl _⟩, ⟨by (with_reducible repeat (first | apply Kd.S_alloc | apply Kd.S_drewN | apply Kd.S_drew)); exact Kd.S_mono HO_10.out (fun _ hk => (by simp [Value.ownBlock]))⟩, ⟨by first | exact Kd.R_nil _ _ _ _ _ | exact Kd.N_nil _ _ _ _ _ | exact Kd.V_nil _ _ _ _ _ | exact Kd.Q_nil _ _ _ _ _ | exact Kd.S_nil _ _ _ _ _⟩, ⟨HB.out⟩⟩
     case round =>
      clear H'; (try clear c2); (try clear c3); (try clear c5); (try clear c5b0); (try clear c6); (try clear c6b0)
      obtain ⟨x12_2, x13_2, rfl, HA, HK2, HO_10, HO_12, HB⟩ := hrel
      cases gk with
      | zero => exact absurd HA.out (by simp [foghornref20_filled.l1])
      | succ k2 =>
       have H := HA.out; clear HA
       simp only [foghornref20_filled.l1] at H
       by_cases c7 : x13_2 < (l2.length : Int)
       ·rw [if_pos c7] at H
        have c7b0 : decide (x13_2 < (l2.length : Int)) = true := decide_eq_true c7
        clear c7
        by_cases c8 : 0 ≤ x13_2
        ·rw [if_pos c8] at H
         have c8b0 : decide (0 ≤ x13_2) = true := decide_eq_true c8
         clear c8; replace H := Option.bind_eq_some_iff.mp H
         obtain ⟨t1068, A90, H⟩ := H
         replace H : ((foghornref18_Power.f k2 t1068 x11_1).bind fun bt1069 => (if x12_2.length < 140737488355328 then (foghornref20_filled.l1 k2 a0 a1 l2 l3 x10_1 x11_1 (x12_2 ++ [bt1069.1]) (wrap64 (x13_2 + 1))) else (none))) = some (r1, r2) := H
         have A9 := Aside0.mk A90; clear A90; replace H := Option.bind_eq_some_iff.mp H
         obtain ⟨⟨t1069, t1070⟩, A100, H⟩ := H
         replace H : (if x12_2.length < 140737488355328 then (foghornref20_filled.l1 k2 a0 a1 l2 l3 x10_1 x11_1 (x12_2 ++ [t1069]) (wrap64 (x13_2 + 1))) else (none)) = some (r1, r2) := H
         have A10 := Aside0.mk A100; clear A100
         by_cases c11 : x12_2.length < 140737488355328
         ·rw [if_pos c11] at H
          have LMc11 := Aside0.mk c11; clear c11
          obtain ⟨y1071, hy1071⟩ : ∃ y_ : List Int, y_ = (x12_2 ++ [t1069]) := ⟨_, rfl⟩
          replace H : (foghornref20_filled.l1 k2 a0 a1 l2 l3 x10_1 x11_1 y1071 (wrap64 (x13_2 + 1))) = some (r1, r2) := by first | (rw [hy1071]; exact H) | exact H
          have Ny1071 := Aside0.mk hy1071; clear hy1071
          have H' := Aside0.mk H
          clear H
          have p1067 : 0 ≤ (x13_2 : Int) := of_decide_eq_true (by assumption)
          have q1067 : x13_2 < (l2.length : Int) := of_decide_eq_true (by assumption)
          obtain ⟨ad1067, e1067, hx1067_0⟩ := Kd.at_int HR2.out x13_2 p1067 q1067
          cases e1067
          replace hx1067_0 := (HB.out.cell (World.block_lt_of_cell? w _ hx1067_0)).trans hx1067_0; replace p1067 := eq_true p1067; replace q1067 := eq_true q1067
          go_wp2_with (first | ((with_reducible refine gate_callee (f := 98) rfl ?_); refine goesL_ (some 45) rfl rfl Try.func98 (by kernel_rfl) rfl #[.int .i64 (rd l2 x13_2), .int .i64 (a0.size : Int)] rfl (by (try simp only [List.map_toArray, List.map_cons, List.map_nil]); first | done | rfl | (simp only [List.length_drop, List.length_take]; rfl)) ?_; (with_reducible refine (foghornref20_x.calls k2 (rd l2 x13_2) (a0.size : Int) t1068 _ A9.out).mono ?_); rintro e w' ⟨rfl, ⟨nd, rfl⟩⟩; refine ⟨_, rfl, ?_⟩) | ((with_reducible refine gate_callee (f := 111) rfl ?_); refine goesL_ (some 47) rfl rfl Try.func111 (by kernel_rfl) rfl #[.int .u8 t1068, .int .i64 x11_1] rfl (by (try simp only [List.map_toArray, List.map_cons, List.map_nil]); first | done | rfl | (simp only [List.length_drop, List.length_take]; rfl)) ?_; (with_reducible refine (foghornref18_Power.calls k2 t1068 x11_1 t1069 t1070 _ A10.out).mono ?_); rintro e w' ⟨rfl, ⟨nd, rfl⟩⟩; refine ⟨_, rfl, ?_⟩) | ((with_reducible refine gate_builtin (b := .append) (xs := #[.tmp 50, .tmp 52]) rfl ?_); at_builtin; refine Kd.R_append (Kd.int .u8) (w0 := w) w.heap.size rfl (.tmp 50) (.tmp 52) 29 5 (.int .u8 0) 1 rfl Try.underlying29 info5 rfl (by decide) (by omega) u12 x12_2 t1069 [.int .u8 t1069] (fun _ => True) (fun _ => False) rfl rfl ?aP (fun _ hk => hk.elim) ?aF ?aO ?aB ?aS ?aL ?_; (case aP => exact rfl); (case aB => exact (by repeat (first | (with_reducible first | exact HB.out | apply below_alloc | apply pw_below_drewN | apply below_drew1) | exact HB.out))); (case aF => exact (fun _ _ => trivial)); (case aO => exact (by (with_reducible repeat (first | apply Kd.R_alloc | apply Kd.R_drewN | apply Kd.R_drew)); exact HO_12.out)); (case aS => exact (below_size (by repeat (first | (with_reducible first | exact HB.out | apply below_alloc | apply pw_below_drewN | apply below_drew1) | exact HB.out)))); (case aL => have := LMc11.out; omega); intro v1072 w12 ho hb hg hat; rw [← Ny1071.out] at ho; have n0_ := Aside0.mk (Kd.S_after (ok := (fun _ => True)) (by (with_reducible repeat (first | apply Kd.S_alloc | apply Kd.S_drewN | apply Kd.S_drew)); exact Kd.S_mono HO_10.out (fun _ hk => ⟨trivial, hk⟩)) hg hat); have n1_ := Aside0.mk (hb); have n2_ := Aside0.mk (ho); clear HO_10; clear HB; clear HO_12; have HO_10 := n0_; have HB := n1_; have HO1073 := n2_; clear n0_ n1_ n2_; clear ho hb hg hat))
          first | go_roundg k2 | (simp only [add_plain] at *; go_roundg k2)
          case measure => have := HK1.out; have := HK2.out; omega
          case rel => exact ⟨(y1071), (wrap64 (x13_2 + 1)), (by rfl), H', ⟨by have := HK1.out; have := HK2.out; omega⟩, ⟨by (with_reducible repeat (first | apply Kd.S_alloc | apply Kd.S_drewN | apply Kd.S_drew)); exact Kd.S_mono HO_10.out (fun _ hk => hk.2)⟩, ⟨by (with_reducible repeat (first | apply Kd.R_alloc | apply Kd.R_drewN | apply Kd.R_drew)); exact HO1073.out⟩, ⟨HB.out⟩⟩
         ·rw [if_neg c11] at H
          exact absurd H (by simp)
        ·rw [if_neg c8] at H
         exact absurd H (by simp)
       ·rw [if_neg c7] at H
        have c7b0 : decide (x13_2 < (l2.length : Int)) = false := decide_eq_false c7
        clear c7
        by_cases c13 : x10_1.length < 5864062014805
        ·rw [if_pos c13] at H
         have LMc13 := Aside0.mk c13; clear c13
         obtain ⟨y1074, hy1074⟩ : ∃ y_ : List (List Int), y_ = (x10_1 ++ [x12_2]) := ⟨_, rfl⟩
         replace H : (foghornref20_filled.l0 k2 a0 a1 l2 l3 y1074 (wrap64 (x11_1 + 1))) = some (r1, r2) := by first | (rw [hy1074]; exact H) | exact H
         have Ny1074 := Aside0.mk hy1074; clear hy1074
         have H' := Aside0.mk H
         clear H
         obtain ⟨Ao15, co15, eo15⟩ := Kd.R_slice HO_12.out
         subst eo15
         go_wp2_with (first | ((with_reducible refine gate_builtin (b := .append) (xs := #[.tmp 54, .tmp 56]) rfl ?_); at_builtin; refine Kd.S_append (Kd.slice 5 (Kd.int .u8)) (w0 := w) w.heap.size rfl (.tmp 54) (.tmp 56) 130 29 (.slice none 0 0) 24 rfl Try.underlying130 info29 rfl (by decide) (by omega) u10 x10_1 x12_2 [.slice Ao15 x12_2.length co15] (fun _ => True) (fun k_ => some k_ = (.slice Ao15 x12_2.length co15 : Value).ownBlock) rfl rfl ?aP (fun k_ hk_ => ((Kd.R_mono (ok' := fun k_ => ((fun _ => True)) k_ ∧ some k_ ≠ (u10 : Value).ownBlock) (Kd.R_apart' HO_12.out (Kd.S_typed HO_10.out) (by decide)) (fun k_ hk => ⟨trivial, hk.2⟩))).1 k_ hk_.symm) ?aF ?aO ?aB ?aS ?aL ?_; (case aP => exact Kd.M_row (Kd.R_mono (Kd.R_tight rfl (Kd.R_mono (ok' := fun k_ => ((fun _ => True)) k_ ∧ some k_ ≠ (u10 : Value).ownBlock) (Kd.R_apart' HO_12.out (Kd.S_typed HO_10.out) (by decide)) (fun k_ hk => ⟨trivial, hk.2⟩))) (fun _ h_ => h_))); (case aB => exact HB.out); (case aF => exact (fun _ _ => trivial)); (case aO => exact (by (with_reducible repeat (first | apply Kd.S_alloc | apply Kd.S_drewN | apply Kd.S_drew)); exact Kd.S_mono HO_10.out (fun k_ hk => ⟨trivial, fun e_ => hk e_⟩))); (case aS => exact (below_size HB.out)); (case aL => have := LMc13.out; omega); intro v1075 w14 ho hb hg hat; rw [← Ny1074.out] at ho; have n0_ := Aside0.mk (hb); have n1_ := Aside0.mk (ho); clear HB HO_10 HO_12; have HB := n0_; have HO1076 := n1_; clear n0_ n1_; clear ho hb hg hat))
         first | go_roundg k2 | (simp only [add_plain] at *; go_roundg k2)
         case measure => have := HK1.out; have := HK2.out; omega
         case rel => exact ⟨(y1074), (wrap64 (x11_1 + 1)), (by rfl), H', ⟨by have := HK1.out; have := HK2.out; omega⟩, ⟨by (with_reducible repeat (first | apply Kd.S_alloc | apply Kd.S_drewN | apply Kd.S_drew)); exact HO1076.out⟩, ⟨HB.out⟩⟩
        ·rw [if_neg c13] at H
         exact absurd H (by simp)
    ·rw [if_neg c6] at H
     have c6b0 : decide (x11_1 < (l2.length : Int)) = false := decide_eq_false c6
     clear c6
     obtain ⟨y1077, hy1077⟩ : ∃ y_ : List Int, y_ = (([] : List Int)) := ⟨_, rfl⟩
     replace H : (if 0 ≤ (l2.length : Int) then (if (l2.length : Int) ≤ (l3.length : Int) then (if y1077.length + (l3.take ((l2.length : Int) : Int).toNat).length < 140737488355328 then ((foghornref20_solve.f k1 x10_1 (y1077 ++ (l3.take ((l2.length : Int) : Int).toNat))).bind fun bt1084 => (if bt1084.2 = true then (if a0.size ≤ 9223372036854775807 then (foghornref20_filled.l2 k1 a1 l2 bt1084.1 (bytesOf a0) 0) else (none)) else (some ((⟨#[]⟩ : ByteArray), false)))) else (none)) else (none)) else (none)) = some (r1, r2) := by first | (rw [hy1077]; exact H) | exact H
     have Ny1077 := Aside0.mk hy1077; clear hy1077
     by_cases c16 : 0 ≤ (l2.length : Int)
     ·rw [if_pos c16] at H
      have c16b0 := eq_true c16
      have c16b1 : decide (0 ≤ (l2.length : Int)) = true := decide_eq_true c16
      clear c16
      by_cases c17 : (l2.length : Int) ≤ (l3.length : Int)
      ·rw [if_pos c17] at H
       have c17b0 := eq_true c17
       have c17b1 : decide ((l2.length : Int) ≤ (l3.length : Int)) = true := decide_eq_true c17
       clear c17
       by_cases c18 : y1077.length + (l3.take ((l2.length : Int) : Int).toNat).length < 140737488355328
       ·rw [if_pos c18] at H
        have LMc18 := Aside0.mk c18; clear c18
        obtain ⟨y1081, hy1081⟩ : ∃ y_ : List Int, y_ = (y1077 ++ (l3.take ((l2.length : Int) : Int).toNat)) := ⟨_, rfl⟩
        replace H : ((foghornref20_solve.f k1 x10_1 y1081).bind fun bt1084 => (if bt1084.2 = true then (if a0.size ≤ 9223372036854775807 then (foghornref20_filled.l2 k1 a1 l2 bt1084.1 (bytesOf a0) 0) else (none)) else (some ((⟨#[]⟩ : ByteArray), false)))) = some (r1, r2) := by first | (rw [hy1081]; exact H) | exact H
        have Ny1081 := Aside0.mk hy1081; clear hy1081; replace H := Option.bind_eq_some_iff.mp H
        obtain ⟨⟨t1084, t1085⟩, A190, H⟩ := H
        replace H : (if t1085 = true then (if a0.size ≤ 9223372036854775807 then (foghornref20_filled.l2 k1 a1 l2 t1084 (bytesOf a0) 0) else (none)) else (some ((⟨#[]⟩ : ByteArray), false))) = some (r1, r2) := H
        have A19 := Aside0.mk A190; clear A190
        by_cases c20 : t1085 = true
        ·subst c20
         have H1 : (if a0.size ≤ 9223372036854775807 then (foghornref20_filled.l2 k1 a1 l2 t1084 (bytesOf a0) 0) else (none)) = some (r1, r2) := by rw [if_pos rfl] at H; exact H
         clear H; have H := H1; clear H1
         by_cases c21 : a0.size ≤ 9223372036854775807
         ·rw [if_pos c21] at H
          have c21b0 := eq_true c21
          have c21b1 : decide (a0.size ≤ 9223372036854775807) = true := decide_eq_true c21
          try have c21b2 : (9223372036854775807 < a0.size) = False := eq_false (Nat.not_lt.2 c21)
          clear c21
          obtain ⟨y1088, hy1088⟩ : ∃ y_ : List Int, y_ = (bytesOf a0) := ⟨_, rfl⟩
          replace H : (foghornref20_filled.l2 k1 a1 l2 t1084 y1088 0) = some (r1, r2) := by first | (rw [hy1088]; exact H) | exact H
          have Ny1088 := Aside0.mk hy1088; clear hy1088
          have H' := Aside0.mk H
          clear H
          go_wp2_with (first | ((with_reducible refine gate_dst (N := 60) rfl ?_); refine Kd.R_lit (Kd.int .u8) _ 5 ?hg (N := 60) ?hd (xs := ([] : List Int)) (inner := []) (ok := fun _ => True) (okp := fun _ => True) ?hr ?hp (fun _ hk => hk) trivial (Below.refl _ _) (Nat.le_refl _) (by simp) ?_; (case hd => rfl); (case hg => rfl); (case hr => first | (go_simp; done) | (go_simp; rfl)); (case hp => exact (Reps.none _ _)); intro v1078 w22 ho23 hb hg_ hnew_; clear hg_ hnew_; (first | rw [← Ny1077.out] at ho23 | (simp only [Int.reduceToNat] at ho23; rw [← Ny1077.out] at ho23)); have n0_ := Aside0.mk (Kd.S_elder' HO_10.out (Kd.R_base ho23) hb); have n1_ := Aside0.mk (Kd.R_lower ho23 (below_size HB.out)); have n2_ := Aside0.mk (below_step HB.out hb); clear HO_10 HB; have HO_10 := n0_; have HO1079 := n1_; have HB := n2_; clear n0_ n1_ n2_ hb ho23; obtain ⟨i024, hi024, _, hsz24, _⟩ := info_parts info5; obtain ⟨hcut24, hA24, hC24⟩ := print_take_of (P := Try.prog) (Value.int .u8) 0 29 5 .i64 Try.underlying29 hi024 hsz24 A3 c3 l3 (l2.length : Int) (of_decide_eq_true (by assumption)) (of_decide_eq_true (by assumption)) HC3.out; have HR1080 := Aside0.mk (Kd.C_of_reads (h1 := fun _ => rfl) (hA24 _ (Kd.reads_of_C HR3.out))); have HC1080 := Aside0.mk hC24; clear hA24 hC24 hi024 hsz24) | ((with_reducible refine gate_builtin (b := .append) (xs := #[.tmp 60, .tmp 64]) rfl ?_); at_builtin; refine Kd.R_append_rows (Kd.int .u8) (w0 := w) w.heap.size rfl (.tmp 60) (.tmp 64) 29 5 (.int .u8 0) 1 rfl Try.underlying29 info5 rfl (by decide) (by omega) v1078 y1077 (l3.take ((l2.length : Int) : Int).toNat) _ _ _ (fun _ => True) (fun _ => False) rfl rfl ?aO ?aR (fun _ _ h => h) (fun _ h => h.elim) ?aF ?aB ?aS ?aL ?_; (case aR => first | (refine reads_len (show (l3.take ((l2.length : Int) : Int).toNat).length = (l2.length : Int).toNat from (by rw [List.length_take]; have h_ : ((l2.length : Int) : Int) ≤ (l3.length : Int) := (by first | exact of_decide_eq_true (by assumption)); omega)) ?_; repeat (first | exact (Kd.C_below HR1080.out HB.out) | (with_reducible refine Kd.C_alloc ?_ _) | (with_reducible refine Kd.C_drewN ?_ _) | (with_reducible refine Kd.C_drew ?_))) | (refine reads_len (m := (l3.take ((l2.length : Int) : Int).toNat).length) (by simp only [List.length_take, Int.toNat_natCast]) ?_; (exact (Kd.C_below HR1080.out HB.out))) | (repeat (first | exact (Kd.C_below HR1080.out HB.out) | (with_reducible refine Kd.C_alloc ?_ _) | (with_reducible refine Kd.C_drewN ?_ _) | (with_reducible refine Kd.C_drew ?_)))); (case aB => exact HB.out); (case aF => exact (fun _ _ => trivial)); (case aO => exact HO1079.out); (case aS => exact (below_size HB.out)); (case aL => have := LMc18.out; have hlx_ := (show (l3.take ((l2.length : Int) : Int).toNat).length = (l2.length : Int).toNat from (by rw [List.length_take]; have h_ : ((l2.length : Int) : Int) ≤ (l3.length : Int) := (by first | exact of_decide_eq_true (by assumption)); omega)); omega); intro v1082 w25 ho hb hg hat; rw [← Ny1081.out] at ho; have n0_ := Aside0.mk (Kd.S_after (ok := (fun _ => True)) HO_10.out hg hat); have n1_ := Aside0.mk (hb); have n2_ := Aside0.mk (ho); clear HO_10 HB HO1079; have HO_10 := n0_; have HB := n1_; have HO1083 := n2_; clear n0_ n1_ n2_ ho hb hg hat; obtain ⟨Ao26, co26, eo26⟩ := Kd.S_slice HO_10.out; subst eo26; obtain ⟨Ao27, co27, eo27⟩ := Kd.R_slice HO1083.out; subst eo27) | ((with_reducible refine gate_callee (f := 109) rfl ?_); refine goesL_ (some 66) rfl rfl Try.func109 (by kernel_rfl) rfl #[.slice Ao26 x10_1.length co26, .slice Ao27 y1081.length co27] rfl (by (try simp only [List.map_toArray, List.map_cons, List.map_nil]); first | done | rfl | (simp only [List.length_drop, List.length_take]; rfl)) ?_; (with_reducible refine (foghornref20_solve.own k1 w.heap.size w _ _ _ x10_1 y1081 t1084 true _ _ HO_10.out HO1083.out (fun k_ hk => by first | exact hk | exact hk.1 | exact hk.2 | exact hk.1.1 | exact hk.1.2 | exact hk.2.1 | exact hk.2.2) HB.out A19.out).mono ?_); rintro e w28 ⟨v1086, rfl, ho0, hb⟩; refine ⟨_, rfl, ?_⟩; clear HO_10 HO1083 HB; have HO1087 := Aside0.mk ho0; have HB := Aside0.mk hb; clear ho0 hb) | ((with_reducible refine gate_dst (N := 72) rfl ?_); refine ConvW.Q_conv rfl (N := 72) rfl 9 29 5 (.tmp 71) rfl Try.underlying9 Try.underlying29 Try.underlying5 _ (s := a0) rfl (ok := fun _ => True) trivial (Below.refl _ _) (Nat.le_refl _) (of_decide_eq_true (by assumption)) ?_; intro v1089 w29 ho30 hb hg_ hnew_; clear hg_ hnew_; (first | rw [← Ny1088.out] at ho30 | (simp only [Int.reduceToNat] at ho30; rw [← Ny1088.out] at ho30)); have n2_ := Aside0.mk (Kd.R_elder' HO1087.out (Kd.Q_base ho30) hb); have n3_ := Aside0.mk (Kd.Q_lower (Kd.Q_new' ho30 (Kd.R_lt HO1087.out)) (below_size HB.out)); have n4_ := Aside0.mk (below_step HB.out hb); clear HO1087 HB; have HO1087 := n2_; have HO1090 := n3_; have HB := n4_; clear n2_ n3_ n4_; clear hb ho30))
          go_loopg [19] k1 (fun kq v19 w' => ∃ (x18_2 : List Int) (x19_2 : Int), v19 = .int .i64 x19_2 ∧ Aside0 (foghornref20_filled.l2 kq a1 l2 t1084 x18_2 x19_2 = some (r1, r2)) ∧ Aside0 (kq ≤ k1) ∧ Aside0 (Kd.R (Kd.int .u8) 5 w' w.heap.size (fun k_ => some k_ ≠ (v1089 : Value).ownBlock) v1086 t1084) ∧ Aside0 (Kd.Q (Kd.int .u8) 5 w' w.heap.size (fun k_ => some k_ ≠ (v1086 : Value).ownBlock) v1089 x18_2) ∧ Aside0 (Below w.heap.size w w'))
          case atStart => exact ⟨(y1088), (0), (by rfl), H', ⟨Nat.le_refl _⟩, ⟨by (with_reducible repeat (first | apply Kd.R_alloc | apply Kd.R_drewN | apply Kd.R_drew)); exact Kd.R_mono HO1087.out (fun _ hk => hk.2)⟩, ⟨by (with_reducible repeat (first | apply Kd.Q_alloc | apply Kd.Q_drewN | apply Kd.Q_drew)); exact Kd.Q_mono HO1090.out (fun _ hk => hk.2)⟩, ⟨HB.out⟩⟩
          case round =>
           clear H'; (try clear c2); (try clear c3); (try clear c5); (try clear c5b0); (try clear c6); (try clear c6b0); (try clear c7); (try clear c7b0); (try clear c8); (try clear c8b0); (try clear c11); (try clear c13); (try clear c16); (try clear c16b0); (try clear c16b1); (try clear c17); (try clear c17b0); (try clear c17b1); (try clear c18); (try clear c20); (try clear c21); (try clear c21b0); (try clear c21b1); (try clear c21b2); (try clear hx1067_0); (try clear p1067); (try clear q1067)
           obtain ⟨x18_2, x19_2, rfl, HA, HK2, HO_16, HO_18, HB⟩ := hrel
           cases gk with
           | zero => exact absurd HA.out (by simp [foghornref20_filled.l2])
           | succ k2 =>
            have H := HA.out; clear HA
            simp only [foghornref20_filled.l2] at H
            by_cases c31 : x19_2 < (l2.length : Int)
            ·rw [if_pos c31] at H
             have c31b0 : decide (x19_2 < (l2.length : Int)) = true := decide_eq_true c31
             clear c31
             by_cases c32 : 0 ≤ x19_2
             ·rw [if_pos c32] at H
              have c32b0 : decide (0 ≤ x19_2) = true := decide_eq_true c32
              clear c32
              by_cases c33 : 0 ≤ (rd l2 x19_2)
              ·rw [if_pos c33] at H
               have c33b0 : decide (0 ≤ (rd l2 x19_2)) = true := decide_eq_true c33
               clear c33
               by_cases c34 : (rd l2 x19_2) < (x18_2.length : Int)
               ·rw [if_pos c34] at H
                have c34b0 : decide ((rd l2 x19_2) < (x18_2.length : Int)) = true := decide_eq_true c34
                clear c34
                by_cases c35 : x19_2 < (t1084.length : Int)
                ·rw [if_pos c35] at H
                 have c35b0 : decide (x19_2 < (t1084.length : Int)) = true := decide_eq_true c35
                 clear c35
                 obtain ⟨y1095, hy1095⟩ : ∃ y_ : List Int, y_ = (x18_2.set ((rd l2 x19_2) : Int).toNat (Go.bits .xor .u8 (rd x18_2 (rd l2 x19_2)) (rd t1084 x19_2))) := ⟨_, rfl⟩
                 replace H : (foghornref20_filled.l2 k2 a1 l2 t1084 y1095 (wrap64 (x19_2 + 1))) = some (r1, r2) := by first | (rw [hy1095]; exact H) | exact H
                 have Ny1095 := Aside0.mk hy1095; clear hy1095
                 have H' := Aside0.mk H
                 clear H
                 try go_wp2
                 have n0_ := Aside0.mk (Kd.R_drew HO_16.out); have n1_ := Aside0.mk (Kd.Q_drew HO_18.out); have n2_ := Aside0.mk (below_drew1 HB.out); clear HO_16; clear HO_18; clear HB; have HO_16 := n0_; have HO_18 := n1_; have HB := n2_; clear n0_ n1_ n2_
                 have p1091 : 0 ≤ (x19_2 : Int) := of_decide_eq_true (by assumption)
                 have q1091 : x19_2 < (l2.length : Int) := of_decide_eq_true (by assumption)
                 obtain ⟨ad1091, e1091, hx1091_0⟩ := Kd.at_int HR2.out x19_2 p1091 q1091
                 have hw1091_0 := hx1091_0
                 cases e1091
                 replace hx1091_0 := (HB.out.cell (World.block_lt_of_cell? w _ hx1091_0)).trans hx1091_0; replace p1091 := eq_true p1091; replace q1091 := eq_true q1091
                 have p1092 : 0 ≤ (x19_2 : Int) := of_decide_eq_true (by assumption)
                 have q1092 : x19_2 < (l2.length : Int) := of_decide_eq_true (by assumption)
                 obtain ⟨ad1092, e1092, hx1092_0⟩ := Kd.at_int HR2.out x19_2 p1092 q1092
                 have hw1092_0 := hx1092_0
                 obtain rfl : ad1091 = ad1092 := (by injection e1092)
                 replace hx1092_0 := (HB.out.cell (World.block_lt_of_cell? w _ hx1092_0)).trans hx1092_0; replace p1092 := eq_true p1092; replace q1092 := eq_true q1092
                 obtain ⟨Ao38, co38, eo38, _⟩ := Kd.Q_slice HO_18.out
                 (first | subst eo38 | (injection eo38 with f1_ f2_ f3_; have f4_ := f1_.symm; have f5_ := f3_.symm; clear f1_ f2_ f3_; subst f4_; subst f5_))
                 have p1093 : 0 ≤ ((rd l2 x19_2) : Int) := of_decide_eq_true (by assumption)
                 have q1093 : (rd l2 x19_2) < (x18_2.length : Int) := of_decide_eq_true (by assumption)
                 obtain ⟨ad1093, e1093, hx1093_0⟩ := Kd.at_int (Kd.Q_reads' HO_18.out).2.2 (rd l2 x19_2) p1093 q1093
                 cases e1093
                 replace p1093 := eq_true p1093; replace q1093 := eq_true q1093
                 obtain ⟨Ao39, co39, eo39⟩ := Kd.R_slice HO_16.out
                 (first | subst eo39 | (injection eo39 with f1_ f2_ f3_; have f4_ := f1_.symm; have f5_ := f3_.symm; clear f1_ f2_ f3_; subst f4_; subst f5_))
                 have p1094 : 0 ≤ (x19_2 : Int) := of_decide_eq_true (by assumption)
                 have q1094 : x19_2 < (t1084.length : Int) := of_decide_eq_true (by assumption)
                 obtain ⟨ad1094, e1094, hx1094_0⟩ := Kd.at_int (Kd.R_reads' HO_16.out).2.2 x19_2 p1094 q1094
                 cases e1094
                 replace p1094 := eq_true p1094; replace q1094 := eq_true q1094
                 have p36 : 0 ≤ ((rd l2 x19_2) : Int) := of_decide_eq_true (by assumption)
                 have q36 : ((rd l2 x19_2) : Int) < ((x18_2.length : Int) : Int) := of_decide_eq_true (by assumption)
                 obtain ⟨go36, oo36, co36, eo36, gb36, gl36, cl36, HG36⟩ := Kd.Q_form HO_18.out (by omega)
                 (first | cases eo36 | (injection eo36 with ea_ en_ ec_; (first | subst ea_ | (injection ea_ with ea_; subst ea_)); subst ec_; clear en_))
                 have GB36 := Aside0.mk gb36; have GG36 := Aside0.mk HG36; clear gb36 gl36 HG36
                 (first | simp only [add_at] at hx1093_0 | skip)
                 obtain ⟨hx36_0, hf36_0⟩ := Kd.Q_cell 0 HO_18.out ((rd l2 x19_2) : Int) p36 q36
                 replace p36 := eq_true p36; replace q36 := eq_true q36
                 have HP40 := (Kd.Q_putg HO_18.out ((rd l2 x19_2) : Int) (of_decide_eq_true (by assumption)) (by have h_ : ((rd l2 x19_2) : Int) < ((x18_2.length : Int) : Int) := of_decide_eq_true (by assumption); first | exact h_ | (have e_ := (Kd.Q_reads' HO_18.out).1; omega) | simpa using h_) (Go.bits .xor .u8 (rd x18_2 (rd l2 x19_2)) (rd t1084 x19_2))).1
                 rw [← Ny1095.out] at HP40
                 have HQ40 := Aside0.mk HP40; clear HP40
                 refine start_ (n := 19) (S := fun w' => w'.cell? (ad1091.add (x19_2).toNat) = some (.int .i64 (rd l2 x19_2)) ∧ w'.cell? (ad1091.add (x19_2).toNat) = some (.int .i64 (rd l2 x19_2)) ∧ w'.cell? ⟨go36, oo36 + ((rd l2 x19_2)).toNat, none⟩ = some (.int .u8 (rd x18_2 (rd l2 x19_2))) ∧ w'.cell? (ad1094.add (x19_2).toNat) = some (.int .u8 (rd t1084 x19_2))) (ds := [18]) #[false, false, false, false, false, false, false, false, false, false, false, false, false, false, false, false, false, false, false] (by kernel_rfl) rfl rfl ⟨((HB.out.cell (World.block_lt_of_cell? w _ hw1091_0)).trans hw1091_0), ((HB.out.cell (World.block_lt_of_cell? w _ hw1092_0)).trans hw1092_0), hx1093_0, hx1094_0⟩ (fun hHeld => ?_); refine with_tabW foghornref20_filled.tab21 foghornref20_filled.bits21 (fun HT_ HW_ => ?_)
                 generalize wr.drew = w37 at HO_16 HO_18 HB GG36 HQ40 hf36_0 hx1091_0 hx1092_0 hx1093_0 hx1094_0 hx36_0 hHeld ⊢
                 refine pz_ 0 79 ?_ D94n0_ rfl rfl (any_of HT_.out (by kernel_rfl)) ?_ ?_ ?_ ?_; rotate_left; intro w'; go_simp; with_reducible rfl; rotate_left; simp only [nm_]; rfl
                 refine pz_ 1 80 ?_ D94n1_ rfl rfl (any_of HT_.out (by kernel_rfl)) ?_ ?_ ?_ ?_; rotate_left; intro w'; go_simp; with_reducible rfl; rotate_left; simp only [nm_]; rfl
                 refine pz_ 2 81 ?_ D94n2_ rfl rfl (any_of HT_.out (by kernel_rfl)) ?_ ?_ ?_ ?_; rotate_left; intro w'; go_simp; with_reducible rfl; rotate_left; simp only [nm_]; rfl
                 refine pz_ 3 82 ?_ D94n3_ rfl rfl (any_of HT_.out (by kernel_rfl)) ?_ ?_ ?_ ?_; rotate_left; intro w'; go_simp; with_reducible rfl; rotate_left; simp only [nm_]; rfl
                 refine pz_ 5 84 ?_ D94n4_ rfl rfl (any_of HT_.out (by kernel_rfl)) ?_ ?_ ?_ ?_; rotate_left; intro w'; go_simp; with_reducible rfl; rotate_left; simp only [nm_]; rfl
                 refine pz_ 6 85 ?_ D94n5_ rfl rfl (any_of HT_.out (by kernel_rfl)) ?_ ?_ ?_ ?_; rotate_left; intro w'; go_simp; with_reducible rfl; rotate_left; simp only [nm_]; rfl
                 refine pz_ 7 86 ?_ D94n6_ rfl rfl (any_of HT_.out (by kernel_rfl)) ?_ ?_ ?_ ?_; rotate_left; intro w'; go_simp; with_reducible rfl; rotate_left; simp only [nm_]; rfl
                 refine pz_ 8 87 ?_ D94n7_ rfl rfl (any_of HT_.out (by kernel_rfl)) ?_ ?_ ?_ ?_; rotate_left; intro w'; go_simp; with_reducible rfl; rotate_left; simp only [nm_]; rfl
                 refine pz_ 12 91 ?_ D94n8_ rfl rfl (any_of HT_.out (by kernel_rfl)) ?_ ?_ ?_ ?_; rotate_left; intro w'; go_simp; with_reducible rfl; rotate_left; simp only [nm_]; rfl
                 refine pz_ 13 92 ?_ D94n9_ rfl rfl (any_of HT_.out (by kernel_rfl)) ?_ ?_ ?_ ?_; rotate_left; intro w'; go_simp; with_reducible rfl; rotate_left; simp only [nm_]; rfl
                 refine pz_ 14 93 ?_ D94n10_ rfl rfl (any_of HT_.out (by kernel_rfl)) ?_ ?_ ?_ ?_; rotate_left; intro w'; go_simp; with_reducible rfl; rotate_left; simp only [nm_]; rfl
                 refine tz_ 4 83 ?_ D94n11_ rfl rfl (take_ofW HT_.out HW_.out (by kernel_rfl)) ?_ hHeld ?_ ?_ ?_; rotate_left; rintro w' ⟨s0, s1, s2, s3⟩; go_simp; with_reducible rfl; rotate_left; simp only [nm_]; rfl
                 refine tz_ 9 88 ?_ D94n12_ rfl rfl (take_ofW HT_.out HW_.out (by kernel_rfl)) ?_ hHeld ?_ ?_ ?_; rotate_left; rintro w' ⟨s0, s1, s2, s3⟩; go_simp; with_reducible rfl; rotate_left; simp only [nm_]; rfl
                 refine pz_ 10 89 ?_ D94n13_ rfl rfl (any_of HT_.out (by kernel_rfl)) ?_ ?_ ?_ ?_; rotate_left; intro w'; go_simp; with_reducible rfl; rotate_left; simp only [nm_]; rfl
                 refine tz_ 11 90 ?_ D94n14_ rfl rfl (take_ofW HT_.out HW_.out (by kernel_rfl)) ?_ hHeld ?_ ?_ ?_; rotate_left; rintro w' ⟨s0, s1, s2, s3⟩; go_simp; with_reducible rfl; rotate_left; simp only [nm_]; rfl
                 refine tz_ 15 94 ?_ D94n15_ rfl rfl (take_ofW HT_.out HW_.out (by kernel_rfl)) ?_ hHeld ?_ ?_ ?_; rotate_left; rintro w' ⟨s0, s1, s2, s3⟩; go_simp; with_reducible rfl; rotate_left; simp only [nm_]; rfl
                 refine pz_ 16 95 ?_ D94n16_ rfl rfl (any_of HT_.out (by kernel_rfl)) ?_ ?_ ?_ ?_; rotate_left; intro w'; go_simp; with_reducible rfl; rotate_left; simp only [nm_]; rfl
                 refine pz_ 17 96 ?_ D94n17_ rfl rfl (any_of HT_.out (by kernel_rfl)) ?_ ?_ ?_ ?_; rotate_left; intro w'; go_simp; with_reducible rfl; rotate_left; simp only [nm_]; rfl
                 refine last_ (i := 18) (N := none) #[true, true, true, true, true, true, true, true, true, true, true, true, true, true, true, true, true, true, true] rfl rfl (one_of HT_.out (by kernel_rfl)) (by decide) (fun K hK => ?_)
                 refine skip_ (w1 := ?_) (by rfl) rfl ?_ ?_
                 rotate_left
                 ·go_simp
                  rfl
                 refine hK.out _ _ ?_
                 clear hK K
                 refine done_ (done_of HT_.out (by kernel_rfl)) ?_
                 try go_wp2
                 first | go_roundg k2 | (simp only [add_plain] at *; go_roundg k2)
                 case measure => have := HK1.out; have := HK2.out; omega
                 case rel => exact ⟨(y1095), (wrap64 (x19_2 + 1)), (by rfl), H', ⟨by have := HK1.out; have := HK2.out; omega⟩, ⟨by (with_reducible repeat (first | apply Kd.R_alloc | apply Kd.R_drewN | apply Kd.R_drew)); exact Kd.R_mono (Kd.R_far (p := ⟨go36, oo36 + ((rd l2 x19_2) : Int).toNat, none⟩) (Kd.R_mono HO_16.out (fun k_ hk => (⟨hk, fun e_ => hk (by rw [e_]; rfl)⟩ : _ ∧ k_ ≠ go36))) (fun _ hk => hk.2) (.int .u8 (Go.bits .xor .u8 (rd x18_2 (rd l2 x19_2)) (rd t1084 x19_2)))) (fun _ hk => hk.1)⟩, ⟨by (with_reducible repeat (first | apply Kd.Q_alloc | apply Kd.Q_drewN | apply Kd.Q_drew)); exact HQ40.out⟩, ⟨by repeat (first | (with_reducible first | exact HB.out | apply below_alloc | apply pw_below_drewN | apply below_drew1 | refine below_set ?_ GB36.out) | exact HB.out)⟩⟩
                ·rw [if_neg c35] at H
                 exact absurd H (by simp)
               ·rw [if_neg c34] at H
                exact absurd H (by simp)
              ·rw [if_neg c33] at H
               exact absurd H (by simp)
             ·rw [if_neg c32] at H
              exact absurd H (by simp)
            ·rw [if_neg c31] at H
             have c31b0 : decide (x19_2 < (l2.length : Int)) = false := decide_eq_false c31
             clear c31; replace H := Option.bind_eq_some_iff.mp H
             obtain ⟨⟨t1096, t1097⟩, A410, H⟩ := H
             replace H : (some (strOfNums x18_2, t1096)) = some (r1, r2) := H
             have A41 := Aside0.mk A410; clear A410
             simp only [Option.some.injEq, Prod.mk.injEq] at H
             obtain ⟨rfl, rfl⟩ := H
             obtain ⟨Ao42, co42, eo42, _⟩ := Kd.Q_slice HO_18.out
             subst eo42; have hcv43 := Kd.C_string (P := Try.prog) (A := Ao42) (c := co42) Try.underlying29 Try.underlying5 Try.underlying9 (Kd.Q_reads' HO_18.out).2.2
             go_wp2_with (first | ((with_reducible refine gate_callee (f := 26) rfl ?_); refine goesL_ (some 101) rfl rfl Try.func26 (by kernel_rfl) rfl #[.string (strOfNums x18_2), .int .i64 a1] rfl (by (try simp only [List.map_toArray, List.map_cons, List.map_nil]); first | done | rfl | (simp only [List.length_drop, List.length_take]; rfl)) ?_; (with_reducible refine (foghornref19_Whole.calls k2 (strOfNums x18_2) a1 t1096 t1097 _ A41.out).mono ?_); rintro e w44 ⟨rfl, hb⟩; refine ⟨_, rfl, ?_⟩; have n0_ := Aside0.mk (Kd.R_below HO_16.out hb); have n1_ := Aside0.mk (Kd.Q_below HO_18.out hb); have n2_ := Aside0.mk (below_step HB.out hb); clear HO_16 HO_18 HB; have HO_16 := n0_; have HO_18 := n1_; have HB := n2_; clear n0_ n1_ n2_; (try clear hb); (try clear hk); have hcv45 := Kd.C_string (P := Try.prog) (A := Ao42) (c := co42) Try.underlying29 Try.underlying5 Try.underlying9 (Kd.Q_reads' HO_18.out).2.2))
             go_ret2
             exact ⟨by rfl, HB.out⟩
         ·rw [if_neg c21] at H
          exact absurd H (by simp)
        ·replace c20 := Bool.eq_false_iff.mpr c20
         subst c20
         have H1 : (some ((⟨#[]⟩ : ByteArray), false)) = some (r1, r2) := by rw [if_neg (show ¬ (false = true) by decide)] at H; exact H
         clear H; have H := H1; clear H1
         simp only [Option.some.injEq, Prod.mk.injEq] at H
         obtain ⟨rfl, rfl⟩ := H
         go_wp2_with (first | ((with_reducible refine gate_dst (N := 60) rfl ?_); refine Kd.R_lit (Kd.int .u8) _ 5 ?hg (N := 60) ?hd (xs := ([] : List Int)) (inner := []) (ok := fun _ => True) (okp := fun _ => True) ?hr ?hp (fun _ hk => hk) trivial (Below.refl _ _) (Nat.le_refl _) (by simp) ?_; (case hd => rfl); (case hg => rfl); (case hr => first | (go_simp; done) | (go_simp; rfl)); (case hp => exact (Reps.none _ _)); intro v1078 w46 ho47 hb hg_ hnew_; clear hg_ hnew_; (first | rw [← Ny1077.out] at ho47 | (simp only [Int.reduceToNat] at ho47; rw [← Ny1077.out] at ho47)); have n0_ := Aside0.mk (Kd.S_elder' HO_10.out (Kd.R_base ho47) hb); have n1_ := Aside0.mk (Kd.R_lower ho47 (below_size HB.out)); have n2_ := Aside0.mk (below_step HB.out hb); clear HO_10 HB; have HO_10 := n0_; have HO1079 := n1_; have HB := n2_; clear n0_ n1_ n2_ hb ho47; obtain ⟨i048, hi048, _, hsz48, _⟩ := info_parts info5; obtain ⟨hcut48, hA48, hC48⟩ := print_take_of (P := Try.prog) (Value.int .u8) 0 29 5 .i64 Try.underlying29 hi048 hsz48 A3 c3 l3 (l2.length : Int) (of_decide_eq_true (by assumption)) (of_decide_eq_true (by assumption)) HC3.out; have HR1080 := Aside0.mk (Kd.C_of_reads (h1 := fun _ => rfl) (hA48 _ (Kd.reads_of_C HR3.out))); have HC1080 := Aside0.mk hC48; clear hA48 hC48 hi048 hsz48) | ((with_reducible refine gate_builtin (b := .append) (xs := #[.tmp 60, .tmp 64]) rfl ?_); at_builtin; refine Kd.R_append_rows (Kd.int .u8) (w0 := w) w.heap.size rfl (.tmp 60) (.tmp 64) 29 5 (.int .u8 0) 1 rfl Try.underlying29 info5 rfl (by decide) (by omega) v1078 y1077 (l3.take ((l2.length : Int) : Int).toNat) _ _ _ (fun _ => True) (fun _ => False) rfl rfl ?aO ?aR (fun _ _ h => h) (fun _ h => h.elim) ?aF ?aB ?aS ?aL ?_; (case aR => first | (refine reads_len (show (l3.take ((l2.length : Int) : Int).toNat).length = (l2.length : Int).toNat from (by rw [List.length_take]; have h_ : ((l2.length : Int) : Int) ≤ (l3.length : Int) := (by first | exact of_decide_eq_true (by assumption)); omega)) ?_; repeat (first | exact (Kd.C_below HR1080.out HB.out) | (with_reducible refine Kd.C_alloc ?_ _) | (with_reducible refine Kd.C_drewN ?_ _) | (with_reducible refine Kd.C_drew ?_))) | (refine reads_len (m := (l3.take ((l2.length : Int) : Int).toNat).length) (by simp only [List.length_take, Int.toNat_natCast]) ?_; (exact (Kd.C_below HR1080.out HB.out))) | (repeat (first | exact (Kd.C_below HR1080.out HB.out) | (with_reducible refine Kd.C_alloc ?_ _) | (with_reducible refine Kd.C_drewN ?_ _) | (with_reducible refine Kd.C_drew ?_)))); (case aB => exact HB.out); (case aF => exact (fun _ _ => trivial)); (case aO => exact HO1079.out); (case aS => exact (below_size HB.out)); (case aL => have := LMc18.out; have hlx_ := (show (l3.take ((l2.length : Int) : Int).toNat).length = (l2.length : Int).toNat from (by rw [List.length_take]; have h_ : ((l2.length : Int) : Int) ≤ (l3.length : Int) := (by first | exact of_decide_eq_true (by assumption)); omega)); omega); intro v1082 w49 ho hb hg hat; rw [← Ny1081.out] at ho; have n0_ := Aside0.mk (Kd.S_after (ok := (fun _ => True)) HO_10.out hg hat); have n1_ := Aside0.mk (hb); have n2_ := Aside0.mk (ho); clear HO_10 HB HO1079; have HO_10 := n0_; have HB := n1_; have HO1083 := n2_; clear n0_ n1_ n2_ ho hb hg hat; obtain ⟨Ao50, co50, eo50⟩ := Kd.S_slice HO_10.out; subst eo50; obtain ⟨Ao51, co51, eo51⟩ := Kd.R_slice HO1083.out; subst eo51) | ((with_reducible refine gate_callee (f := 109) rfl ?_); refine goesL_ (some 66) rfl rfl Try.func109 (by kernel_rfl) rfl #[.slice Ao50 x10_1.length co50, .slice Ao51 y1081.length co51] rfl (by (try simp only [List.map_toArray, List.map_cons, List.map_nil]); first | done | rfl | (simp only [List.length_drop, List.length_take]; rfl)) ?_; (with_reducible refine (foghornref20_solve.own k1 w.heap.size w _ _ _ x10_1 y1081 t1084 false _ _ HO_10.out HO1083.out (fun k_ hk => by first | exact hk | exact hk.1 | exact hk.2 | exact hk.1.1 | exact hk.1.2 | exact hk.2.1 | exact hk.2.2) HB.out A19.out).mono ?_); rintro e w52 ⟨v1086, rfl, ho0, hb⟩; refine ⟨_, rfl, ?_⟩; clear HO_10 HO1083 HB; have HO1087 := Aside0.mk ho0; have HB := Aside0.mk hb; clear ho0 hb))
         go_ret2
         exact ⟨by rfl, HB.out⟩
       ·rw [if_neg c18] at H
        exact absurd H (by simp)
      ·rw [if_neg c17] at H
       exact absurd H (by simp)
     ·rw [if_neg c16] at H
      exact absurd H (by simp)
end Go.Proofs.Ytncoakokdajibaa.Q
