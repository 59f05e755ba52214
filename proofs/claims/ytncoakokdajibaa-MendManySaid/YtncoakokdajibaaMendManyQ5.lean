import Derived.Test.YtncoakokdajibaaMendManyStepW
import Derived.Test.YtncoakokdajibaaMendManyK0
import Derived.Test.YtncoakokdajibaaMendManyF1
import Derived.Test.YtncoakokdajibaaMendManyQ3
import Derived.Test.YtncoakokdajibaaMendManyQ4
-- Printed by myprint.py (ours) over the kit's printer, out of the translation.
namespace Go.Proofs.Ytncoakokdajibaa.Q
open Go.RowKit Go.Proofs.YtncoakokdajibaaW.PrintWords Go.Proofs.YtncoakokdajibaaW.PrintLast Go.Proofs.YtncoakokdajibaaW.PrintMore
attribute [local go_sem] ArrW.ptrOf_slice unary_neg_float unary_neg_complex run_store_float run_store_complex max2_int min2_int max_two min_two max_three min_three max_four min_four   -- for this text's walks alone
set_option linter.unusedVariables false
set_option linter.unusedSimpArgs false
def T5m0_ : Array Bool := (List.replicate 1 true ++ List.replicate 21 false).toArray
def T5m1_ : Array Bool := (List.replicate 2 true ++ List.replicate 20 false).toArray
def T5m2_ : Array Bool := (List.replicate 3 true ++ List.replicate 19 false).toArray
def T5m3_ : Array Bool := (List.replicate 4 true ++ List.replicate 18 false).toArray
def T5m4_ : Array Bool := (List.replicate 5 true ++ List.replicate 17 false).toArray
def T5m5_ : Array Bool := (List.replicate 6 true ++ List.replicate 16 false).toArray
def T5m6_ : Array Bool := (List.replicate 7 true ++ List.replicate 15 false).toArray
def T5m7_ : Array Bool := (List.replicate 7 true ++ List.replicate 1 false ++ List.replicate 1 true ++ List.replicate 13 false).toArray
def T5m8_ : Array Bool := (List.replicate 7 true ++ List.replicate 1 false ++ List.replicate 2 true ++ List.replicate 12 false).toArray
def T5m9_ : Array Bool := (List.replicate 7 true ++ List.replicate 1 false ++ List.replicate 3 true ++ List.replicate 11 false).toArray
def T5m10_ : Array Bool := (List.replicate 7 true ++ List.replicate 1 false ++ List.replicate 3 true ++ List.replicate 1 false ++ List.replicate 1 true ++ List.replicate 9 false).toArray
def T5m11_ : Array Bool := (List.replicate 7 true ++ List.replicate 1 false ++ List.replicate 3 true ++ List.replicate 1 false ++ List.replicate 2 true ++ List.replicate 8 false).toArray
def T5m12_ : Array Bool := (List.replicate 7 true ++ List.replicate 1 false ++ List.replicate 3 true ++ List.replicate 1 false ++ List.replicate 3 true ++ List.replicate 7 false).toArray
def T5m13_ : Array Bool := (List.replicate 7 true ++ List.replicate 1 false ++ List.replicate 3 true ++ List.replicate 1 false ++ List.replicate 3 true ++ List.replicate 1 false ++ List.replicate 1 true ++ List.replicate 5 false).toArray
def T5m14_ : Array Bool := (List.replicate 11 true ++ List.replicate 1 false ++ List.replicate 3 true ++ List.replicate 1 false ++ List.replicate 1 true ++ List.replicate 5 false).toArray
def T5m15_ : Array Bool := (List.replicate 15 true ++ List.replicate 1 false ++ List.replicate 1 true ++ List.replicate 5 false).toArray
def T5m16_ : Array Bool := (List.replicate 17 true ++ List.replicate 5 false).toArray
def T5m17_ : Array Bool := (List.replicate 20 true ++ List.replicate 2 false).toArray
def T5m18_ : Array Bool := (List.replicate 21 true ++ List.replicate 1 false).toArray
set_option maxHeartbeats 8000000 in
set_option maxRecDepth 100000 in
theorem foghornref20_Locator.calls (k : Nat) (A0 : Option Addr) (c0 : Nat) (l0 : List Int) (a1 : Int) (r1 : List Int) (r2 : Int) (w : World) (hr0 : Kd.C (Kd.int .i64) w A0 l0.length l0) (hc0 : l0.length ≤ c0) (h : foghornref20_Locator.f k l0 a1 = some (r1, r2)) :
  Calls Try.prog 59 #[.slice A0 l0.length c0, .int .i64 a1] w fun e w' => ∃ v0_ : Value, e = .returned (.tuple #[v0_, .int .i64 r2]) ∧ Kd.R (Kd.int .u8) 5 w' w.heap.size (fun _ => True) v0_ r1 ∧ Below w.heap.size w w' := by
 have HR0 := Aside0.mk hr0
 have HC0 := Aside0.mk hc0
 clear hr0 hc0
 have HB := Aside0.mk (Below.refl w.heap.size w)
 have H : (if a1 < 1 then (foghornref20_Locator.j0 k l0 a1 true) else (foghornref20_Locator.j0 k l0 a1 (decide (a1 > 255)))) = some (r1, r2) := h
 clear h
 have HC3 := Aside0.mk H
 clear H
 go_enter Try.func59, Try.ntmps59
 go_upto_region 1 with (fail)
 go_cut [17] (fun v17 wc => ∃ (kq : Nat) (x17_2 : Bool), v17 = .bool x17_2 ∧ Aside0 (foghornref20_Locator.j0 kq l0 a1 x17_2 = some (r1, r2)) ∧ Aside0 (kq ≤ k) ∧ Aside0 (Below w.heap.size w wc))
 case first =>
  have H := HC3.out
  clear HC3
  by_cases c4 : a1 < 1
  ·rw [if_pos c4] at H
   have c4b0 : decide (a1 < 1) = true := decide_eq_true c4
   clear c4
   (first | rw [c4b0] | (simp only [i64_w, i32_w]; rw [c4b0]) | skip)
   have H' := Aside0.mk H
   clear H
   go_wp2
   go_meet
   case rel => exact ⟨_, (true), (by rfl), H', ⟨by first | omega | exact Nat.le_refl _⟩, ⟨HB.out⟩⟩
  ·rw [if_neg c4] at H
   have c4b0 : decide (a1 < 1) = false := decide_eq_false c4
   clear c4
   (first | rw [c4b0] | (simp only [i64_w, i32_w]; rw [c4b0]) | skip)
   have H' := Aside0.mk H
   clear H
   go_wp2
   go_meet
   case rel => exact ⟨_, (decide (a1 > 255)), (by rfl), H', ⟨by first | omega | exact Nat.le_refl _⟩, ⟨HB.out⟩⟩
 case rest =>
  clear HC3
  try clear c4
  try clear c4b0
  obtain ⟨kq, x17_2, rfl, HA, HJ2, HB⟩ := hcut
  cases kq with
  | zero => exact absurd HA.out (by simp [foghornref20_Locator.j0])
  | succ kj2 =>
   have H := HA.out
   clear HA
   simp only [foghornref20_Locator.j0] at H
   by_cases c5 : x17_2 = true
   ·subst c5
    have H1 : (some (([] : List Int), 1)) = some (r1, r2) := by rw [if_pos rfl] at H; exact H
    clear H
    have H := H1
    clear H1
    simp only [Option.some.injEq, Prod.mk.injEq] at H
    obtain ⟨rfl, rfl⟩ := H
    go_wp2
    go_ret2
    exact ⟨_, by rfl, by first | exact Kd.R_nil _ _ _ _ _ | exact Kd.N_nil _ _ _ _ _ | exact Kd.V_nil _ _ _ _ _ | exact Kd.Q_nil _ _ _ _ _ | exact Kd.S_nil _ _ _ _ _, HB.out⟩
   ·replace c5 := Bool.eq_false_iff.mpr c5
    subst c5
    have H1 : ((foghornref20_places.f kj2 l0 a1).bind fun bt1018 => (if bt1018.2 = true then (foghornref20_Locator.l0 kj2 l0 a1 (([1] : List Int)) 0) else (some (([] : List Int), 1)))) = some (r1, r2) := by rw [if_neg (show ¬ (false = true) by decide)] at H; exact H
    clear H
    have H := H1
    clear H1
    replace H := Option.bind_eq_some_iff.mp H
    obtain ⟨⟨t1018, t1019⟩, A60, H⟩ := H
    replace H : (if t1019 = true then (foghornref20_Locator.l0 kj2 l0 a1 (([1] : List Int)) 0) else (some (([] : List Int), 1))) = some (r1, r2) := H
    have A6 := Aside0.mk A60
    clear A60
    by_cases c7 : t1019 = true
    ·subst c7
     have H1 : (foghornref20_Locator.l0 kj2 l0 a1 (([1] : List Int)) 0) = some (r1, r2) := by rw [if_pos rfl] at H; exact H
     clear H
     have H := H1
     clear H1
     obtain ⟨y1022, hy1022⟩ : ∃ y_ : List Int, y_ = (([1] : List Int)) := ⟨_, rfl⟩
     replace H : (foghornref20_Locator.l0 kj2 l0 a1 y1022 0) = some (r1, r2) := by first | (rw [hy1022]; exact H) | exact H
     have Ny1022 := Aside0.mk hy1022
     clear hy1022
     have H' := Aside0.mk H
     clear H
     go_wp2_with (first | ((with_reducible refine gate_callee (f := 97) rfl ?_); refine goesL_ (some 21) rfl rfl Try.func97 (by kernel_rfl) rfl #[.slice A0 l0.length c0, .int .i64 a1] rfl (by (try simp only [List.map_toArray, List.map_cons, List.map_nil]); first | done | rfl | (simp only [List.length_drop, List.length_take]; rfl)) ?_; (with_reducible refine (foghornref20_places.calls kj2 _ _ l0 a1 t1018 true _ ?side1 ?side2 A6.out).mono ?_); (case side1 => exact (Kd.C_below HR0.out HB.out)); (case side2 => exact HC0.out); rintro e w8 ⟨v1020, rfl, ho0, hb⟩; refine ⟨_, rfl, ?_⟩; have n0_ := Aside0.mk (Kd.R_lower ho0 (below_size HB.out)); have n1_ := Aside0.mk (below_step HB.out hb); clear HB; have HO1021 := n0_; have HB := n1_; clear n0_ n1_; (try clear hb); (try clear hk); (try clear ho0)) | ((with_reducible refine gate_dst (N := 26) rfl ?_); refine Kd.R_lit (Kd.int .u8) _ 5 ?hg (N := 26) ?hd (xs := ([1] : List Int)) (inner := [.int .u8 1]) (ok := fun _ => True) (okp := fun _ => True) ?hr ?hp (fun _ hk => hk) trivial (Below.refl _ _) (Nat.le_refl _) (by simp) ?_; (case hd => rfl); (case hg => rfl); (case hr => first | (go_simp; done) | (go_simp; rfl)); (case hp => exact (Reps.one (show Kd.M (Kd.int .u8) _ _ _ 1 [.int .u8 1] from rfl) (Reps.none _ _))); intro v1023 w9 ho10 hb hg_ hnew_; clear hg_ hnew_; (first | rw [← Ny1022.out] at ho10 | (simp only [Int.reduceToNat] at ho10; rw [← Ny1022.out] at ho10)); have n0_ := Aside0.mk (Kd.R_below HO1021.out hb); have n1_ := Aside0.mk (Kd.R_lower ho10 (below_size HB.out)); have n2_ := Aside0.mk (below_step HB.out hb); clear HO1021; clear HB; have HO1021 := n0_; have HO1024 := n1_; have HB := n2_; clear n0_ n1_ n2_; clear hb ho10))
     go_loopg [8, 9] kj2 (fun kq v8 v9 w' => ∃ (x8_2 : List Int) (x9_2 : Int), v9 = .int .i64 x9_2 ∧ Aside0 (foghornref20_Locator.l0 kq l0 a1 x8_2 x9_2 = some (r1, r2)) ∧ Aside0 (kq ≤ kj2) ∧ Aside0 (Kd.R (Kd.int .u8) 5 w' w.heap.size (fun _ => True) v8 x8_2) ∧ Aside0 (Below w.heap.size w w'))
     case atStart => exact ⟨(y1022), (0), (by rfl), H', ⟨Nat.le_refl _⟩, ⟨by (with_reducible repeat (first | apply Kd.R_alloc | apply Kd.R_drewN | apply Kd.R_drew)); exact HO1024.out⟩, ⟨HB.out⟩⟩
     case round =>
      clear H'
      try clear c4
      try clear c4b0
      try clear c5
      try clear c7
      obtain ⟨x8_2, x9_2, rfl, HA, HK2, HO_8, HB⟩ := hrel
      cases gk with
      | zero => exact absurd HA.out (by simp [foghornref20_Locator.l0])
      | succ k2 =>
       have H := HA.out
       clear HA
       simp only [foghornref20_Locator.l0] at H
       by_cases c11 : x9_2 < (l0.length : Int)
       ·rw [if_pos c11] at H
        have c11b0 : decide (x9_2 < (l0.length : Int)) = true := decide_eq_true c11
        clear c11
        obtain ⟨y1025, hy1025⟩ : ∃ y_ : List Int, y_ = (([] : List Int)) := ⟨_, rfl⟩
        replace H : (if y1025.length + x8_2.length < 140737488355328 then ((some (y1025 ++ x8_2 : List Int)).bind fun y1028 => (if y1028.length < 140737488355328 then (foghornref20_Locator.l1 k2 l0 a1 x8_2 x9_2 (y1028 ++ [0]) 0) else (none))) else (none)) = some (r1, r2) := by first | (rw [hy1025]; exact H) | exact H
        have Ny1025 := Aside0.mk hy1025
        clear hy1025
        by_cases c12 : y1025.length + x8_2.length < 140737488355328
        ·rw [if_pos c12] at H
         have LMc12 := Aside0.mk c12
         clear c12
         obtain ⟨y1028, hy1028⟩ : ∃ y_ : List Int, y_ = (y1025 ++ x8_2) := ⟨_, rfl⟩
         replace H : (if y1028.length < 140737488355328 then (foghornref20_Locator.l1 k2 l0 a1 x8_2 x9_2 (y1028 ++ [0]) 0) else (none)) = some (r1, r2) := by first | (rw [hy1028]; exact H) | exact H
         have Ny1028 := Aside0.mk hy1028
         clear hy1028
         by_cases c13 : y1028.length < 140737488355328
         ·rw [if_pos c13] at H
          have LMc13 := Aside0.mk c13
          clear c13
          obtain ⟨y1031, hy1031⟩ : ∃ y_ : List Int, y_ = (y1028 ++ [0]) := ⟨_, rfl⟩
          replace H : (foghornref20_Locator.l1 k2 l0 a1 x8_2 x9_2 y1031 0) = some (r1, r2) := by first | (rw [hy1031]; exact H) | exact H
          have Ny1031 := Aside0.mk hy1031
          clear hy1031
          have H' := Aside0.mk H
          clear H
          go_wp2_with (first | ((with_reducible refine gate_dst (N := 33) rfl ?_); refine Kd.R_lit (Kd.int .u8) _ 5 ?hg (N := 33) ?hd (xs := ([] : List Int)) (inner := []) (ok := fun _ => True) (okp := fun _ => True) ?hr ?hp (fun _ hk => hk) trivial (Below.refl _ _) (Nat.le_refl _) (by simp) ?_; (case hd => rfl); (case hg => rfl); (case hr => first | (go_simp; done) | (go_simp; rfl)); (case hp => exact (Reps.none _ _)); intro v1026 w14 ho15 hb hg_ hnew_; clear hg_ hnew_; (first | rw [← Ny1025.out] at ho15 | (simp only [Int.reduceToNat] at ho15; rw [← Ny1025.out] at ho15)); have n0_ := Aside0.mk (Kd.R_elder' HO_8.out (Kd.R_base ho15) hb); have n1_ := Aside0.mk (Kd.R_lower (Kd.R_new' ho15 (Kd.R_lt HO_8.out)) (below_size HB.out)); have n2_ := Aside0.mk (below_step HB.out hb); clear HO_8; clear HB; have HO_8 := n0_; have HO1027 := n1_; have HB := n2_; clear n0_ n1_ n2_; clear hb ho15; obtain ⟨Ao17, co17, eo17⟩ := Kd.R_slice HO_8.out; subst eo17) | ((with_reducible refine gate_builtin (b := .append) (xs := #[.tmp 33, .tmp 34]) rfl ?_); at_builtin; refine Kd.R_append_rows (Kd.int .u8) (w0 := w) w.heap.size rfl (.tmp 33) (.tmp 34) 29 5 (.int .u8 0) 1 rfl Try.underlying29 info5 rfl (by decide) (by omega) v1026 y1025 x8_2 _ _ _ (fun k_ => some k_ ≠ (.slice Ao17 x8_2.length co17 : Value).ownBlock) (fun _ => False) rfl rfl ?aO ?aR (fun _ _ h => h) (fun _ h => h.elim) ?aF ?aB ?aS ?aL ?_; (case aR => exact (Kd.R_reads' HO_8.out).2.2); (case aB => exact HB.out); (case aF => exact (fun k_ hk => Kd.fresh' (Kd.R_lt HO_8.out) k_ hk)); (case aO => exact (by (with_reducible repeat (first | apply Kd.R_alloc | apply Kd.R_drewN | apply Kd.R_drew)); exact Kd.R_mono HO1027.out (fun _ hk => hk.2))); (case aS => exact (below_size HB.out)); (case aL => have := LMc12.out; omega); intro v1029 w16 ho hb hg hat; rw [← Ny1028.out] at ho; have n0_ := Aside0.mk (Kd.R_after (ok := (fun _ => True)) HO_8.out hg hat); have n1_ := Aside0.mk (hb); have n2_ := Aside0.mk (ho); clear HO_8; clear HB; clear HO1027; have HO_8 := n0_; have HB := n1_; have HO1030 := n2_; clear n0_ n1_ n2_; clear ho hb hg hat) | ((with_reducible refine gate_builtin (b := .append) (xs := #[.tmp 35, .tmp 36]) rfl ?_); at_builtin; refine Kd.R_append (Kd.int .u8) (w0 := w) w.heap.size rfl (.tmp 35) (.tmp 36) 29 5 (.int .u8 0) 1 rfl Try.underlying29 info5 rfl (by decide) (by omega) v1029 y1028 0 [.int .u8 0] (fun k_ => some k_ ≠ (.slice Ao17 x8_2.length co17 : Value).ownBlock) (fun _ => False) rfl rfl ?aP (fun _ hk => hk.elim) ?aF ?aO ?aB ?aS ?aL ?_; (case aP => exact rfl); (case aB => exact HB.out); (case aF => exact (fun k_ hk => Kd.fresh' (Kd.R_lt HO_8.out) k_ hk)); (case aO => exact HO1030.out); (case aS => exact (below_size HB.out)); (case aL => have := LMc13.out; omega); intro v1032 w18 ho hb hg hat; rw [← Ny1031.out] at ho; have n0_ := Aside0.mk (Kd.R_after (ok := (fun _ => True)) HO_8.out hg hat); have n1_ := Aside0.mk (hb); have n2_ := Aside0.mk (ho); clear HO_8; clear HB; clear HO1030; have HO_8 := n0_; have HB := n1_; have HO1033 := n2_; clear n0_ n1_ n2_; clear ho hb hg hat))
          go_loopg [11] k2 (fun kq v11 w' => ∃ (x10_3 : List Int) (x11_3 : Int), v11 = .int .i64 x11_3 ∧ Aside0 (foghornref20_Locator.l1 kq l0 a1 x8_2 x9_2 x10_3 x11_3 = some (r1, r2)) ∧ Aside0 (kq ≤ k2) ∧ Aside0 (Kd.R (Kd.int .u8) 5 w' w.heap.size (fun k_ => some k_ ≠ (v1032 : Value).ownBlock) (.slice Ao17 x8_2.length co17) x8_2) ∧ Aside0 (Kd.R (Kd.int .u8) 5 w' w.heap.size (fun k_ => some k_ ≠ ((.slice Ao17 x8_2.length co17) : Value).ownBlock) v1032 x10_3) ∧ Aside0 (Below w.heap.size w w'))
          case atStart => exact ⟨(y1031), (0), (by rfl), H', ⟨Nat.le_refl _⟩, ⟨by (with_reducible repeat (first | apply Kd.R_alloc | apply Kd.R_drewN | apply Kd.R_drew)); exact Kd.R_mono HO_8.out (fun _ hk => hk.2)⟩, ⟨by (with_reducible repeat (first | apply Kd.R_alloc | apply Kd.R_drewN | apply Kd.R_drew)); exact HO1033.out⟩, ⟨HB.out⟩⟩
          case round =>
           clear H'
           try clear c4
           try clear c4b0
           try clear c5
           try clear c7
           try clear c11
           try clear c11b0
           try clear c12
           try clear c13
           obtain ⟨x10_3, x11_3, rfl, HA, HK3, HO_8, HO_10, HB⟩ := hrel
           cases gk with
           | zero => exact absurd HA.out (by simp [foghornref20_Locator.l1])
           | succ k3 =>
            have H := HA.out
            clear HA
            simp only [foghornref20_Locator.l1] at H
            by_cases c19 : x11_3 < (x8_2.length : Int)
            ·rw [if_pos c19] at H
             have c19b0 : decide (x11_3 < (x8_2.length : Int)) = true := decide_eq_true c19
             clear c19
             obtain ⟨ji20, hji20⟩ : ∃ j_ : Int, (wrap64 (x11_3 + 1)) = j_ := ⟨_, rfl⟩
             replace H : (if 0 ≤ (ji20) then (if (ji20) < (x10_3.length : Int) then (if 0 ≤ x11_3 then (if 0 ≤ x9_2 then (if x9_2 < (l0.length : Int) then ((foghornref20_x.f k3 (rd l0 x9_2) a1).bind fun t1037 => ((foghornref18_Times.f k3 (rd x8_2 x11_3) t1037).bind fun t1038 => (foghornref20_Locator.l1 k3 l0 a1 x8_2 x9_2 (x10_3.set ((ji20) : Int).toNat (Go.bits .xor .u8 (rd x10_3 (ji20)) t1038)) ji20))) else (none)) else (none)) else (none)) else (none)) else (none)) = some (r1, r2) := by first | (rw [hji20] at H; exact H) | (simp only [hji20] at H ⊢; exact H)
             have hji20w : (IntKind.i64.wrap (x11_3 + 1)) = ji20 := (i64_w _).trans hji20
             by_cases c21 : 0 ≤ (ji20)
             ·rw [if_pos c21] at H
              have c21b0 : decide (0 ≤ (ji20)) = true := decide_eq_true c21
              clear c21
              by_cases c22 : (ji20) < (x10_3.length : Int)
              ·rw [if_pos c22] at H
               have c22b0 : decide ((ji20) < (x10_3.length : Int)) = true := decide_eq_true c22
               clear c22
               by_cases c23 : 0 ≤ x11_3
               ·rw [if_pos c23] at H
                have c23b0 : decide (0 ≤ x11_3) = true := decide_eq_true c23
                clear c23
                by_cases c24 : 0 ≤ x9_2
                ·rw [if_pos c24] at H
                 have c24b0 : decide (0 ≤ x9_2) = true := decide_eq_true c24
                 clear c24
                 by_cases c25 : x9_2 < (l0.length : Int)
                 ·rw [if_pos c25] at H
                  have c25b0 : decide (x9_2 < (l0.length : Int)) = true := decide_eq_true c25
                  clear c25
                  replace H := Option.bind_eq_some_iff.mp H
                  obtain ⟨t1037, A260, H⟩ := H
                  replace H : ((foghornref18_Times.f k3 (rd x8_2 x11_3) t1037).bind fun t1038 => (foghornref20_Locator.l1 k3 l0 a1 x8_2 x9_2 (x10_3.set ((ji20) : Int).toNat (Go.bits .xor .u8 (rd x10_3 (ji20)) t1038)) ji20)) = some (r1, r2) := H
                  have A26 := Aside0.mk A260
                  clear A260
                  replace H := Option.bind_eq_some_iff.mp H
                  obtain ⟨t1038, A270, H⟩ := H
                  replace H : (foghornref20_Locator.l1 k3 l0 a1 x8_2 x9_2 (x10_3.set ((ji20) : Int).toNat (Go.bits .xor .u8 (rd x10_3 (ji20)) t1038)) ji20) = some (r1, r2) := H
                  have A27 := Aside0.mk A270
                  clear A270
                  obtain ⟨y1039, hy1039⟩ : ∃ y_ : List Int, y_ = (x10_3.set ((ji20) : Int).toNat (Go.bits .xor .u8 (rd x10_3 (ji20)) t1038)) := ⟨_, rfl⟩
                  replace H : (foghornref20_Locator.l1 k3 l0 a1 x8_2 x9_2 y1039 ji20) = some (r1, r2) := by first | (rw [hy1039]; exact H) | exact H
                  have Ny1039 := Aside0.mk hy1039
                  clear hy1039
                  have H' := Aside0.mk H
                  clear H
                  try go_wp2
                  have n0_ := Aside0.mk (Kd.R_drew HO_8.out)
                  have n1_ := Aside0.mk (Kd.R_drew HO_10.out)
                  have n2_ := Aside0.mk (below_drew1 HB.out)
                  clear HO_8
                  clear HO_10
                  clear HB
                  have HO_8 := n0_
                  have HO_10 := n1_
                  have HB := n2_
                  clear n0_ n1_ n2_
                  obtain ⟨Ao30, co30, eo30⟩ := Kd.R_slice HO_10.out
                  (first | subst eo30 | (injection eo30 with f1_ f2_ f3_; have f4_ := f1_.symm; have f5_ := f3_.symm; clear f1_ f2_ f3_; subst f4_; subst f5_))
                  have p1034 : 0 ≤ ((ji20) : Int) := of_decide_eq_true (by assumption)
                  have q1034 : (ji20) < (x10_3.length : Int) := of_decide_eq_true (by assumption)
                  obtain ⟨ad1034, e1034, hx1034_0⟩ := Kd.at_int (Kd.R_reads' HO_10.out).2.2 (ji20) p1034 q1034
                  cases e1034
                  replace p1034 := eq_true p1034
                  replace q1034 := eq_true q1034
                  have p1035 : 0 ≤ (x11_3 : Int) := of_decide_eq_true (by assumption)
                  have q1035 : x11_3 < (x8_2.length : Int) := of_decide_eq_true (by assumption)
                  obtain ⟨ad1035, e1035, hx1035_0⟩ := Kd.at_int (Kd.R_reads' HO_8.out).2.2 x11_3 p1035 q1035
                  cases e1035
                  replace p1035 := eq_true p1035
                  replace q1035 := eq_true q1035
                  have p1036 : 0 ≤ (x9_2 : Int) := of_decide_eq_true (by assumption)
                  have q1036 : x9_2 < (l0.length : Int) := of_decide_eq_true (by assumption)
                  obtain ⟨ad1036, e1036, hx1036_0⟩ := Kd.at_int HR0.out x9_2 p1036 q1036
                  have hw1036_0 := hx1036_0
                  cases e1036
                  replace hx1036_0 := (HB.out.cell (World.block_lt_of_cell? w _ hx1036_0)).trans hx1036_0
                  replace p1036 := eq_true p1036
                  replace q1036 := eq_true q1036
                  refine start_ (n := 22) (S := fun w' => w'.cell? (ad1034.add ((ji20)).toNat) = some (.int .u8 (rd x10_3 (ji20))) ∧ w'.cell? (ad1035.add (x11_3).toNat) = some (.int .u8 (rd x8_2 x11_3)) ∧ w'.cell? (ad1036.add (x9_2).toNat) = some (.int .i64 (rd l0 x9_2))) (ds := [21]) #[false, false, false, false, false, false, false, false, false, false, false, false, false, false, false, false, false, false, false, false, false, false] (by kernel_rfl) rfl rfl ⟨hx1034_0, hx1035_0, ((HB.out.cell (World.block_lt_of_cell? w _ hw1036_0)).trans hw1036_0)⟩ (fun hHeld => ?_); refine with_tabW foghornref20_Locator.tab14 foghornref20_Locator.bits14 (fun HT_ HW_ => ?_)
                  generalize wr.drew = w29 at HO_8 HO_10 HB hx1034_0 hx1035_0 hx1036_0 hHeld ⊢
                  refine pz_ 0 44 ?_ T5m0_ rfl rfl (any_of HT_.out (by kernel_rfl)) ?_ ?_ ?_ ?_; rotate_left; intro w'; go_simp; with_reducible rfl; rotate_left; simp only [nm_]; rfl
                  refine pz_ 1 45 ?_ T5m1_ rfl rfl (any_of HT_.out (by kernel_rfl)) ?_ ?_ ?_ ?_; rotate_left; intro w'; go_simp; with_reducible rfl; rotate_left; simp only [nm_]; rfl
                  refine pz_ 2 46 ?_ T5m2_ rfl rfl (any_of HT_.out (by kernel_rfl)) ?_ ?_ ?_ ?_; rotate_left; intro w'; go_simp; with_reducible rfl; rotate_left; simp only [nm_]; rfl
                  refine pz_ 3 47 ?_ T5m3_ rfl rfl (any_of HT_.out (by kernel_rfl)) ?_ ?_ ?_ ?_; rotate_left; intro w'; go_simp; with_reducible rfl; rotate_left; simp only [nm_]; rfl
                  refine pz_ 4 48 ?_ T5m4_ rfl rfl (any_of HT_.out (by kernel_rfl)) ?_ ?_ ?_ ?_; rotate_left; intro w'; go_simp; with_reducible rfl; rotate_left; simp only [nm_]; rfl
                  refine pz_ 5 49 ?_ T5m5_ rfl rfl (any_of HT_.out (by kernel_rfl)) ?_ ?_ ?_ ?_; rotate_left; intro w'; go_simp; with_reducible rfl; rotate_left; simp only [nm_]; rfl
                  refine pz_ 6 50 ?_ T5m6_ rfl rfl (any_of HT_.out (by kernel_rfl)) ?_ ?_ ?_ ?_; rotate_left; intro w'; go_simp; with_reducible rfl; rotate_left; simp only [nm_]; rfl
                  refine pz_ 8 52 ?_ T5m7_ rfl rfl (any_of HT_.out (by kernel_rfl)) ?_ ?_ ?_ ?_; rotate_left; intro w'; go_simp; with_reducible rfl; rotate_left; simp only [nm_]; rfl
                  refine pz_ 9 53 ?_ T5m8_ rfl rfl (any_of HT_.out (by kernel_rfl)) ?_ ?_ ?_ ?_; rotate_left; intro w'; go_simp; with_reducible rfl; rotate_left; simp only [nm_]; rfl
                  refine pz_ 10 54 ?_ T5m9_ rfl rfl (any_of HT_.out (by kernel_rfl)) ?_ ?_ ?_ ?_; rotate_left; intro w'; go_simp; with_reducible rfl; rotate_left; simp only [nm_]; rfl
                  refine pz_ 12 56 ?_ T5m10_ rfl rfl (any_of HT_.out (by kernel_rfl)) ?_ ?_ ?_ ?_; rotate_left; intro w'; go_simp; with_reducible rfl; rotate_left; simp only [nm_]; rfl
                  refine pz_ 13 57 ?_ T5m11_ rfl rfl (any_of HT_.out (by kernel_rfl)) ?_ ?_ ?_ ?_; rotate_left; intro w'; go_simp; with_reducible rfl; rotate_left; simp only [nm_]; rfl
                  refine pz_ 14 58 ?_ T5m12_ rfl rfl (any_of HT_.out (by kernel_rfl)) ?_ ?_ ?_ ?_; rotate_left; intro w'; go_simp; with_reducible rfl; rotate_left; simp only [nm_]; rfl
                  refine pz_ 16 60 ?_ T5m13_ rfl rfl (any_of HT_.out (by kernel_rfl)) ?_ ?_ ?_ ?_; rotate_left; intro w'; go_simp; with_reducible rfl; rotate_left; simp only [nm_]; rfl
                  refine tz_ 7 51 ?_ T5m14_ rfl rfl (take_ofW HT_.out HW_.out (by kernel_rfl)) ?_ hHeld ?_ ?_ ?_; rotate_left; rintro w' ⟨s0, s1, s2⟩; go_simp; with_reducible rfl; rotate_left; simp only [nm_]; rfl
                  refine tz_ 11 55 ?_ T5m15_ rfl rfl (take_ofW HT_.out HW_.out (by kernel_rfl)) ?_ hHeld ?_ ?_ ?_; rotate_left; rintro w' ⟨s0, s1, s2⟩; go_simp; with_reducible rfl; rotate_left; simp only [nm_]; rfl
                  refine tz_ 15 59 ?_ T5m16_ rfl rfl (take_ofW HT_.out HW_.out (by kernel_rfl)) ?_ hHeld ?_ ?_ ?_; rotate_left; rintro w' ⟨s0, s1, s2⟩; go_simp; with_reducible rfl; rotate_left; simp only [nm_]; rfl
                  refine one_ (i := 17) (N := some 61) #[true, true, true, true, true, true, true, true, true, true, true, true, true, true, true, true, true, true, false, false, false, false] rfl rfl (one_of HT_.out (by kernel_rfl)) (by decide) (fun K hK => ?_)
                  refine goes_ Try.func98 (by kernel_rfl) rfl #[.int .i64 (rd l0 x9_2), .int .i64 a1] (by rfl) rfl rfl (by (try simp only [List.map_toArray, List.map_cons, List.map_nil]); first | done | rfl | (simp only [List.length_drop, List.length_take]; rfl)) ?_
                  with_reducible refine (foghornref20_x.calls k3 (rd l0 x9_2) a1 t1037 _ A26.out).mono ?_
                  rintro e w' ⟨rfl, ⟨nd, rfl⟩⟩
                  refine ⟨_, rfl, ?_⟩
                  refine hK.out _ _ ⟨hHeld.1, hHeld.2.1, ((HB.out.cell (World.block_lt_of_cell? w _ hw1036_0)).trans hw1036_0)⟩ (fun hHeld => ?_)
                  clear hK K
                  refine norm_ (a' := ?_) ?_ ?_
                  rotate_left
                  ·show Act.put _ (some 61) _ = _
                   simp only [nm_]
                   rfl
                  refine one_ (i := 18) (N := some 62) #[true, true, true, true, true, true, true, true, true, true, true, true, true, true, true, true, true, true, true, false, false, false] rfl rfl (one_of HT_.out (by kernel_rfl)) (by decide) (fun K hK => ?_)
                  refine goes_ Try.func92 (by kernel_rfl) rfl #[.int .u8 (rd x8_2 x11_3), .int .u8 t1037] (by rfl) rfl rfl (by (try simp only [List.map_toArray, List.map_cons, List.map_nil]); first | done | rfl | (simp only [List.length_drop, List.length_take]; rfl)) ?_
                  with_reducible refine (foghornref18_Times.calls k3 (rd x8_2 x11_3) t1037 t1038 _ A27.out).mono ?_
                  rintro e w' ⟨rfl, ⟨nd, rfl⟩⟩
                  refine ⟨_, rfl, ?_⟩
                  have p28 : 0 ≤ ((ji20) : Int) := of_decide_eq_true (by assumption)
                  have q28 : ((ji20) : Int) < ((x10_3.length : Int) : Int) := of_decide_eq_true (by assumption)
                  obtain ⟨go28, co28, eo28, gb28, gl28, cl28, HG28⟩ := Kd.R_form HO_10.out (by omega)
                  (first | cases eo28 | (injection eo28 with ea_ en_ ec_; (first | subst ea_ | (injection ea_ with ea_; subst ea_)); subst ec_; clear en_))
                  have GB28 := Aside0.mk gb28
                  have GG28 := Aside0.mk HG28
                  clear gb28 gl28 HG28
                  (first | simp only [add_plain] at hx1034_0 | skip)
                  obtain ⟨hx28_0, hf28_0⟩ := Kd.R_celln 0 HO_10.out ((ji20) : Int) p28 q28
                  replace p28 := eq_true p28
                  replace q28 := eq_true q28
                  have HP31 := Kd.R_putn HO_10.out ((ji20) : Int) (Go.bits .xor .u8 (rd x10_3 (ji20)) t1038)
                  rw [← Ny1039.out] at HP31
                  have HQ31 := Aside0.mk HP31
                  clear HP31
                  refine hK.out _ _ ⟨hHeld.1, hHeld.2.1, ((HB.out.cell (World.block_lt_of_cell? w _ hw1036_0)).trans hw1036_0)⟩ (fun hHeld => ?_)
                  clear hK K
                  refine norm_ (a' := ?_) ?_ ?_
                  rotate_left
                  ·show Act.put _ (some 62) _ = _
                   simp only [nm_]
                   rfl
                  refine pz_ 19 63 ?_ T5m17_ rfl rfl (any_of HT_.out (by kernel_rfl)) ?_ ?_ ?_ ?_; rotate_left; intro w'; go_simp; with_reducible rfl; rotate_left; simp only [nm_]; rfl
                  refine pz_ 20 64 ?_ T5m18_ rfl rfl (any_of HT_.out (by kernel_rfl)) ?_ ?_ ?_ ?_; rotate_left; intro w'; go_simp; with_reducible rfl; rotate_left; simp only [nm_]; rfl
                  refine last_ (i := 21) (N := none) #[true, true, true, true, true, true, true, true, true, true, true, true, true, true, true, true, true, true, true, true, true, true] rfl rfl (one_of HT_.out (by kernel_rfl)) (by decide) (fun K hK => ?_)
                  refine skip_ (w1 := ?_) (by rfl) rfl ?_ ?_
                  rotate_left
                  ·go_simp
                   rfl
                  refine hK.out _ _ ?_
                  clear hK K
                  refine done_ (done_of HT_.out (by kernel_rfl)) ?_
                  try go_wp2
                  first | go_roundg k3 | (simp only [add_plain] at *; go_roundg k3)
                  case measure => have := HJ2.out; have := HK2.out; have := HK3.out; omega
                  case rel => exact ⟨(y1039), (ji20), (by first | rfl | (simp; done) | (simp only [← hji20] <;> (first | rfl | simp)) | (simp [*]; done)), H', ⟨by have := HJ2.out; have := HK2.out; have := HK3.out; omega⟩, ⟨by (with_reducible repeat (first | apply Kd.R_alloc | apply Kd.R_drewN | apply Kd.R_drew)); exact Kd.R_mono (Kd.R_far (p := ⟨go28, ((ji20) : Int).toNat, none⟩) (Kd.R_mono HO_8.out (fun k_ hk => (⟨hk, fun e_ => hk (by rw [e_]; rfl)⟩ : _ ∧ k_ ≠ go28))) (fun _ hk => hk.2) (.int .u8 (Go.bits .xor .u8 (rd x10_3 (ji20)) t1038))) (fun _ hk => hk.1)⟩, ⟨by (with_reducible repeat (first | apply Kd.R_alloc | apply Kd.R_drewN | apply Kd.R_drew)); exact HQ31.out⟩, ⟨by repeat (first | (with_reducible first | exact HB.out | apply below_alloc | apply pw_below_drewN | apply below_drew1 | refine below_set ?_ GB28.out) | exact HB.out)⟩⟩
                 ·rw [if_neg c25] at H
                  exact absurd H (by simp)
                ·rw [if_neg c24] at H
                 exact absurd H (by simp)
               ·rw [if_neg c23] at H
                exact absurd H (by simp)
              ·rw [if_neg c22] at H
               exact absurd H (by simp)
             ·rw [if_neg c21] at H
              exact absurd H (by simp)
            ·rw [if_neg c19] at H
             have c19b0 : decide (x11_3 < (x8_2.length : Int)) = false := decide_eq_false c19
             clear c19
             have H' := Aside0.mk H
             clear H
             go_wp2
             first | go_roundg k3 | (simp only [add_plain] at *; go_roundg k3)
             case measure => have := HJ2.out; have := HK2.out; have := HK3.out; omega
             case rel => exact ⟨(x10_3), (wrap64 (x9_2 + 1)), (by rfl), H', ⟨by have := HJ2.out; have := HK2.out; have := HK3.out; omega⟩, ⟨by (with_reducible repeat (first | apply Kd.R_alloc | apply Kd.R_drewN | apply Kd.R_drew)); exact Kd.R_mono HO_10.out (fun _ hk => trivial)⟩, ⟨HB.out⟩⟩
         ·rw [if_neg c13] at H
          exact absurd H (by simp)
        ·rw [if_neg c12] at H
         exact absurd H (by simp)
       ·rw [if_neg c11] at H
        have c11b0 : decide (x9_2 < (l0.length : Int)) = false := decide_eq_false c11
        clear c11
        simp only [Option.some.injEq, Prod.mk.injEq] at H
        obtain ⟨rfl, rfl⟩ := H
        go_wp2
        go_ret2
        exact ⟨_, by rfl, by (with_reducible repeat (first | apply Kd.R_alloc | apply Kd.R_drewN | apply Kd.R_drew)); exact HO_8.out, HB.out⟩
    ·replace c7 := Bool.eq_false_iff.mpr c7
     subst c7
     have H1 : (some (([] : List Int), 1)) = some (r1, r2) := by rw [if_neg (show ¬ (false = true) by decide)] at H; exact H
     clear H
     have H := H1
     clear H1
     simp only [Option.some.injEq, Prod.mk.injEq] at H
     obtain ⟨rfl, rfl⟩ := H
     go_wp2_with (first | ((with_reducible refine gate_callee (f := 97) rfl ?_); refine goesL_ (some 21) rfl rfl Try.func97 (by kernel_rfl) rfl #[.slice A0 l0.length c0, .int .i64 a1] rfl (by (try simp only [List.map_toArray, List.map_cons, List.map_nil]); first | done | rfl | (simp only [List.length_drop, List.length_take]; rfl)) ?_; (with_reducible refine (foghornref20_places.calls kj2 _ _ l0 a1 t1018 false _ ?side1 ?side2 A6.out).mono ?_); (case side1 => exact (Kd.C_below HR0.out HB.out)); (case side2 => exact HC0.out); rintro e w32 ⟨v1020, rfl, ho0, hb⟩; refine ⟨_, rfl, ?_⟩; have n0_ := Aside0.mk (Kd.R_lower ho0 (below_size HB.out)); have n1_ := Aside0.mk (below_step HB.out hb); clear HB; have HO1021 := n0_; have HB := n1_; clear n0_ n1_; (try clear hb); (try clear hk); (try clear ho0)))
     go_ret2
     exact ⟨_, by rfl, by first | exact Kd.R_nil _ _ _ _ _ | exact Kd.N_nil _ _ _ _ _ | exact Kd.V_nil _ _ _ _ _ | exact Kd.Q_nil _ _ _ _ _ | exact Kd.S_nil _ _ _ _ _, HB.out⟩
set_option maxHeartbeats 8000000 in
set_option maxRecDepth 100000 in
theorem foghornref18_Over.calls (k : Nat) (a0 : Int) (a1 : Int) (r1 : Int) (r2 : Int) (w : World) (h : foghornref18_Over.f k a0 a1 = some (r1, r2)) :
  Calls Try.prog 116 #[.int .u8 a0, .int .u8 a1] w fun e w' => e = .returned (.tuple #[.int .u8 r1, .int .i64 r2]) ∧ Drawn0 w w' := by
 have H : (if a1 = 0 then (some (0, 6)) else (foghornref18_Over.l0 k a0 a1 0)) = some (r1, r2) := h
 clear h
 by_cases c3 : a1 = 0
 ·rw [if_pos c3] at H
  have c3b0 : (a1 == 0) = true := beq_iff_eq.mpr c3
  have c3b1 : (a1 != 0) = false := bne_eq_false_iff_eq.mpr c3
  clear c3
  simp only [Option.some.injEq, Prod.mk.injEq] at H
  obtain ⟨rfl, rfl⟩ := H
  go_enter Try.func116, Try.ntmps116
  go_wp2
  go_ret2
  exact ⟨by rfl, by repeat (first | exact Drawn0.refl _ | apply Drawn0.step)⟩
 ·rw [if_neg c3] at H
  have c3b0 : (a1 == 0) = false := beq_eq_false_iff_ne.mpr c3
  have c3b1 : (a1 != 0) = true := bne_iff_ne.mpr c3
  have H' := Aside0.mk H
  clear H
  go_enter Try.func116, Try.ntmps116
  go_wp2
  go_loopg [6] k (fun kq v6 w' => ∃ (x6_1 : Int), v6 = .int .i64 x6_1 ∧ Aside0 (foghornref18_Over.l0 kq a0 a1 x6_1 = some (r1, r2)) ∧ Aside0 (kq ≤ k) ∧ Drawn0 w w')
  case atStart => exact ⟨(0), (by rfl), H', ⟨Nat.le_refl _⟩, by repeat (first | exact Drawn0.refl _ | apply Drawn0.step)⟩
  case round =>
   clear H'
   try clear c3
   try clear c3b0
   try clear c3b1
   obtain ⟨x6_1, rfl, HA, HK1, ⟨m1, rfl⟩⟩ := hrel
   cases gk with
   | zero => exact absurd HA.out (by simp [foghornref18_Over.l0])
   | succ k1 =>
    have H := HA.out
    clear HA
    simp only [foghornref18_Over.l0] at H
    by_cases c4 : x6_1 < 256
    ·rw [if_pos c4] at H
     have c4b0 : decide (x6_1 < 256) = true := decide_eq_true c4
     clear c4
     replace H := Option.bind_eq_some_iff.mp H
     obtain ⟨t1040, A50, H⟩ := H
     replace H : (if t1040 = a0 then (some ((x6_1) % 256, 0)) else (foghornref18_Over.l0 k1 a0 a1 (wrap64 (x6_1 + 1)))) = some (r1, r2) := H
     have A5 := Aside0.mk A50
     clear A50
     by_cases c6 : t1040 = a0
     ·rw [if_pos c6] at H
      have c6b0 : (t1040 == a0) = true := beq_iff_eq.mpr c6
      have c6b1 : (t1040 != a0) = false := bne_eq_false_iff_eq.mpr c6
      clear c6
      simp only [Option.some.injEq, Prod.mk.injEq] at H
      obtain ⟨rfl, rfl⟩ := H
      go_wp2_with (first | ((with_reducible refine gate_callee (f := 92) rfl ?_); refine goesL_ (some 16) rfl rfl Try.func92 (by kernel_rfl) rfl #[.int .u8 ((x6_1) % 256), .int .u8 a1] rfl (by (try simp only [List.map_toArray, List.map_cons, List.map_nil]); first | done | rfl | (simp only [List.length_drop, List.length_take]; rfl)) ?_; (with_reducible refine (foghornref18_Times.calls k1 ((x6_1) % 256) a1 t1040 _ A5.out).mono ?_); rintro e w' ⟨rfl, ⟨nd, rfl⟩⟩; refine ⟨_, rfl, ?_⟩))
      go_ret2
      exact ⟨by rfl, by repeat (first | exact Drawn0.refl _ | apply Drawn0.step)⟩
     ·rw [if_neg c6] at H
      have c6b0 : (t1040 == a0) = false := beq_eq_false_iff_ne.mpr c6
      have c6b1 : (t1040 != a0) = true := bne_iff_ne.mpr c6
      have H' := Aside0.mk H
      clear H
      go_wp2_with (first | ((with_reducible refine gate_callee (f := 92) rfl ?_); refine goesL_ (some 16) rfl rfl Try.func92 (by kernel_rfl) rfl #[.int .u8 ((x6_1) % 256), .int .u8 a1] rfl (by (try simp only [List.map_toArray, List.map_cons, List.map_nil]); first | done | rfl | (simp only [List.length_drop, List.length_take]; rfl)) ?_; (with_reducible refine (foghornref18_Times.calls k1 ((x6_1) % 256) a1 t1040 _ A5.out).mono ?_); rintro e w' ⟨rfl, ⟨nd, rfl⟩⟩; refine ⟨_, rfl, ?_⟩))
      first | go_roundg k1 | (simp only [add_plain] at *; go_roundg k1)
      case measure => have := HK1.out; omega
      case rel => exact ⟨(wrap64 (x6_1 + 1)), (by rfl), H', ⟨by have := HK1.out; omega⟩, by repeat (first | exact Drawn0.refl _ | apply Drawn0.step)⟩
    ·rw [if_neg c4] at H
     have c4b0 : decide (x6_1 < 256) = false := decide_eq_false c4
     clear c4
     simp only [Option.some.injEq, Prod.mk.injEq] at H
     obtain ⟨rfl, rfl⟩ := H
     go_wp2
     go_ret2
     exact ⟨by rfl, by repeat (first | exact Drawn0.refl _ | apply Drawn0.step)⟩
set_option maxHeartbeats 8000000 in
set_option maxRecDepth 100000 in
theorem foghornref20_inverse.calls (k : Nat) (a0 : Int) (r : Int) (w : World) (h : foghornref20_inverse.f k a0 = some r) :
  Calls Try.prog 110 #[.int .u8 a0] w fun e w' => e = .returned (.int .u8 r) ∧ Drawn0 w w' := by
 have H : ((foghornref18_Over.f k 1 a0).bind fun bt1041 => (some bt1041.1)) = some r := h
 clear h
 replace H := Option.bind_eq_some_iff.mp H
 obtain ⟨⟨t1041, t1042⟩, A20, H⟩ := H
 replace H : (some t1041) = some r := H
 have A2 := Aside0.mk A20
 clear A20
 obtain rfl := Option.some.inj H
 go_enter Try.func110, Try.ntmps110
 go_wp2_with (first | ((with_reducible refine gate_callee (f := 116) rfl ?_); refine goesL_ (some 7) rfl rfl Try.func116 (by kernel_rfl) rfl #[.int .u8 1, .int .u8 a0] rfl (by (try simp only [List.map_toArray, List.map_cons, List.map_nil]); first | done | rfl | (simp only [List.length_drop, List.length_take]; rfl)) ?_; (with_reducible refine (foghornref18_Over.calls k 1 a0 t1041 t1042 _ A2.out).mono ?_); rintro e w' ⟨rfl, ⟨nd, rfl⟩⟩; refine ⟨_, rfl, ?_⟩))
 go_ret
 exact ⟨by rfl, by repeat (first | exact Drawn0.refl _ | apply Drawn0.step)⟩
end Go.Proofs.Ytncoakokdajibaa.Q
