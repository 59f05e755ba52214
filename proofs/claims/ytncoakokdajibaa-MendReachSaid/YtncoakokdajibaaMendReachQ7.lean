-- Printed by myprint.py (ours) over the kit's printer, out of the translation.
import Derived.Test.YtncoakokdajibaaMendReachK0
import Derived.Test.YtncoakokdajibaaMendReachF0
import Derived.Test.YtncoakokdajibaaMendReachQ4
import Derived.Test.YtncoakokdajibaaMendReachQ5
import Derived.Test.YtncoakokdajibaaMendReachQ6
namespace Go.Proofs.Ytncoakokdajibaa.Q
open Go.RowKit Go.Proofs.YtncoakokdajibaaW.PrintWords Go.Proofs.YtncoakokdajibaaW.PrintLast Go.Proofs.YtncoakokdajibaaW.PrintMore
attribute [local go_sem] ArrW.ptrOf_slice unary_neg_float unary_neg_complex run_store_float run_store_complex max2_int min2_int max_two min_two max_three min_three max_four min_four   -- for this text's walks alone
set_option linter.unusedVariables false
set_option linter.unusedSimpArgs false

/-! ### foghornlaw20_MendReach: function 11 -/
set_option maxHeartbeats 8000000 in
set_option maxRecDepth 100000 in
theorem foghornlaw20_MendReach.calls (k : Nat) (a0 : ByteArray) (a1 : Int) (A2 : Option Addr) (c2 : Nat) (l2 : List (S62)) (r : Bool) (w : World) (hr2 : Kd.C k62 w A2 l2.length l2) (hc2 : l2.length ≤ c2) (h : foghornlaw20_MendReach.f k a0 a1 l2 = some r) (hq_ : r = true) :
  Calls Try.prog 11 #[.string a0, .int .i64 a1, .slice A2 l2.length c2] w fun e w' => e = .returned (.bool r) ∧ Below w.heap.size w w' := by
 have HQ_ := Aside0.mk hq_
 clear hq_
 have hu64 := Try.underlying64
 have HR2 := Aside0.mk hr2
 have HC2 := Aside0.mk hc2
 clear hr2 hc2
 have HB := Aside0.mk (Below.refl w.heap.size w)
 have H : ((foghornlaw20_awake.f k).bind fun t814 => (if t814 = true then ((foghornlaw20_sent.f k a0 a1).bind fun bt815 => (if bt815.1.size ≤ 9223372036854775807 then (if 0 ≤ (bt815.1.size : Int) then (if ((bt815.1.size : Int) : Int).toNat ≤ 35184372088832 then (foghornlaw20_MendReach.l0 k bt815.2 l2 bt815.1 (bytesOf bt815.1) (List.replicate ((bt815.1.size : Int) : Int).toNat 0) bt815.2 0) else (none)) else (none)) else (none))) else (some false))) = some r := h
 clear h
 replace H := Option.bind_eq_some_iff.mp H
 obtain ⟨t814, A40, H⟩ := H
 replace H : (if t814 = true then ((foghornlaw20_sent.f k a0 a1).bind fun bt815 => (if bt815.1.size ≤ 9223372036854775807 then (if 0 ≤ (bt815.1.size : Int) then (if ((bt815.1.size : Int) : Int).toNat ≤ 35184372088832 then (foghornlaw20_MendReach.l0 k bt815.2 l2 bt815.1 (bytesOf bt815.1) (List.replicate ((bt815.1.size : Int) : Int).toNat 0) bt815.2 0) else (none)) else (none)) else (none))) else (some false)) = some r := H
 have A4 := Aside0.mk A40
 clear A40
 by_cases c5 : t814 = true
 ·subst c5
  have H1 : ((foghornlaw20_sent.f k a0 a1).bind fun bt815 => (if bt815.1.size ≤ 9223372036854775807 then (if 0 ≤ (bt815.1.size : Int) then (if ((bt815.1.size : Int) : Int).toNat ≤ 35184372088832 then (foghornlaw20_MendReach.l0 k bt815.2 l2 bt815.1 (bytesOf bt815.1) (List.replicate ((bt815.1.size : Int) : Int).toNat 0) bt815.2 0) else (none)) else (none)) else (none))) = some r := by rw [if_pos rfl] at H; exact H
  clear H
  have H := H1
  clear H1
  replace H := Option.bind_eq_some_iff.mp H
  obtain ⟨⟨t815, t816⟩, A60, H⟩ := H
  replace H : (if t815.size ≤ 9223372036854775807 then (if 0 ≤ (t815.size : Int) then (if ((t815.size : Int) : Int).toNat ≤ 35184372088832 then (foghornlaw20_MendReach.l0 k t816 l2 t815 (bytesOf t815) (List.replicate ((t815.size : Int) : Int).toNat 0) t816 0) else (none)) else (none)) else (none)) = some r := H
  have A6 := Aside0.mk A60
  clear A60
  by_cases c7 : t815.size ≤ 9223372036854775807
  ·rw [if_pos c7] at H
   have c7b0 := eq_true c7
   have c7b1 : decide (t815.size ≤ 9223372036854775807) = true := decide_eq_true c7
   try have c7b2 : (9223372036854775807 < t815.size) = False := eq_false (Nat.not_lt.2 c7)
   clear c7
   obtain ⟨y817, hy817⟩ : ∃ y_ : List Int, y_ = (bytesOf t815) := ⟨_, rfl⟩
   replace H : (if 0 ≤ (t815.size : Int) then (if ((t815.size : Int) : Int).toNat ≤ 35184372088832 then (foghornlaw20_MendReach.l0 k t816 l2 t815 y817 (List.replicate ((t815.size : Int) : Int).toNat 0) t816 0) else (none)) else (none)) = some r := by first | (rw [hy817]; with_reducible exact H) | (have H2_ := (Option.bind_some _ _).symm.trans H; rw [hy817]; with_reducible exact H2_) | (have H2_ := (Option.bind_some _ _).symm.trans H; with_reducible exact H2_) | with_reducible exact H | (rw [hy817]; exact H) | exact H
   have Ny817 := Aside0.mk hy817
   clear hy817
   by_cases c8 : 0 ≤ (t815.size : Int)
   ·rw [if_pos c8] at H
    have c8b0 := eq_true c8
    have c8b1 : decide (0 ≤ (t815.size : Int)) = true := decide_eq_true c8
    clear c8
    by_cases c9 : ((t815.size : Int) : Int).toNat ≤ 35184372088832
    ·rw [if_pos c9] at H
     have c9b0 := eq_true c9
     have c9b1 : decide (((t815.size : Int) : Int).toNat ≤ 35184372088832) = true := decide_eq_true c9
     clear c9
     obtain ⟨y820, hy820⟩ : ∃ y_ : List Int, y_ = (List.replicate ((t815.size : Int) : Int).toNat 0) := ⟨_, rfl⟩
     replace H : (foghornlaw20_MendReach.l0 k t816 l2 t815 y817 y820 t816 0) = some r := by first | (rw [hy820]; with_reducible exact H) | (have H2_ := (Option.bind_some _ _).symm.trans H; rw [hy820]; with_reducible exact H2_) | (have H2_ := (Option.bind_some _ _).symm.trans H; with_reducible exact H2_) | with_reducible exact H | (rw [hy820]; exact H) | exact H
     have Ny820 := Aside0.mk hy820
     clear hy820
     have H' := Aside0.mk H
     clear H
     go_enter Try.func11, Try.ntmps11
     go_wp2_with (first | ((with_reducible refine gate_callee (f := 49) rfl ?_); refine goesL_ (some 20) rfl rfl Try.func49 (by kernel_rfl) rfl #[] rfl (by (try simp only [List.map_toArray, List.map_cons, List.map_nil]); first | done | rfl | (simp only [List.length_drop, List.length_take]; rfl)) ?_; (with_reducible refine (foghornlaw20_awake.calls k  true _ A4.out).mono ?_); rintro e w10 ⟨rfl, hb⟩; refine ⟨_, rfl, ?_⟩; have n0_ := Aside0.mk (below_step (by repeat (first | (with_reducible first | exact HB.out | apply below_alloc | apply pw_below_drewN | apply below_drew1) | exact HB.out)) hb); clear HB; have HB := n0_; clear n0_; (try clear hb); (try clear hb2); (try clear hk); (try clear hi)) | ((with_reducible refine gate_callee (f := 50) rfl ?_); refine goesL_ (some 25) rfl rfl Try.func50 (by kernel_rfl) rfl #[.string a0, .int .i64 a1] rfl (by (try simp only [List.map_toArray, List.map_cons, List.map_nil]); first | done | rfl | (simp only [List.length_drop, List.length_take]; rfl)) ?_; (with_reducible refine (foghornlaw20_sent.calls k a0 a1 t815 t816 _ A6.out).mono ?_); rintro e w11 ⟨rfl, hb⟩; refine ⟨_, rfl, ?_⟩; have n0_ := Aside0.mk (below_step (by repeat (first | (with_reducible first | exact HB.out | apply below_alloc | apply pw_below_drewN | apply below_drew1) | exact HB.out)) hb); clear HB; have HB := n0_; clear n0_; (try clear hb); (try clear hb2); (try clear hk); (try clear hi)) | ((with_reducible refine gate_dst (N := 29) rfl ?_); refine ConvW.Q_conv rfl (N := 29) rfl 9 29 5 (.tmp 28) rfl Try.underlying9 Try.underlying29 Try.underlying5 _ (s := t815) rfl (ok := fun _ => True) trivial (Below.refl _ _) (Nat.le_refl _) (of_decide_eq_true (by first | (with_reducible assumption) | assumption)) ?_; intro v818 w12 ho13 hb hg_ hnew_; clear hg_ hnew_; (first | rw [← Ny817.out] at ho13 | (simp only [Int.reduceToNat] at ho13; rw [← Ny817.out] at ho13)); have n0_ := Aside0.mk (Kd.Q_lower ho13 (below_size (by repeat (first | (with_reducible first | exact HB.out | apply below_alloc | apply pw_below_drewN | apply below_drew1) | exact HB.out)))); have n1_ := Aside0.mk (below_step (by repeat (first | (with_reducible first | exact HB.out | apply below_alloc | apply pw_below_drewN | apply below_drew1) | exact HB.out)) hb); clear HB; have HO819 := n0_; have HB := n1_; clear n0_ n1_; clear hb ho13) | ((with_reducible refine gate_dst (N := 32) rfl ?_); refine Kd.R_make (Kd.int .i64) _ 3 rfl (N := 32) rfl 60 _ _ rfl (t815.size : Int) rfl rfl Try.underlying60 (.int .i64 0) 8 info3 rfl (by decide) (by omega) 0 (ok := fun _ => True) (okp := fun _ => True) rfl (fun _ hk => hk) trivial (of_decide_eq_true (by first | (with_reducible assumption) | assumption)) (Nat.le_trans (Nat.mul_le_mul_right _ (of_decide_eq_true (by first | (with_reducible assumption) | assumption) : (t815.size : Int).toNat ≤ 35184372088832)) (by omega)) (Below.refl _ _) (Nat.le_refl _) ?_; intro v821 w14 ho15 hb hg_ hnew_; clear hg_ hnew_; (first | rw [← Ny820.out] at ho15 | (simp only [Int.reduceToNat] at ho15; rw [← Ny820.out] at ho15)); have n0_ := Aside0.mk (Kd.Q_below (by (with_reducible repeat (first | apply Kd.Q_alloc | apply Kd.Q_drewN | apply Kd.Q_drew)); exact HO819.out) hb); have n1_ := Aside0.mk (Kd.R_lower ho15 (below_size (by repeat (first | (with_reducible first | exact HB.out | apply below_alloc | apply pw_below_drewN | apply below_drew1) | exact HB.out)))); have n2_ := Aside0.mk (below_step (by repeat (first | (with_reducible first | exact HB.out | apply below_alloc | apply pw_below_drewN | apply below_drew1) | exact HB.out)) hb); clear HO819; clear HB; have HO819 := n0_; have HO822 := n1_; have HB := n2_; clear n0_ n1_ n2_; clear hb ho15))
     go_loopg [10, 11] k (fun kq v10 v11 w' => ∃ (x8_1 : List Int) (x9_1 : List Int) (x10_1 : Int) (x11_1 : Int), v10 = .int .i64 x10_1 ∧ v11 = .int .i64 x11_1 ∧ Aside0 (foghornlaw20_MendReach.l0 kq t816 l2 t815 x8_1 x9_1 x10_1 x11_1 = some r) ∧ Aside0 (kq ≤ k) ∧ Aside0 (Kd.Q (Kd.int .u8) 5 w' w.heap.size (fun _ => True) v818 x8_1) ∧ Aside0 (Kd.R (Kd.int .i64) 3 w' w.heap.size (fun _ => True) v821 x9_1) ∧ Aside0 (Below w.heap.size w w'))
     case atStart => exact ⟨(y817), (y820), (t816), (0), (by first | rfl | (simp; done) | (simp [*]; done)), (by first | rfl | (simp; done) | (simp [*]; done)), H', ⟨Nat.le_refl _⟩, ⟨by (with_reducible repeat (first | apply Kd.Q_alloc | apply Kd.Q_drewN | apply Kd.Q_drew)); exact HO819.out⟩, ⟨by (with_reducible repeat (first | apply Kd.R_alloc | apply Kd.R_drewN | apply Kd.R_drew)); exact HO822.out⟩, ⟨by repeat (first | (with_reducible first | exact HB.out | apply below_alloc | apply pw_below_drewN | apply below_drew1) | exact HB.out)⟩⟩
     case round =>
      clear H'
      try clear c1
      try clear c2
      try clear p2
      try clear c4
      try clear c5
      try clear c7
      try clear c7b0
      try clear c7b1
      try clear c7b2
      try clear c8
      try clear c8b0
      try clear c8b1
      try clear c9
      try clear c9b0
      try clear c9b1
      try clear c11
      obtain ⟨x8_1, x9_1, x10_1, x11_1, rfl, rfl, HA, HK1, HO_8, HO_9, HB⟩ := hrel
      cases gk with
      | zero => exact absurd HA.out (by simp [foghornlaw20_MendReach.l0])
      | succ k1 =>
       have H := HA.out
       clear HA
       simp only [foghornlaw20_MendReach.l0] at H
       by_cases c16 : x11_1 < (l2.length : Int)
       ·rw [if_pos c16] at H
        have c16b0 : decide (x11_1 < (l2.length : Int)) = true := decide_eq_true c16
        clear c16
        by_cases c17 : 0 ≤ x11_1
        ·rw [if_pos c17] at H
         have c17b0 : decide (0 ≤ x11_1) = true := decide_eq_true c17
         clear c17
         by_cases c18 : (t815.size : Int) = 0
         ·rw [if_pos c18] at H
          exact absurd H (by simp)
         ·rw [if_neg c18] at H
          have c18b0 : ((t815.size : Int) == 0) = false := beq_eq_false_iff_ne.mpr c18
          have c18b1 : ((t815.size : Int) != 0) = true := bne_iff_ne.mpr c18
          have HC19 := Aside0.mk H
          clear H
          have p823 : 0 ≤ (x11_1 : Int) := of_decide_eq_true (by first | (with_reducible assumption) | assumption)
          have q823 : x11_1 < (l2.length : Int) := of_decide_eq_true (by first | (with_reducible assumption) | assumption)
          obtain ⟨ad823, e823, hx823_0, hx823_1, hx823_2⟩ := at_T62 HR2.out x11_1 p823 q823
          cases e823
          replace hx823_0 := (HB.out.cell (World.block_lt_of_cell? w _ hx823_0)).trans hx823_0
          replace hx823_1 := (HB.out.cell (World.block_lt_of_cell? w _ hx823_1)).trans hx823_1
          replace hx823_2 := (HB.out.cell (World.block_lt_of_cell? w _ hx823_2)).trans hx823_2
          replace p823 := eq_true p823
          replace q823 := eq_true q823
          have p824 : 0 ≤ (x11_1 : Int) := of_decide_eq_true (by first | (with_reducible assumption) | assumption)
          have q824 : x11_1 < (l2.length : Int) := of_decide_eq_true (by first | (with_reducible assumption) | assumption)
          obtain ⟨ad824, e824, hx824_0, hx824_1, hx824_2⟩ := at_T62 HR2.out x11_1 p824 q824
          obtain rfl : ad823 = ad824 := (by injection e824)
          replace hx824_0 := (HB.out.cell (World.block_lt_of_cell? w _ hx824_0)).trans hx824_0
          replace hx824_1 := (HB.out.cell (World.block_lt_of_cell? w _ hx824_1)).trans hx824_1
          replace hx824_2 := (HB.out.cell (World.block_lt_of_cell? w _ hx824_2)).trans hx824_2
          replace p824 := eq_true p824
          replace q824 := eq_true q824
          go_upto_if 58 with (fail)
          go_cut [13] (fun v13 wc => ∃ (kq : Nat) (x13_18 : Int), v13 = .int .i64 x13_18 ∧ Aside0 (foghornlaw20_MendReach.j1 kq t816 l2 t815 x8_1 x9_1 x10_1 x11_1 (Int.tmod (wrap64 ((Int.tmod ((rd_T62 l2 x11_1).f0) (t815.size : Int)) + (t815.size : Int))) (t815.size : Int)) x13_18 = some r) ∧ Aside0 (kq ≤ k1) ∧ Aside0 (Kd.Q (Kd.int .u8) 5 wc w.heap.size (fun _ => True) v818 x8_1) ∧ Aside0 (Kd.R (Kd.int .i64) 3 wc w.heap.size (fun _ => True) v821 x9_1) ∧ Aside0 (Below w.heap.size w wc))
          case first =>
           have H := HC19.out
           clear HC19
           obtain ⟨bq20, hbq20⟩ : ∃ b_ : Bool, b_ = ((rd_T62 l2 x11_1).f1) := ⟨_, rfl⟩
           replace H : (if bq20 = true then (foghornlaw20_MendReach.j1 k1 t816 l2 t815 x8_1 x9_1 x10_1 x11_1 (Int.tmod (wrap64 ((Int.tmod ((rd_T62 l2 x11_1).f0) (t815.size : Int)) + (t815.size : Int))) (t815.size : Int)) 1) else (foghornlaw20_MendReach.j1 k1 t816 l2 t815 x8_1 x9_1 x10_1 x11_1 (Int.tmod (wrap64 ((Int.tmod ((rd_T62 l2 x11_1).f0) (t815.size : Int)) + (t815.size : Int))) (t815.size : Int)) 2)) = some r := by rw [← hbq20] at H; exact H
           have Nbq20 := Aside0.mk hbq20
           clear hbq20
           (try rw [← Nbq20.out])
           by_cases c21 : bq20 = true
           ·subst c21
            have H1 : (foghornlaw20_MendReach.j1 k1 t816 l2 t815 x8_1 x9_1 x10_1 x11_1 (Int.tmod (wrap64 ((Int.tmod ((rd_T62 l2 x11_1).f0) (t815.size : Int)) + (t815.size : Int))) (t815.size : Int)) 1) = some r := by rw [if_pos rfl] at H; exact H
            clear H
            have H := H1
            clear H1
            as_aux_lemma =>
             have H' := Aside0.mk H
             clear H
             go_wp2
             go_meet
             case rel => exact ⟨_, (1), (by first | rfl | (simp; done) | (simp [*]; done)), H', ⟨by have := HK1.out; first | omega | exact Nat.le_refl _⟩, ⟨by (with_reducible repeat (first | apply Kd.Q_alloc | apply Kd.Q_drewN | apply Kd.Q_drew)); exact HO_8.out⟩, ⟨by (with_reducible repeat (first | apply Kd.R_alloc | apply Kd.R_drewN | apply Kd.R_drew)); exact HO_9.out⟩, ⟨by repeat (first | (with_reducible first | exact HB.out | apply below_alloc | apply pw_below_drewN | apply below_drew1) | exact HB.out)⟩⟩
           ·replace c21 := Bool.eq_false_iff.mpr c21
            subst c21
            have H1 : (foghornlaw20_MendReach.j1 k1 t816 l2 t815 x8_1 x9_1 x10_1 x11_1 (Int.tmod (wrap64 ((Int.tmod ((rd_T62 l2 x11_1).f0) (t815.size : Int)) + (t815.size : Int))) (t815.size : Int)) 2) = some r := by rw [if_neg (show ¬ (false = true) by decide)] at H; exact H
            clear H
            have H := H1
            clear H1
            as_aux_lemma =>
             have H' := Aside0.mk H
             clear H
             go_wp2
             go_meet
             case rel => exact ⟨_, (2), (by first | rfl | (simp; done) | (simp [*]; done)), H', ⟨by have := HK1.out; first | omega | exact Nat.le_refl _⟩, ⟨by (with_reducible repeat (first | apply Kd.Q_alloc | apply Kd.Q_drewN | apply Kd.Q_drew)); exact HO_8.out⟩, ⟨by (with_reducible repeat (first | apply Kd.R_alloc | apply Kd.R_drewN | apply Kd.R_drew)); exact HO_9.out⟩, ⟨by repeat (first | (with_reducible first | exact HB.out | apply below_alloc | apply pw_below_drewN | apply below_drew1) | exact HB.out)⟩⟩
          case rest =>
           clear HC19
           try clear c1
           try clear c2
           try clear p2
           try clear q2
           try clear c4
           try clear c5
           try clear p6
           try clear c7
           try clear c7b0
           try clear c7b1
           try clear c7b2
           try clear c8
           try clear c8b0
           try clear c8b1
           try clear p8
           try clear q8
           try clear hx8
           try clear c9
           try clear c9b0
           try clear c9b1
           try clear c11
           try clear c16
           try clear c16b0
           try clear c17
           try clear c17b0
           try clear c18
           try clear c18b0
           try clear c18b1
           try clear q20
           try clear c21
           try clear hx823_0
           try clear hx823_1
           try clear hx823_2
           try clear hx824_0
           try clear hx824_1
           try clear hx824_2
           try clear p2
           try clear p823
           try clear p824
           try clear q823
           try clear q824
           obtain ⟨kq, x13_18, rfl, HA, HJ18, HO_8, HO_9, HB⟩ := hcut
           cases kq with
           | zero => exact absurd HA.out (by simp [foghornlaw20_MendReach.j1])
           | succ kj18 =>
            have H := HA.out
            clear HA
            simp only [foghornlaw20_MendReach.j1] at H
            have HC22 := Aside0.mk H
            clear H
            go_upto_region 14 with (fail)
            go_cut [68] (fun v68 wc => ∃ (kq : Nat) (x68_21 : Bool), v68 = .bool x68_21 ∧ Aside0 (foghornlaw20_MendReach.j2 kq t816 l2 t815 x8_1 x9_1 x10_1 x11_1 (Int.tmod (wrap64 ((Int.tmod ((rd_T62 l2 x11_1).f0) (t815.size : Int)) + (t815.size : Int))) (t815.size : Int)) x13_18 x68_21 = some r) ∧ Aside0 (kq ≤ kj18) ∧ Aside0 (Kd.Q (Kd.int .u8) 5 wc w.heap.size (fun _ => True) v818 x8_1) ∧ Aside0 (Kd.R (Kd.int .i64) 3 wc w.heap.size (fun _ => True) v821 x9_1) ∧ Aside0 (Below w.heap.size w wc))
            case first =>
             have H := HC22.out
             clear HC22
             obtain ⟨ji23, hji23⟩ : ∃ j_ : Int, (Int.tmod (wrap64 ((Int.tmod ((rd_T62 l2 x11_1).f0) (t815.size : Int)) + (t815.size : Int))) (t815.size : Int)) = j_ := ⟨_, rfl⟩
             replace H : (if 0 ≤ (ji23) then (if (ji23) < (x9_1.length : Int) then (if (rd x9_1 (ji23)) = 0 then (foghornlaw20_MendReach.j2 kj18 t816 l2 t815 x8_1 x9_1 x10_1 x11_1 (ji23) x13_18 (decide (x10_1 < x13_18))) else (foghornlaw20_MendReach.j2 kj18 t816 l2 t815 x8_1 x9_1 x10_1 x11_1 (ji23) x13_18 true)) else (none)) else (none)) = some r := by first | (rw [hji23] at H; exact H) | (simp only [hji23] at H ⊢; exact H)
             by_cases c24 : 0 ≤ (ji23)
             ·rw [if_pos c24] at H
              have c24b0 : decide (0 ≤ (ji23)) = true := decide_eq_true c24
              clear c24
              (first | rw [c24b0] | (simp only [i64_w, i32_w]; rw [c24b0]) | skip)
              by_cases c25 : (ji23) < (x9_1.length : Int)
              ·rw [if_pos c25] at H
               have c25b0 : decide ((ji23) < (x9_1.length : Int)) = true := decide_eq_true c25
               clear c25
               by_cases c26 : (rd x9_1 (ji23)) = 0
               ·rw [if_pos c26] at H
                have c26b0 : ((rd x9_1 (ji23)) == 0) = true := beq_iff_eq.mpr c26
                have c26b1 : ((rd x9_1 (ji23)) != 0) = false := bne_eq_false_iff_eq.mpr c26
                clear c26
                as_aux_lemma =>
                 have H' := Aside0.mk H
                 clear H
                 obtain ⟨Ao27, co27, eo27⟩ := Kd.R_slice HO_9.out
                 subst eo27
                 have p825 : 0 ≤ ((ji23) : Int) := of_decide_eq_true (by first | (with_reducible assumption) | assumption)
                 have q825 : (ji23) < (x9_1.length : Int) := of_decide_eq_true (by first | (with_reducible assumption) | assumption)
                 obtain ⟨ad825, e825, hx825_0⟩ := Kd.at_int (Kd.R_reads' HO_9.out).2.2 (ji23) p825 q825
                 cases e825
                 replace p825 := eq_true p825
                 replace q825 := eq_true q825
                 go_wp2
                 (try subst hji23)
                 go_meet
                 case rel => exact ⟨_, (decide (x10_1 < x13_18)), (by first | rfl | (simp; done) | (simp [*]; done)), H', ⟨by have := HK1.out; have := HJ18.out; first | omega | exact Nat.le_refl _⟩, ⟨by (with_reducible repeat (first | apply Kd.Q_alloc | apply Kd.Q_drewN | apply Kd.Q_drew)); exact HO_8.out⟩, ⟨by (with_reducible repeat (first | apply Kd.R_alloc | apply Kd.R_drewN | apply Kd.R_drew)); exact HO_9.out⟩, ⟨by repeat (first | (with_reducible first | exact HB.out | apply below_alloc | apply pw_below_drewN | apply below_drew1) | exact HB.out)⟩⟩
               ·rw [if_neg c26] at H
                have c26b0 : ((rd x9_1 (ji23)) == 0) = false := beq_eq_false_iff_ne.mpr c26
                have c26b1 : ((rd x9_1 (ji23)) != 0) = true := bne_iff_ne.mpr c26
                as_aux_lemma =>
                 have H' := Aside0.mk H
                 clear H
                 obtain ⟨Ao28, co28, eo28⟩ := Kd.R_slice HO_9.out
                 subst eo28
                 have p825 : 0 ≤ ((ji23) : Int) := of_decide_eq_true (by first | (with_reducible assumption) | assumption)
                 have q825 : (ji23) < (x9_1.length : Int) := of_decide_eq_true (by first | (with_reducible assumption) | assumption)
                 obtain ⟨ad825, e825, hx825_0⟩ := Kd.at_int (Kd.R_reads' HO_9.out).2.2 (ji23) p825 q825
                 cases e825
                 replace p825 := eq_true p825
                 replace q825 := eq_true q825
                 go_wp2
                 (try subst hji23)
                 go_meet
                 case rel => exact ⟨_, (true), (by first | rfl | (simp; done) | (simp [*]; done)), H', ⟨by have := HK1.out; have := HJ18.out; first | omega | exact Nat.le_refl _⟩, ⟨by (with_reducible repeat (first | apply Kd.Q_alloc | apply Kd.Q_drewN | apply Kd.Q_drew)); exact HO_8.out⟩, ⟨by (with_reducible repeat (first | apply Kd.R_alloc | apply Kd.R_drewN | apply Kd.R_drew)); exact HO_9.out⟩, ⟨by repeat (first | (with_reducible first | exact HB.out | apply below_alloc | apply pw_below_drewN | apply below_drew1) | exact HB.out)⟩⟩
              ·rw [if_neg c25] at H
               exact absurd H (by simp)
             ·rw [if_neg c24] at H
              exact absurd H (by simp)
            case rest =>
             clear HC22
             try clear c1
             try clear c2
             try clear p2
             try clear q2
             try clear c4
             try clear c5
             try clear p6
             try clear c7
             try clear c7b0
             try clear c7b1
             try clear c7b2
             try clear c8
             try clear c8b0
             try clear c8b1
             try clear p8
             try clear q8
             try clear hx8
             try clear c9
             try clear c9b0
             try clear c9b1
             try clear c11
             try clear c16
             try clear c16b0
             try clear c17
             try clear c17b0
             try clear c18
             try clear c18b0
             try clear c18b1
             try clear q20
             try clear c21
             try clear c24
             try clear c24b0
             try clear c25
             try clear c25b0
             try clear c26
             try clear c26b0
             try clear c26b1
             try clear hx823_0
             try clear hx823_1
             try clear hx823_2
             try clear hx824_0
             try clear hx824_1
             try clear hx824_2
             try clear hx825_0
             try clear p2
             try clear p6
             try clear p8
             try clear p823
             try clear p824
             try clear p825
             try clear q2
             try clear q20
             try clear q8
             try clear q823
             try clear q824
             try clear q825
             obtain ⟨kq, x68_21, rfl, HA, HJ21, HO_8, HO_9, HB⟩ := hcut
             cases kq with
             | zero => exact absurd HA.out (by simp [foghornlaw20_MendReach.j2])
             | succ kj21 =>
              have H := HA.out
              clear HA
              simp only [foghornlaw20_MendReach.j2] at H
              by_cases c29 : x68_21 = true
              ·subst c29
               have H1 : (foghornlaw20_MendReach.l0 kj21 t816 l2 t815 x8_1 x9_1 x10_1 (wrap64 (x11_1 + 1))) = some r := by rw [if_pos rfl] at H; exact H
               clear H
               have H := H1
               clear H1
               as_aux_lemma =>
                have H' := Aside0.mk H
                clear H
                go_wp2
                first | go_roundg kj21 | (simp only [add_plain] at *; go_roundg kj21)
                case measure => have := HK1.out; have := HJ18.out; have := HJ21.out; omega
                case rel => exact ⟨(x8_1), (x9_1), (x10_1), (wrap64 (x11_1 + 1)), (by first | rfl | (simp; done) | (simp [*]; done)), (by first | rfl | (simp; done) | (simp [*]; done)), H', ⟨by have := HK1.out; have := HJ18.out; have := HJ21.out; omega⟩, ⟨by (with_reducible repeat (first | apply Kd.Q_alloc | apply Kd.Q_drewN | apply Kd.Q_drew)); exact HO_8.out⟩, ⟨by (with_reducible repeat (first | apply Kd.R_alloc | apply Kd.R_drewN | apply Kd.R_drew)); exact HO_9.out⟩, ⟨by repeat (first | (with_reducible first | exact HB.out | apply below_alloc | apply pw_below_drewN | apply below_drew1) | exact HB.out)⟩⟩
              ·replace c29 := Bool.eq_false_iff.mpr c29
               subst c29
               have H1 : (if 0 ≤ x11_1 then (if x11_1 < (l2.length : Int) then (if ((rd_T62 l2 x11_1).f1 = true) then (if 0 ≤ (Int.tmod (wrap64 ((Int.tmod ((rd_T62 l2 x11_1).f0) (t815.size : Int)) + (t815.size : Int))) (t815.size : Int)) then (if (Int.tmod (wrap64 ((Int.tmod ((rd_T62 l2 x11_1).f0) (t815.size : Int)) + (t815.size : Int))) (t815.size : Int)) < (x9_1.length : Int) then (if (Int.tmod (wrap64 ((Int.tmod ((rd_T62 l2 x11_1).f0) (t815.size : Int)) + (t815.size : Int))) (t815.size : Int)) < (x8_1.length : Int) then (foghornlaw20_MendReach.l0 kj21 t816 l2 t815 (x8_1.set ((Int.tmod (wrap64 ((Int.tmod ((rd_T62 l2 x11_1).f0) (t815.size : Int)) + (t815.size : Int))) (t815.size : Int)) : Int).toNat (Go.bits .xor .u8 (rd x8_1 (Int.tmod (wrap64 ((Int.tmod ((rd_T62 l2 x11_1).f0) (t815.size : Int)) + (t815.size : Int))) (t815.size : Int))) ((rd_T62 l2 x11_1).f2))) (x9_1.set ((Int.tmod (wrap64 ((Int.tmod ((rd_T62 l2 x11_1).f0) (t815.size : Int)) + (t815.size : Int))) (t815.size : Int)) : Int).toNat (wrap64 (3 - x13_18))) (wrap64 (x10_1 - x13_18)) (wrap64 (x11_1 + 1))) else (none)) else (none)) else (none)) else (if ((rd_T62 l2 x11_1).f2) = 0 then (foghornlaw20_MendReach.l0 kj21 t816 l2 t815 x8_1 x9_1 x10_1 (wrap64 (x11_1 + 1))) else (if 0 ≤ (Int.tmod (wrap64 ((Int.tmod ((rd_T62 l2 x11_1).f0) (t815.size : Int)) + (t815.size : Int))) (t815.size : Int)) then (if (Int.tmod (wrap64 ((Int.tmod ((rd_T62 l2 x11_1).f0) (t815.size : Int)) + (t815.size : Int))) (t815.size : Int)) < (x9_1.length : Int) then (if (Int.tmod (wrap64 ((Int.tmod ((rd_T62 l2 x11_1).f0) (t815.size : Int)) + (t815.size : Int))) (t815.size : Int)) < (x8_1.length : Int) then (foghornlaw20_MendReach.l0 kj21 t816 l2 t815 (x8_1.set ((Int.tmod (wrap64 ((Int.tmod ((rd_T62 l2 x11_1).f0) (t815.size : Int)) + (t815.size : Int))) (t815.size : Int)) : Int).toNat (Go.bits .xor .u8 (rd x8_1 (Int.tmod (wrap64 ((Int.tmod ((rd_T62 l2 x11_1).f0) (t815.size : Int)) + (t815.size : Int))) (t815.size : Int))) ((rd_T62 l2 x11_1).f2))) (x9_1.set ((Int.tmod (wrap64 ((Int.tmod ((rd_T62 l2 x11_1).f0) (t815.size : Int)) + (t815.size : Int))) (t815.size : Int)) : Int).toNat (wrap64 (3 - x13_18))) (wrap64 (x10_1 - x13_18)) (wrap64 (x11_1 + 1))) else (none)) else (none)) else (none)))) else (none)) else (none)) = some r := by rw [if_neg (show ¬ (false = true) by decide)] at H; exact H
               clear H
               have H := H1
               clear H1
               by_cases c30 : 0 ≤ x11_1
               ·rw [if_pos c30] at H
                have c30b0 : decide (0 ≤ x11_1) = true := decide_eq_true c30
                clear c30
                by_cases c31 : x11_1 < (l2.length : Int)
                ·rw [if_pos c31] at H
                 have c31b0 : decide (x11_1 < (l2.length : Int)) = true := decide_eq_true c31
                 clear c31
                 obtain ⟨bq32, hbq32⟩ : ∃ b_ : Bool, b_ = ((rd_T62 l2 x11_1).f1) := ⟨_, rfl⟩
                 replace H : (if (bq32 = true) then (if 0 ≤ (Int.tmod (wrap64 ((Int.tmod ((rd_T62 l2 x11_1).f0) (t815.size : Int)) + (t815.size : Int))) (t815.size : Int)) then (if (Int.tmod (wrap64 ((Int.tmod ((rd_T62 l2 x11_1).f0) (t815.size : Int)) + (t815.size : Int))) (t815.size : Int)) < (x9_1.length : Int) then (if (Int.tmod (wrap64 ((Int.tmod ((rd_T62 l2 x11_1).f0) (t815.size : Int)) + (t815.size : Int))) (t815.size : Int)) < (x8_1.length : Int) then (foghornlaw20_MendReach.l0 kj21 t816 l2 t815 (x8_1.set ((Int.tmod (wrap64 ((Int.tmod ((rd_T62 l2 x11_1).f0) (t815.size : Int)) + (t815.size : Int))) (t815.size : Int)) : Int).toNat (Go.bits .xor .u8 (rd x8_1 (Int.tmod (wrap64 ((Int.tmod ((rd_T62 l2 x11_1).f0) (t815.size : Int)) + (t815.size : Int))) (t815.size : Int))) ((rd_T62 l2 x11_1).f2))) (x9_1.set ((Int.tmod (wrap64 ((Int.tmod ((rd_T62 l2 x11_1).f0) (t815.size : Int)) + (t815.size : Int))) (t815.size : Int)) : Int).toNat (wrap64 (3 - x13_18))) (wrap64 (x10_1 - x13_18)) (wrap64 (x11_1 + 1))) else (none)) else (none)) else (none)) else (if ((rd_T62 l2 x11_1).f2) = 0 then (foghornlaw20_MendReach.l0 kj21 t816 l2 t815 x8_1 x9_1 x10_1 (wrap64 (x11_1 + 1))) else (if 0 ≤ (Int.tmod (wrap64 ((Int.tmod ((rd_T62 l2 x11_1).f0) (t815.size : Int)) + (t815.size : Int))) (t815.size : Int)) then (if (Int.tmod (wrap64 ((Int.tmod ((rd_T62 l2 x11_1).f0) (t815.size : Int)) + (t815.size : Int))) (t815.size : Int)) < (x9_1.length : Int) then (if (Int.tmod (wrap64 ((Int.tmod ((rd_T62 l2 x11_1).f0) (t815.size : Int)) + (t815.size : Int))) (t815.size : Int)) < (x8_1.length : Int) then (foghornlaw20_MendReach.l0 kj21 t816 l2 t815 (x8_1.set ((Int.tmod (wrap64 ((Int.tmod ((rd_T62 l2 x11_1).f0) (t815.size : Int)) + (t815.size : Int))) (t815.size : Int)) : Int).toNat (Go.bits .xor .u8 (rd x8_1 (Int.tmod (wrap64 ((Int.tmod ((rd_T62 l2 x11_1).f0) (t815.size : Int)) + (t815.size : Int))) (t815.size : Int))) ((rd_T62 l2 x11_1).f2))) (x9_1.set ((Int.tmod (wrap64 ((Int.tmod ((rd_T62 l2 x11_1).f0) (t815.size : Int)) + (t815.size : Int))) (t815.size : Int)) : Int).toNat (wrap64 (3 - x13_18))) (wrap64 (x10_1 - x13_18)) (wrap64 (x11_1 + 1))) else (none)) else (none)) else (none)))) = some r := by rw [← hbq32] at H; exact H
                 have Nbq32 := Aside0.mk hbq32
                 clear hbq32
                 by_cases c33 : (bq32 = true)
                 ·subst c33
                  have H1 : (if 0 ≤ (Int.tmod (wrap64 ((Int.tmod ((rd_T62 l2 x11_1).f0) (t815.size : Int)) + (t815.size : Int))) (t815.size : Int)) then (if (Int.tmod (wrap64 ((Int.tmod ((rd_T62 l2 x11_1).f0) (t815.size : Int)) + (t815.size : Int))) (t815.size : Int)) < (x9_1.length : Int) then (if (Int.tmod (wrap64 ((Int.tmod ((rd_T62 l2 x11_1).f0) (t815.size : Int)) + (t815.size : Int))) (t815.size : Int)) < (x8_1.length : Int) then (foghornlaw20_MendReach.l0 kj21 t816 l2 t815 (x8_1.set ((Int.tmod (wrap64 ((Int.tmod ((rd_T62 l2 x11_1).f0) (t815.size : Int)) + (t815.size : Int))) (t815.size : Int)) : Int).toNat (Go.bits .xor .u8 (rd x8_1 (Int.tmod (wrap64 ((Int.tmod ((rd_T62 l2 x11_1).f0) (t815.size : Int)) + (t815.size : Int))) (t815.size : Int))) ((rd_T62 l2 x11_1).f2))) (x9_1.set ((Int.tmod (wrap64 ((Int.tmod ((rd_T62 l2 x11_1).f0) (t815.size : Int)) + (t815.size : Int))) (t815.size : Int)) : Int).toNat (wrap64 (3 - x13_18))) (wrap64 (x10_1 - x13_18)) (wrap64 (x11_1 + 1))) else (none)) else (none)) else (none)) = some r := by rw [if_pos rfl] at H; exact H
                  clear H
                  have H := H1
                  clear H1
                  obtain ⟨ji34, hji34⟩ : ∃ j_ : Int, (Int.tmod (wrap64 ((Int.tmod ((rd_T62 l2 x11_1).f0) (t815.size : Int)) + (t815.size : Int))) (t815.size : Int)) = j_ := ⟨_, rfl⟩
                  replace H : (if 0 ≤ (ji34) then (if (ji34) < (x9_1.length : Int) then (if (ji34) < (x8_1.length : Int) then (foghornlaw20_MendReach.l0 kj21 t816 l2 t815 (x8_1.set ((ji34) : Int).toNat (Go.bits .xor .u8 (rd x8_1 (ji34)) ((rd_T62 l2 x11_1).f2))) (x9_1.set ((ji34) : Int).toNat (wrap64 (3 - x13_18))) (wrap64 (x10_1 - x13_18)) (wrap64 (x11_1 + 1))) else (none)) else (none)) else (none)) = some r := by first | (rw [hji34] at H; exact H) | (simp only [hji34] at H ⊢; exact H)
                  by_cases c35 : 0 ≤ (ji34)
                  ·rw [if_pos c35] at H
                   have c35b0 : decide (0 ≤ (ji34)) = true := decide_eq_true c35
                   clear c35
                   by_cases c36 : (ji34) < (x9_1.length : Int)
                   ·rw [if_pos c36] at H
                    have c36b0 : decide ((ji34) < (x9_1.length : Int)) = true := decide_eq_true c36
                    clear c36
                    obtain ⟨y827, hy827⟩ : ∃ y_ : List Int, y_ = (x9_1.set ((ji34) : Int).toNat (wrap64 (3 - x13_18))) := ⟨_, rfl⟩
                    replace H : (if (ji34) < (x8_1.length : Int) then (foghornlaw20_MendReach.l0 kj21 t816 l2 t815 (x8_1.set ((ji34) : Int).toNat (Go.bits .xor .u8 (rd x8_1 (ji34)) ((rd_T62 l2 x11_1).f2))) y827 (wrap64 (x10_1 - x13_18)) (wrap64 (x11_1 + 1))) else (none)) = some r := by first | (rw [hy827]; with_reducible exact H) | (have H2_ := (Option.bind_some _ _).symm.trans H; rw [hy827]; with_reducible exact H2_) | (have H2_ := (Option.bind_some _ _).symm.trans H; with_reducible exact H2_) | with_reducible exact H | (rw [hy827]; exact H) | exact H
                    have Ny827 := Aside0.mk hy827
                    clear hy827
                    by_cases c38 : (ji34) < (x8_1.length : Int)
                    ·rw [if_pos c38] at H
                     have c38b0 : decide ((ji34) < (x8_1.length : Int)) = true := decide_eq_true c38
                     clear c38
                     obtain ⟨y830, hy830⟩ : ∃ y_ : List Int, y_ = (x8_1.set ((ji34) : Int).toNat (Go.bits .xor .u8 (rd x8_1 (ji34)) ((rd_T62 l2 x11_1).f2))) := ⟨_, rfl⟩
                     replace H : (foghornlaw20_MendReach.l0 kj21 t816 l2 t815 y830 y827 (wrap64 (x10_1 - x13_18)) (wrap64 (x11_1 + 1))) = some r := by first | (rw [hy830]; with_reducible exact H) | (have H2_ := (Option.bind_some _ _).symm.trans H; rw [hy830]; with_reducible exact H2_) | (have H2_ := (Option.bind_some _ _).symm.trans H; with_reducible exact H2_) | with_reducible exact H | (rw [hy830]; exact H) | exact H
                     have Ny830 := Aside0.mk hy830
                     clear hy830
                     as_aux_lemma =>
                      have H' := Aside0.mk H
                      clear H
                      have p826 : 0 ≤ (x11_1 : Int) := of_decide_eq_true (by first | (with_reducible assumption) | assumption)
                      have q826 : x11_1 < (l2.length : Int) := of_decide_eq_true (by first | (with_reducible assumption) | assumption)
                      obtain ⟨ad826, e826, hx826_0, hx826_1, hx826_2⟩ := at_T62 HR2.out x11_1 p826 q826
                      (try rw [← Nbq32.out] at hx826_1)
                      obtain rfl : ad823 = ad826 := (by injection e826)
                      replace hx826_0 := (HB.out.cell (World.block_lt_of_cell? w _ hx826_0)).trans hx826_0
                      replace hx826_1 := (HB.out.cell (World.block_lt_of_cell? w _ hx826_1)).trans hx826_1
                      replace hx826_2 := (HB.out.cell (World.block_lt_of_cell? w _ hx826_2)).trans hx826_2
                      replace p826 := eq_true p826
                      replace q826 := eq_true q826
                      have p37 : 0 ≤ ((ji34) : Int) := of_decide_eq_true (by first | (with_reducible assumption) | assumption)
                      have q37 : ((ji34) : Int) < ((x9_1.length : Int) : Int) := of_decide_eq_true (by first | (with_reducible assumption) | assumption)
                      obtain ⟨go37, co37, eo37, gb37, gl37, cl37, HG37⟩ := Kd.R_form HO_9.out (by omega)
                      (first | cases eo37 | (injection eo37 with ea_ en_ ec_; (first | subst ea_ | (injection ea_ with ea_; subst ea_)); subst ec_; clear en_))
                      have GB37 := Aside0.mk gb37
                      have GG37 := Aside0.mk HG37
                      clear gb37 gl37 HG37
                      obtain ⟨hx37_0, hf37_0⟩ := Kd.R_celln 0 HO_9.out ((ji34) : Int) p37 q37
                      replace p37 := eq_true p37
                      replace q37 := eq_true q37
                      have HP40 := Kd.R_putg HO_9.out ((ji34) : Int) (wrap64 (3 - x13_18))
                      try go_wp2_with (first | ((with_reducible refine gate_store (t := 3) (p := 90) rfl ?_); refine store_event (t := 3) (p := 90) (v := ?vo_w41) (w1 := (wc.setCell ⟨go37, ((ji34) : Int).toNat, none⟩ (.int .i64 (wrap64 (3 - x13_18))))) ?hg ?ho ?hn ?hr ?_; (case ho => rfl); (case hg => rfl); (case hn => rfl); (case hr => first | (go_simp; done) | (go_simp; rfl)); intro w41 hw; have hg : wc.grownBy w41 (some go37) := (by rw [hw]; exact HP40.2); have hp_ : Kd.R (Kd.int .i64) 3 w41 w.heap.size (fun _ => True) (.slice (some ⟨go37, 0, none⟩) x9_1.length co37) y827 := (by rw [hw, Ny827.out]; exact HP40.1); clear HP40; have n0_ := Aside0.mk (Kd.Q_over' (v := (.slice (some ⟨go37, 0, none⟩) x9_1.length co37)) (by (with_reducible repeat (first | apply Kd.Q_alloc | apply Kd.Q_drewN | apply Kd.Q_drew)); exact HO_8.out) (Kd.R_typed HO_9.out) (by decide) hg); have n1_ := Aside0.mk (hp_); have n2_ := Aside0.mk ((by rw [hw]; exact below_set (HB.out) GB37.out : Below w.heap.size w w41)); clear HO_8; clear HO_9; clear HB; have HO_8 := n0_; have HO_9 := n1_; have HB := n2_; clear n0_ n1_ n2_; clear hg hw hp_))
                      have n0_ := Aside0.mk (Kd.Q_drew HO_8.out)
                      have n1_ := Aside0.mk (Kd.R_drew HO_9.out)
                      have n2_ := Aside0.mk (below_drew1 HB.out)
                      clear HO_8
                      clear HO_9
                      clear HB
                      have HO_8 := n0_
                      have HO_9 := n1_
                      have HB := n2_
                      clear n0_ n1_ n2_
                      obtain ⟨Ao43, co43, eo43, _⟩ := Kd.Q_slice HO_8.out
                      (first | subst eo43 | (injection eo43 with f1_ f2_ f3_; have f4_ := f1_.symm; have f5_ := f3_.symm; clear f1_ f2_ f3_; subst f4_; subst f5_))
                      have p828 : 0 ≤ ((ji34) : Int) := of_decide_eq_true (by first | (with_reducible assumption) | assumption)
                      have q828 : (ji34) < (x8_1.length : Int) := of_decide_eq_true (by first | (with_reducible assumption) | assumption)
                      obtain ⟨ad828, e828, hx828_0⟩ := Kd.at_int (Kd.Q_reads' HO_8.out).2.2 (ji34) p828 q828
                      cases e828
                      replace p828 := eq_true p828
                      replace q828 := eq_true q828
                      have p829 : 0 ≤ (x11_1 : Int) := of_decide_eq_true (by first | (with_reducible assumption) | assumption)
                      have q829 : x11_1 < (l2.length : Int) := of_decide_eq_true (by first | (with_reducible assumption) | assumption)
                      obtain ⟨ad829, e829, hx829_0, hx829_1, hx829_2⟩ := at_T62 HR2.out x11_1 p829 q829
                      have hw829_2 := hx829_2
                      (try rw [← Nbq32.out] at hw829_2)
                      have hw829_1 := hx829_1
                      (try rw [← Nbq32.out] at hw829_1)
                      have hw829_0 := hx829_0
                      (try rw [← Nbq32.out] at hw829_0)
                      (try rw [← Nbq32.out] at hx829_1)
                      obtain rfl : ad823 = ad829 := (by injection e829)
                      replace hx829_0 := (HB.out.cell (World.block_lt_of_cell? w _ hx829_0)).trans hx829_0
                      replace hx829_1 := (HB.out.cell (World.block_lt_of_cell? w _ hx829_1)).trans hx829_1
                      replace hx829_2 := (HB.out.cell (World.block_lt_of_cell? w _ hx829_2)).trans hx829_2
                      replace p829 := eq_true p829
                      replace q829 := eq_true q829
                      have p39 : 0 ≤ ((ji34) : Int) := of_decide_eq_true (by first | (with_reducible assumption) | assumption)
                      have q39 : ((ji34) : Int) < ((x8_1.length : Int) : Int) := of_decide_eq_true (by first | (with_reducible assumption) | assumption)
                      obtain ⟨go39, oo39, co39, eo39, gb39, gl39, cl39, HG39⟩ := Kd.Q_form HO_8.out (by omega)
                      (first | cases eo39 | (injection eo39 with ea_ en_ ec_; (first | subst ea_ | (injection ea_ with ea_; subst ea_)); subst ec_; clear en_))
                      have GB39 := Aside0.mk gb39
                      have GG39 := Aside0.mk HG39
                      clear gb39 gl39 HG39
                      (first | simp only [add_at] at hx828_0 | skip)
                      obtain ⟨hx39_0, hf39_0⟩ := Kd.Q_cell 0 HO_8.out ((ji34) : Int) p39 q39
                      replace p39 := eq_true p39
                      replace q39 := eq_true q39
                      have HP44 := (Kd.Q_putg HO_8.out ((ji34) : Int) (of_decide_eq_true (by first | (with_reducible assumption) | assumption)) (by have h_ : ((ji34) : Int) < ((x8_1.length : Int) : Int) := of_decide_eq_true (by first | (with_reducible assumption) | assumption); first | exact h_ | (have e_ := (Kd.Q_reads' HO_8.out).1; omega) | simpa using h_) (Go.bits .xor .u8 (rd x8_1 (ji34)) ((rd_T62 l2 x11_1).f2))).1
                      rw [← Ny830.out] at HP44
                      have HQ44 := Aside0.mk HP44
                      clear HP44
                      refine start_ (n := 14) (S := fun w' => w'.cell? ⟨go39, oo39 + ((ji34)).toNat, none⟩ = some (.int .u8 (rd x8_1 (ji34))) ∧ w'.cell? (ad823.add ((x11_1).toNat * 3)) = some (.int .i64 ((rd_T62 l2 x11_1).f0)) ∧ w'.cell? ⟨(ad823.add ((x11_1).toNat * 3)).block, (ad823.add ((x11_1).toNat * 3)).off + 1, none⟩ = some (.bool (true)) ∧ w'.cell? ⟨(ad823.add ((x11_1).toNat * 3)).block, (ad823.add ((x11_1).toNat * 3)).off + 2, none⟩ = some (.int .u8 ((rd_T62 l2 x11_1).f2))) (ds := [13]) #[false, false, false, false, false, false, false, false, false, false, false, false, false, false] (by kernel_rfl) rfl rfl ⟨hx828_0, ((HB.out.cell (World.block_lt_of_cell? w _ hw829_0)).trans hw829_0), ((HB.out.cell (World.block_lt_of_cell? w _ hw829_1)).trans hw829_1), ((HB.out.cell (World.block_lt_of_cell? w _ hw829_2)).trans hw829_2)⟩ (fun hHeld => ?_); refine with_tabW foghornlaw20_MendReach.tab18 foghornlaw20_MendReach.bits18 (fun HT_ HW_ => ?_)
                      generalize w41.drew = w42 at HO_8 HO_9 HB GG39 HQ44 hf39_0 hx39_0 hx828_0 hx829_0 hx829_1 hx829_2 hHeld ⊢
                      refine pure_ (i := 0) (N := some 91) (v := ?_) (a' := ?_) #[true, false, false, false, false, false, false, false, false, false, false, false, false, false] rfl rfl (any_of HT_.out (by kernel_rfl)) (fun _ _ _ h => h) (Or.inl ⟨by rfl, ?_⟩) ?_ ?_
                      rotate_left
                      ·intro w'
                       go_simp
                       with_reducible rfl
                      rotate_left
                      ·simp only [Act.put, List.setIfInBounds_toArray, List.set_cons_zero, List.set_cons_succ, i64_w, i32_w]
                       rfl
                      refine pure_ (i := 1) (N := some 92) (v := ?_) (a' := ?_) #[true, true, false, false, false, false, false, false, false, false, false, false, false, false] rfl rfl (any_of HT_.out (by kernel_rfl)) (fun _ _ _ h => h) (Or.inl ⟨by rfl, ?_⟩) ?_ ?_
                      rotate_left
                      ·intro w'
                       go_simp
                       with_reducible rfl
                      rotate_left
                      ·simp only [Act.put, List.setIfInBounds_toArray, List.set_cons_zero, List.set_cons_succ, i64_w, i32_w]
                       rfl
                      refine pure_ (i := 2) (N := some 93) (v := ?_) (a' := ?_) #[true, true, true, false, false, false, false, false, false, false, false, false, false, false] rfl rfl (any_of HT_.out (by kernel_rfl)) (fun _ _ _ h => h) (Or.inl ⟨by rfl, ?_⟩) ?_ ?_
                      rotate_left
                      ·intro w'
                       go_simp
                       with_reducible rfl
                      rotate_left
                      ·simp only [Act.put, List.setIfInBounds_toArray, List.set_cons_zero, List.set_cons_succ, i64_w, i32_w]
                       rfl
                      refine pure_ (i := 3) (N := some 94) (v := ?_) (a' := ?_) #[true, true, true, true, false, false, false, false, false, false, false, false, false, false] rfl rfl (any_of HT_.out (by kernel_rfl)) (fun _ _ _ h => h) (Or.inl ⟨by rfl, ?_⟩) ?_ ?_
                      rotate_left
                      ·intro w'
                       go_simp
                       with_reducible rfl
                      rotate_left
                      ·simp only [Act.put, List.setIfInBounds_toArray, List.set_cons_zero, List.set_cons_succ, i64_w, i32_w]
                       rfl
                      refine pure_ (i := 4) (N := some 95) (v := ?_) (a' := ?_) #[true, true, true, true, true, false, false, false, false, false, false, false, false, false] rfl rfl (any_of HT_.out (by kernel_rfl)) (fun _ _ _ h => h) (Or.inl ⟨by rfl, ?_⟩) ?_ ?_
                      rotate_left
                      ·intro w'
                       go_simp
                       with_reducible rfl
                      rotate_left
                      ·simp only [Act.put, List.setIfInBounds_toArray, List.set_cons_zero, List.set_cons_succ, i64_w, i32_w]
                       rfl
                      refine pure_ (i := 6) (N := some 97) (v := ?_) (a' := ?_) #[true, true, true, true, true, false, true, false, false, false, false, false, false, false] rfl rfl (any_of HT_.out (by kernel_rfl)) (fun _ _ _ h => h) (Or.inl ⟨by rfl, ?_⟩) ?_ ?_
                      rotate_left
                      ·intro w'
                       go_simp
                       with_reducible rfl
                      rotate_left
                      ·simp only [Act.put, List.setIfInBounds_toArray, List.set_cons_zero, List.set_cons_succ, i64_w, i32_w]
                       rfl
                      refine pure_ (i := 7) (N := some 98) (v := ?_) (a' := ?_) #[true, true, true, true, true, false, true, true, false, false, false, false, false, false] rfl rfl (any_of HT_.out (by kernel_rfl)) (fun _ _ _ h => h) (Or.inl ⟨by rfl, ?_⟩) ?_ ?_
                      rotate_left
                      ·intro w'
                       go_simp
                       with_reducible rfl
                      rotate_left
                      ·simp only [Act.put, List.setIfInBounds_toArray, List.set_cons_zero, List.set_cons_succ, i64_w, i32_w]
                       rfl
                      refine pure_ (i := 8) (N := some 99) (v := ?_) (a' := ?_) #[true, true, true, true, true, false, true, true, true, false, false, false, false, false] rfl rfl (any_of HT_.out (by kernel_rfl)) (fun _ _ _ h => h) (Or.inl ⟨by rfl, ?_⟩) ?_ ?_
                      rotate_left
                      ·intro w'
                       go_simp
                       with_reducible rfl
                      rotate_left
                      ·simp only [Act.put, List.setIfInBounds_toArray, List.set_cons_zero, List.set_cons_succ, i64_w, i32_w]
                       rfl
                      refine pure_ (i := 9) (N := some 100) (v := ?_) (a' := ?_) #[true, true, true, true, true, false, true, true, true, true, false, false, false, false] rfl rfl (any_of HT_.out (by kernel_rfl)) (fun _ _ _ h => h) (Or.inl ⟨by rfl, ?_⟩) ?_ ?_
                      rotate_left
                      ·intro w'
                       go_simp
                       with_reducible rfl
                      rotate_left
                      ·simp only [Act.put, List.setIfInBounds_toArray, List.set_cons_zero, List.set_cons_succ, i64_w, i32_w]
                       rfl
                      refine take_ (i := 5) (N := some 96) (v := ?_) (a' := ?_) #[true, true, true, true, true, true, true, true, true, true, false, false, false, false] rfl rfl (take_ofW HT_.out HW_.out (by kernel_rfl)) (fun _ _ _ h => h) (Or.inl ⟨by rfl, ?_⟩) hHeld ?_ ?_
                      rotate_left
                      ·rintro w' ⟨s0, s1, s2, s3⟩
                       go_simp
                       with_reducible rfl
                      rotate_left
                      ·simp only [Act.put, List.setIfInBounds_toArray, List.set_cons_zero, List.set_cons_succ, i64_w, i32_w]
                       rfl
                      refine take_ (i := 10) (N := some 101) (v := ?_) (a' := ?_) #[true, true, true, true, true, true, true, true, true, true, true, false, false, false] rfl rfl (take_ofW HT_.out HW_.out (by kernel_rfl)) (fun _ _ _ h => h) (Or.inl ⟨by rfl, ?_⟩) hHeld ?_ ?_
                      rotate_left
                      ·rintro w' ⟨s0, s1, s2, s3⟩
                       go_simp
                       with_reducible rfl
                      rotate_left
                      ·simp only [Act.put, List.setIfInBounds_toArray, List.set_cons_zero, List.set_cons_succ, i64_w, i32_w]
                       rfl
                      refine pure_ (i := 11) (N := some 102) (v := ?_) (a' := ?_) #[true, true, true, true, true, true, true, true, true, true, true, true, false, false] rfl rfl (any_of HT_.out (by kernel_rfl)) (fun _ _ _ h => h) (Or.inl ⟨by rfl, ?_⟩) ?_ ?_
                      rotate_left
                      ·intro w'
                       go_simp
                       with_reducible rfl
                      rotate_left
                      ·simp only [Act.put, List.setIfInBounds_toArray, List.set_cons_zero, List.set_cons_succ, i64_w, i32_w]
                       rfl
                      refine pure_ (i := 12) (N := some 103) (v := ?_) (a' := ?_) #[true, true, true, true, true, true, true, true, true, true, true, true, true, false] rfl rfl (any_of HT_.out (by kernel_rfl)) (fun _ _ _ h => h) (Or.inl ⟨by rfl, ?_⟩) ?_ ?_
                      rotate_left
                      ·intro w'
                       go_simp
                       with_reducible rfl
                      rotate_left
                      ·simp only [Act.put, List.setIfInBounds_toArray, List.set_cons_zero, List.set_cons_succ, i64_w, i32_w]
                       rfl
                      refine last_ (i := 13) (N := none) #[true, true, true, true, true, true, true, true, true, true, true, true, true, true] rfl rfl (one_of HT_.out (by kernel_rfl)) (by decide) (fun K hK => ?_)
                      refine skip_ (w1 := ?_) (by rfl) rfl ?_ ?_
                      rotate_left
                      ·go_simp
                       rfl
                      refine hK.out _ _ ?_
                      clear hK K
                      refine done_ (done_of HT_.out (by kernel_rfl)) ?_
                      try go_wp2
                      first | go_roundg kj21 | (simp only [add_plain] at *; go_roundg kj21)
                      case measure => have := HK1.out; have := HJ18.out; have := HJ21.out; omega
                      case rel => exact ⟨(y830), (y827), (wrap64 (x10_1 - x13_18)), (wrap64 (x11_1 + 1)), (by first | rfl | (simp; done) | (simp [*]; done)), (by first | rfl | (simp; done) | (simp [*]; done)), H', ⟨by have := HK1.out; have := HJ18.out; have := HJ21.out; omega⟩, ⟨by (with_reducible repeat (first | apply Kd.Q_alloc | apply Kd.Q_drewN | apply Kd.Q_drew)); exact HQ44.out⟩, ⟨by (with_reducible repeat (first | apply Kd.R_alloc | apply Kd.R_drewN | apply Kd.R_drew)); exact ConvW.R_farC HO_9.out GG39.out (by decide) (oo39 + ((ji34) : Int).toNat) (.int .u8 (Go.bits .xor .u8 (rd x8_1 (ji34)) ((rd_T62 l2 x11_1).f2)))⟩, ⟨by repeat (first | (with_reducible first | exact HB.out | apply below_alloc | apply pw_below_drewN | apply below_drew1 | refine below_set ?_ GB39.out) | exact HB.out)⟩⟩
                    ·rw [if_neg c38] at H
                     exact absurd H (by simp)
                   ·rw [if_neg c36] at H
                    exact absurd H (by simp)
                  ·rw [if_neg c35] at H
                   exact absurd H (by simp)
                 ·replace c33 := Bool.eq_false_iff.mpr c33
                  subst c33
                  have H1 : (if ((rd_T62 l2 x11_1).f2) = 0 then (foghornlaw20_MendReach.l0 kj21 t816 l2 t815 x8_1 x9_1 x10_1 (wrap64 (x11_1 + 1))) else (if 0 ≤ (Int.tmod (wrap64 ((Int.tmod ((rd_T62 l2 x11_1).f0) (t815.size : Int)) + (t815.size : Int))) (t815.size : Int)) then (if (Int.tmod (wrap64 ((Int.tmod ((rd_T62 l2 x11_1).f0) (t815.size : Int)) + (t815.size : Int))) (t815.size : Int)) < (x9_1.length : Int) then (if (Int.tmod (wrap64 ((Int.tmod ((rd_T62 l2 x11_1).f0) (t815.size : Int)) + (t815.size : Int))) (t815.size : Int)) < (x8_1.length : Int) then (foghornlaw20_MendReach.l0 kj21 t816 l2 t815 (x8_1.set ((Int.tmod (wrap64 ((Int.tmod ((rd_T62 l2 x11_1).f0) (t815.size : Int)) + (t815.size : Int))) (t815.size : Int)) : Int).toNat (Go.bits .xor .u8 (rd x8_1 (Int.tmod (wrap64 ((Int.tmod ((rd_T62 l2 x11_1).f0) (t815.size : Int)) + (t815.size : Int))) (t815.size : Int))) ((rd_T62 l2 x11_1).f2))) (x9_1.set ((Int.tmod (wrap64 ((Int.tmod ((rd_T62 l2 x11_1).f0) (t815.size : Int)) + (t815.size : Int))) (t815.size : Int)) : Int).toNat (wrap64 (3 - x13_18))) (wrap64 (x10_1 - x13_18)) (wrap64 (x11_1 + 1))) else (none)) else (none)) else (none))) = some r := by rw [if_neg (show ¬ (false = true) by decide)] at H; exact H
                  clear H
                  have H := H1
                  clear H1
                  by_cases c45 : ((rd_T62 l2 x11_1).f2) = 0
                  ·rw [if_pos c45] at H
                   have c45b0 : (((rd_T62 l2 x11_1).f2) == 0) = true := beq_iff_eq.mpr c45
                   have c45b1 : (((rd_T62 l2 x11_1).f2) != 0) = false := bne_eq_false_iff_eq.mpr c45
                   clear c45
                   as_aux_lemma =>
                    have H' := Aside0.mk H
                    clear H
                    have p826 : 0 ≤ (x11_1 : Int) := of_decide_eq_true (by first | (with_reducible assumption) | assumption)
                    have q826 : x11_1 < (l2.length : Int) := of_decide_eq_true (by first | (with_reducible assumption) | assumption)
                    obtain ⟨ad826, e826, hx826_0, hx826_1, hx826_2⟩ := at_T62 HR2.out x11_1 p826 q826
                    (try rw [← Nbq32.out] at hx826_1)
                    obtain rfl : ad823 = ad826 := (by injection e826)
                    replace hx826_0 := (HB.out.cell (World.block_lt_of_cell? w _ hx826_0)).trans hx826_0
                    replace hx826_1 := (HB.out.cell (World.block_lt_of_cell? w _ hx826_1)).trans hx826_1
                    replace hx826_2 := (HB.out.cell (World.block_lt_of_cell? w _ hx826_2)).trans hx826_2
                    replace p826 := eq_true p826
                    replace q826 := eq_true q826
                    have p831 : 0 ≤ (x11_1 : Int) := of_decide_eq_true (by first | (with_reducible assumption) | assumption)
                    have q831 : x11_1 < (l2.length : Int) := of_decide_eq_true (by first | (with_reducible assumption) | assumption)
                    obtain ⟨ad831, e831, hx831_0, hx831_1, hx831_2⟩ := at_T62 HR2.out x11_1 p831 q831
                    (try rw [← Nbq32.out] at hx831_1)
                    obtain rfl : ad823 = ad831 := (by injection e831)
                    replace hx831_0 := (HB.out.cell (World.block_lt_of_cell? w _ hx831_0)).trans hx831_0
                    replace hx831_1 := (HB.out.cell (World.block_lt_of_cell? w _ hx831_1)).trans hx831_1
                    replace hx831_2 := (HB.out.cell (World.block_lt_of_cell? w _ hx831_2)).trans hx831_2
                    replace p831 := eq_true p831
                    replace q831 := eq_true q831
                    go_wp2
                    first | go_roundg kj21 | (simp only [add_plain] at *; go_roundg kj21)
                    case measure => have := HK1.out; have := HJ18.out; have := HJ21.out; omega
                    case rel => exact ⟨(x8_1), (x9_1), (x10_1), (wrap64 (x11_1 + 1)), (by first | rfl | (simp; done) | (simp [*]; done)), (by first | rfl | (simp; done) | (simp [*]; done)), H', ⟨by have := HK1.out; have := HJ18.out; have := HJ21.out; omega⟩, ⟨by (with_reducible repeat (first | apply Kd.Q_alloc | apply Kd.Q_drewN | apply Kd.Q_drew)); exact HO_8.out⟩, ⟨by (with_reducible repeat (first | apply Kd.R_alloc | apply Kd.R_drewN | apply Kd.R_drew)); exact HO_9.out⟩, ⟨by repeat (first | (with_reducible first | exact HB.out | apply below_alloc | apply pw_below_drewN | apply below_drew1) | exact HB.out)⟩⟩
                  ·rw [if_neg c45] at H
                   have c45b0 : (((rd_T62 l2 x11_1).f2) == 0) = false := beq_eq_false_iff_ne.mpr c45
                   have c45b1 : (((rd_T62 l2 x11_1).f2) != 0) = true := bne_iff_ne.mpr c45
                   obtain ⟨ji46, hji46⟩ : ∃ j_ : Int, (Int.tmod (wrap64 ((Int.tmod ((rd_T62 l2 x11_1).f0) (t815.size : Int)) + (t815.size : Int))) (t815.size : Int)) = j_ := ⟨_, rfl⟩
                   replace H : (if 0 ≤ (ji46) then (if (ji46) < (x9_1.length : Int) then (if (ji46) < (x8_1.length : Int) then (foghornlaw20_MendReach.l0 kj21 t816 l2 t815 (x8_1.set ((ji46) : Int).toNat (Go.bits .xor .u8 (rd x8_1 (ji46)) ((rd_T62 l2 x11_1).f2))) (x9_1.set ((ji46) : Int).toNat (wrap64 (3 - x13_18))) (wrap64 (x10_1 - x13_18)) (wrap64 (x11_1 + 1))) else (none)) else (none)) else (none)) = some r := by first | (rw [hji46] at H; exact H) | (simp only [hji46] at H ⊢; exact H)
                   by_cases c47 : 0 ≤ (ji46)
                   ·rw [if_pos c47] at H
                    have c47b0 : decide (0 ≤ (ji46)) = true := decide_eq_true c47
                    clear c47
                    by_cases c48 : (ji46) < (x9_1.length : Int)
                    ·rw [if_pos c48] at H
                     have c48b0 : decide ((ji46) < (x9_1.length : Int)) = true := decide_eq_true c48
                     clear c48
                     obtain ⟨y832, hy832⟩ : ∃ y_ : List Int, y_ = (x9_1.set ((ji46) : Int).toNat (wrap64 (3 - x13_18))) := ⟨_, rfl⟩
                     replace H : (if (ji46) < (x8_1.length : Int) then (foghornlaw20_MendReach.l0 kj21 t816 l2 t815 (x8_1.set ((ji46) : Int).toNat (Go.bits .xor .u8 (rd x8_1 (ji46)) ((rd_T62 l2 x11_1).f2))) y832 (wrap64 (x10_1 - x13_18)) (wrap64 (x11_1 + 1))) else (none)) = some r := by first | (rw [hy832]; with_reducible exact H) | (have H2_ := (Option.bind_some _ _).symm.trans H; rw [hy832]; with_reducible exact H2_) | (have H2_ := (Option.bind_some _ _).symm.trans H; with_reducible exact H2_) | with_reducible exact H | (rw [hy832]; exact H) | exact H
                     have Ny832 := Aside0.mk hy832
                     clear hy832
                     by_cases c50 : (ji46) < (x8_1.length : Int)
                     ·rw [if_pos c50] at H
                      have c50b0 : decide ((ji46) < (x8_1.length : Int)) = true := decide_eq_true c50
                      clear c50
                      obtain ⟨y835, hy835⟩ : ∃ y_ : List Int, y_ = (x8_1.set ((ji46) : Int).toNat (Go.bits .xor .u8 (rd x8_1 (ji46)) ((rd_T62 l2 x11_1).f2))) := ⟨_, rfl⟩
                      replace H : (foghornlaw20_MendReach.l0 kj21 t816 l2 t815 y835 y832 (wrap64 (x10_1 - x13_18)) (wrap64 (x11_1 + 1))) = some r := by first | (rw [hy835]; with_reducible exact H) | (have H2_ := (Option.bind_some _ _).symm.trans H; rw [hy835]; with_reducible exact H2_) | (have H2_ := (Option.bind_some _ _).symm.trans H; with_reducible exact H2_) | with_reducible exact H | (rw [hy835]; exact H) | exact H
                      have Ny835 := Aside0.mk hy835
                      clear hy835
                      as_aux_lemma =>
                       have H' := Aside0.mk H
                       clear H
                       have p826 : 0 ≤ (x11_1 : Int) := of_decide_eq_true (by first | (with_reducible assumption) | assumption)
                       have q826 : x11_1 < (l2.length : Int) := of_decide_eq_true (by first | (with_reducible assumption) | assumption)
                       obtain ⟨ad826, e826, hx826_0, hx826_1, hx826_2⟩ := at_T62 HR2.out x11_1 p826 q826
                       (try rw [← Nbq32.out] at hx826_1)
                       obtain rfl : ad823 = ad826 := (by injection e826)
                       replace hx826_0 := (HB.out.cell (World.block_lt_of_cell? w _ hx826_0)).trans hx826_0
                       replace hx826_1 := (HB.out.cell (World.block_lt_of_cell? w _ hx826_1)).trans hx826_1
                       replace hx826_2 := (HB.out.cell (World.block_lt_of_cell? w _ hx826_2)).trans hx826_2
                       replace p826 := eq_true p826
                       replace q826 := eq_true q826
                       have p831 : 0 ≤ (x11_1 : Int) := of_decide_eq_true (by first | (with_reducible assumption) | assumption)
                       have q831 : x11_1 < (l2.length : Int) := of_decide_eq_true (by first | (with_reducible assumption) | assumption)
                       obtain ⟨ad831, e831, hx831_0, hx831_1, hx831_2⟩ := at_T62 HR2.out x11_1 p831 q831
                       (try rw [← Nbq32.out] at hx831_1)
                       obtain rfl : ad823 = ad831 := (by injection e831)
                       replace hx831_0 := (HB.out.cell (World.block_lt_of_cell? w _ hx831_0)).trans hx831_0
                       replace hx831_1 := (HB.out.cell (World.block_lt_of_cell? w _ hx831_1)).trans hx831_1
                       replace hx831_2 := (HB.out.cell (World.block_lt_of_cell? w _ hx831_2)).trans hx831_2
                       replace p831 := eq_true p831
                       replace q831 := eq_true q831
                       have p49 : 0 ≤ ((ji46) : Int) := of_decide_eq_true (by first | (with_reducible assumption) | assumption)
                       have q49 : ((ji46) : Int) < ((x9_1.length : Int) : Int) := of_decide_eq_true (by first | (with_reducible assumption) | assumption)
                       obtain ⟨go49, co49, eo49, gb49, gl49, cl49, HG49⟩ := Kd.R_form HO_9.out (by omega)
                       (first | cases eo49 | (injection eo49 with ea_ en_ ec_; (first | subst ea_ | (injection ea_ with ea_; subst ea_)); subst ec_; clear en_))
                       have GB49 := Aside0.mk gb49
                       have GG49 := Aside0.mk HG49
                       clear gb49 gl49 HG49
                       obtain ⟨hx49_0, hf49_0⟩ := Kd.R_celln 0 HO_9.out ((ji46) : Int) p49 q49
                       replace p49 := eq_true p49
                       replace q49 := eq_true q49
                       have HP52 := Kd.R_putg HO_9.out ((ji46) : Int) (wrap64 (3 - x13_18))
                       try go_wp2_with (first | ((with_reducible refine gate_store (t := 3) (p := 90) rfl ?_); refine store_event (t := 3) (p := 90) (v := ?vo_w53) (w1 := (wc.setCell ⟨go49, ((ji46) : Int).toNat, none⟩ (.int .i64 (wrap64 (3 - x13_18))))) ?hg ?ho ?hn ?hr ?_; (case ho => rfl); (case hg => rfl); (case hn => rfl); (case hr => first | (go_simp; done) | (go_simp; rfl)); intro w53 hw; have hg : wc.grownBy w53 (some go49) := (by rw [hw]; exact HP52.2); have hp_ : Kd.R (Kd.int .i64) 3 w53 w.heap.size (fun _ => True) (.slice (some ⟨go49, 0, none⟩) x9_1.length co49) y832 := (by rw [hw, Ny832.out]; exact HP52.1); clear HP52; have n0_ := Aside0.mk (Kd.Q_over' (v := (.slice (some ⟨go49, 0, none⟩) x9_1.length co49)) (by (with_reducible repeat (first | apply Kd.Q_alloc | apply Kd.Q_drewN | apply Kd.Q_drew)); exact HO_8.out) (Kd.R_typed HO_9.out) (by decide) hg); have n1_ := Aside0.mk (hp_); have n2_ := Aside0.mk ((by rw [hw]; exact below_set (HB.out) GB49.out : Below w.heap.size w w53)); clear HO_8; clear HO_9; clear HB; have HO_8 := n0_; have HO_9 := n1_; have HB := n2_; clear n0_ n1_ n2_; clear hg hw hp_))
                       have n0_ := Aside0.mk (Kd.Q_drew HO_8.out)
                       have n1_ := Aside0.mk (Kd.R_drew HO_9.out)
                       have n2_ := Aside0.mk (below_drew1 HB.out)
                       clear HO_8
                       clear HO_9
                       clear HB
                       have HO_8 := n0_
                       have HO_9 := n1_
                       have HB := n2_
                       clear n0_ n1_ n2_
                       obtain ⟨Ao55, co55, eo55, _⟩ := Kd.Q_slice HO_8.out
                       (first | subst eo55 | (injection eo55 with f1_ f2_ f3_; have f4_ := f1_.symm; have f5_ := f3_.symm; clear f1_ f2_ f3_; subst f4_; subst f5_))
                       have p833 : 0 ≤ ((ji46) : Int) := of_decide_eq_true (by first | (with_reducible assumption) | assumption)
                       have q833 : (ji46) < (x8_1.length : Int) := of_decide_eq_true (by first | (with_reducible assumption) | assumption)
                       obtain ⟨ad833, e833, hx833_0⟩ := Kd.at_int (Kd.Q_reads' HO_8.out).2.2 (ji46) p833 q833
                       cases e833
                       replace p833 := eq_true p833
                       replace q833 := eq_true q833
                       have p834 : 0 ≤ (x11_1 : Int) := of_decide_eq_true (by first | (with_reducible assumption) | assumption)
                       have q834 : x11_1 < (l2.length : Int) := of_decide_eq_true (by first | (with_reducible assumption) | assumption)
                       obtain ⟨ad834, e834, hx834_0, hx834_1, hx834_2⟩ := at_T62 HR2.out x11_1 p834 q834
                       have hw834_2 := hx834_2
                       (try rw [← Nbq32.out] at hw834_2)
                       have hw834_1 := hx834_1
                       (try rw [← Nbq32.out] at hw834_1)
                       have hw834_0 := hx834_0
                       (try rw [← Nbq32.out] at hw834_0)
                       (try rw [← Nbq32.out] at hx834_1)
                       obtain rfl : ad823 = ad834 := (by injection e834)
                       replace hx834_0 := (HB.out.cell (World.block_lt_of_cell? w _ hx834_0)).trans hx834_0
                       replace hx834_1 := (HB.out.cell (World.block_lt_of_cell? w _ hx834_1)).trans hx834_1
                       replace hx834_2 := (HB.out.cell (World.block_lt_of_cell? w _ hx834_2)).trans hx834_2
                       replace p834 := eq_true p834
                       replace q834 := eq_true q834
                       have p51 : 0 ≤ ((ji46) : Int) := of_decide_eq_true (by first | (with_reducible assumption) | assumption)
                       have q51 : ((ji46) : Int) < ((x8_1.length : Int) : Int) := of_decide_eq_true (by first | (with_reducible assumption) | assumption)
                       obtain ⟨go51, oo51, co51, eo51, gb51, gl51, cl51, HG51⟩ := Kd.Q_form HO_8.out (by omega)
                       (first | cases eo51 | (injection eo51 with ea_ en_ ec_; (first | subst ea_ | (injection ea_ with ea_; subst ea_)); subst ec_; clear en_))
                       have GB51 := Aside0.mk gb51
                       have GG51 := Aside0.mk HG51
                       clear gb51 gl51 HG51
                       (first | simp only [add_at] at hx833_0 | skip)
                       obtain ⟨hx51_0, hf51_0⟩ := Kd.Q_cell 0 HO_8.out ((ji46) : Int) p51 q51
                       replace p51 := eq_true p51
                       replace q51 := eq_true q51
                       have HP56 := (Kd.Q_putg HO_8.out ((ji46) : Int) (of_decide_eq_true (by first | (with_reducible assumption) | assumption)) (by have h_ : ((ji46) : Int) < ((x8_1.length : Int) : Int) := of_decide_eq_true (by first | (with_reducible assumption) | assumption); first | exact h_ | (have e_ := (Kd.Q_reads' HO_8.out).1; omega) | simpa using h_) (Go.bits .xor .u8 (rd x8_1 (ji46)) ((rd_T62 l2 x11_1).f2))).1
                       rw [← Ny835.out] at HP56
                       have HQ56 := Aside0.mk HP56
                       clear HP56
                       refine start_ (n := 14) (S := fun w' => w'.cell? ⟨go51, oo51 + ((ji46)).toNat, none⟩ = some (.int .u8 (rd x8_1 (ji46))) ∧ w'.cell? (ad823.add ((x11_1).toNat * 3)) = some (.int .i64 ((rd_T62 l2 x11_1).f0)) ∧ w'.cell? ⟨(ad823.add ((x11_1).toNat * 3)).block, (ad823.add ((x11_1).toNat * 3)).off + 1, none⟩ = some (.bool (false)) ∧ w'.cell? ⟨(ad823.add ((x11_1).toNat * 3)).block, (ad823.add ((x11_1).toNat * 3)).off + 2, none⟩ = some (.int .u8 ((rd_T62 l2 x11_1).f2))) (ds := [13]) #[false, false, false, false, false, false, false, false, false, false, false, false, false, false] (by kernel_rfl) rfl rfl ⟨hx833_0, ((HB.out.cell (World.block_lt_of_cell? w _ hw834_0)).trans hw834_0), ((HB.out.cell (World.block_lt_of_cell? w _ hw834_1)).trans hw834_1), ((HB.out.cell (World.block_lt_of_cell? w _ hw834_2)).trans hw834_2)⟩ (fun hHeld => ?_); refine with_tabW foghornlaw20_MendReach.tab18 foghornlaw20_MendReach.bits18 (fun HT_ HW_ => ?_)
                       generalize w53.drew = w54 at HO_8 HO_9 HB GG51 HQ56 hf51_0 hx51_0 hx833_0 hx834_0 hx834_1 hx834_2 hHeld ⊢
                       refine pure_ (i := 0) (N := some 91) (v := ?_) (a' := ?_) #[true, false, false, false, false, false, false, false, false, false, false, false, false, false] rfl rfl (any_of HT_.out (by kernel_rfl)) (fun _ _ _ h => h) (Or.inl ⟨by rfl, ?_⟩) ?_ ?_
                       rotate_left
                       ·intro w'
                        go_simp
                        with_reducible rfl
                       rotate_left
                       ·simp only [Act.put, List.setIfInBounds_toArray, List.set_cons_zero, List.set_cons_succ, i64_w, i32_w]
                        rfl
                       refine pure_ (i := 1) (N := some 92) (v := ?_) (a' := ?_) #[true, true, false, false, false, false, false, false, false, false, false, false, false, false] rfl rfl (any_of HT_.out (by kernel_rfl)) (fun _ _ _ h => h) (Or.inl ⟨by rfl, ?_⟩) ?_ ?_
                       rotate_left
                       ·intro w'
                        go_simp
                        with_reducible rfl
                       rotate_left
                       ·simp only [Act.put, List.setIfInBounds_toArray, List.set_cons_zero, List.set_cons_succ, i64_w, i32_w]
                        rfl
                       refine pure_ (i := 2) (N := some 93) (v := ?_) (a' := ?_) #[true, true, true, false, false, false, false, false, false, false, false, false, false, false] rfl rfl (any_of HT_.out (by kernel_rfl)) (fun _ _ _ h => h) (Or.inl ⟨by rfl, ?_⟩) ?_ ?_
                       rotate_left
                       ·intro w'
                        go_simp
                        with_reducible rfl
                       rotate_left
                       ·simp only [Act.put, List.setIfInBounds_toArray, List.set_cons_zero, List.set_cons_succ, i64_w, i32_w]
                        rfl
                       refine pure_ (i := 3) (N := some 94) (v := ?_) (a' := ?_) #[true, true, true, true, false, false, false, false, false, false, false, false, false, false] rfl rfl (any_of HT_.out (by kernel_rfl)) (fun _ _ _ h => h) (Or.inl ⟨by rfl, ?_⟩) ?_ ?_
                       rotate_left
                       ·intro w'
                        go_simp
                        with_reducible rfl
                       rotate_left
                       ·simp only [Act.put, List.setIfInBounds_toArray, List.set_cons_zero, List.set_cons_succ, i64_w, i32_w]
                        rfl
                       refine pure_ (i := 4) (N := some 95) (v := ?_) (a' := ?_) #[true, true, true, true, true, false, false, false, false, false, false, false, false, false] rfl rfl (any_of HT_.out (by kernel_rfl)) (fun _ _ _ h => h) (Or.inl ⟨by rfl, ?_⟩) ?_ ?_
                       rotate_left
                       ·intro w'
                        go_simp
                        with_reducible rfl
                       rotate_left
                       ·simp only [Act.put, List.setIfInBounds_toArray, List.set_cons_zero, List.set_cons_succ, i64_w, i32_w]
                        rfl
                       refine pure_ (i := 6) (N := some 97) (v := ?_) (a' := ?_) #[true, true, true, true, true, false, true, false, false, false, false, false, false, false] rfl rfl (any_of HT_.out (by kernel_rfl)) (fun _ _ _ h => h) (Or.inl ⟨by rfl, ?_⟩) ?_ ?_
                       rotate_left
                       ·intro w'
                        go_simp
                        with_reducible rfl
                       rotate_left
                       ·simp only [Act.put, List.setIfInBounds_toArray, List.set_cons_zero, List.set_cons_succ, i64_w, i32_w]
                        rfl
                       refine pure_ (i := 7) (N := some 98) (v := ?_) (a' := ?_) #[true, true, true, true, true, false, true, true, false, false, false, false, false, false] rfl rfl (any_of HT_.out (by kernel_rfl)) (fun _ _ _ h => h) (Or.inl ⟨by rfl, ?_⟩) ?_ ?_
                       rotate_left
                       ·intro w'
                        go_simp
                        with_reducible rfl
                       rotate_left
                       ·simp only [Act.put, List.setIfInBounds_toArray, List.set_cons_zero, List.set_cons_succ, i64_w, i32_w]
                        rfl
                       refine pure_ (i := 8) (N := some 99) (v := ?_) (a' := ?_) #[true, true, true, true, true, false, true, true, true, false, false, false, false, false] rfl rfl (any_of HT_.out (by kernel_rfl)) (fun _ _ _ h => h) (Or.inl ⟨by rfl, ?_⟩) ?_ ?_
                       rotate_left
                       ·intro w'
                        go_simp
                        with_reducible rfl
                       rotate_left
                       ·simp only [Act.put, List.setIfInBounds_toArray, List.set_cons_zero, List.set_cons_succ, i64_w, i32_w]
                        rfl
                       refine pure_ (i := 9) (N := some 100) (v := ?_) (a' := ?_) #[true, true, true, true, true, false, true, true, true, true, false, false, false, false] rfl rfl (any_of HT_.out (by kernel_rfl)) (fun _ _ _ h => h) (Or.inl ⟨by rfl, ?_⟩) ?_ ?_
                       rotate_left
                       ·intro w'
                        go_simp
                        with_reducible rfl
                       rotate_left
                       ·simp only [Act.put, List.setIfInBounds_toArray, List.set_cons_zero, List.set_cons_succ, i64_w, i32_w]
                        rfl
                       refine take_ (i := 5) (N := some 96) (v := ?_) (a' := ?_) #[true, true, true, true, true, true, true, true, true, true, false, false, false, false] rfl rfl (take_ofW HT_.out HW_.out (by kernel_rfl)) (fun _ _ _ h => h) (Or.inl ⟨by rfl, ?_⟩) hHeld ?_ ?_
                       rotate_left
                       ·rintro w' ⟨s0, s1, s2, s3⟩
                        go_simp
                        with_reducible rfl
                       rotate_left
                       ·simp only [Act.put, List.setIfInBounds_toArray, List.set_cons_zero, List.set_cons_succ, i64_w, i32_w]
                        rfl
                       refine take_ (i := 10) (N := some 101) (v := ?_) (a' := ?_) #[true, true, true, true, true, true, true, true, true, true, true, false, false, false] rfl rfl (take_ofW HT_.out HW_.out (by kernel_rfl)) (fun _ _ _ h => h) (Or.inl ⟨by rfl, ?_⟩) hHeld ?_ ?_
                       rotate_left
                       ·rintro w' ⟨s0, s1, s2, s3⟩
                        go_simp
                        with_reducible rfl
                       rotate_left
                       ·simp only [Act.put, List.setIfInBounds_toArray, List.set_cons_zero, List.set_cons_succ, i64_w, i32_w]
                        rfl
                       refine pure_ (i := 11) (N := some 102) (v := ?_) (a' := ?_) #[true, true, true, true, true, true, true, true, true, true, true, true, false, false] rfl rfl (any_of HT_.out (by kernel_rfl)) (fun _ _ _ h => h) (Or.inl ⟨by rfl, ?_⟩) ?_ ?_
                       rotate_left
                       ·intro w'
                        go_simp
                        with_reducible rfl
                       rotate_left
                       ·simp only [Act.put, List.setIfInBounds_toArray, List.set_cons_zero, List.set_cons_succ, i64_w, i32_w]
                        rfl
                       refine pure_ (i := 12) (N := some 103) (v := ?_) (a' := ?_) #[true, true, true, true, true, true, true, true, true, true, true, true, true, false] rfl rfl (any_of HT_.out (by kernel_rfl)) (fun _ _ _ h => h) (Or.inl ⟨by rfl, ?_⟩) ?_ ?_
                       rotate_left
                       ·intro w'
                        go_simp
                        with_reducible rfl
                       rotate_left
                       ·simp only [Act.put, List.setIfInBounds_toArray, List.set_cons_zero, List.set_cons_succ, i64_w, i32_w]
                        rfl
                       refine last_ (i := 13) (N := none) #[true, true, true, true, true, true, true, true, true, true, true, true, true, true] rfl rfl (one_of HT_.out (by kernel_rfl)) (by decide) (fun K hK => ?_)
                       refine skip_ (w1 := ?_) (by rfl) rfl ?_ ?_
                       rotate_left
                       ·go_simp
                        rfl
                       refine hK.out _ _ ?_
                       clear hK K
                       refine done_ (done_of HT_.out (by kernel_rfl)) ?_
                       try go_wp2
                       first | go_roundg kj21 | (simp only [add_plain] at *; go_roundg kj21)
                       case measure => have := HK1.out; have := HJ18.out; have := HJ21.out; omega
                       case rel => exact ⟨(y835), (y832), (wrap64 (x10_1 - x13_18)), (wrap64 (x11_1 + 1)), (by first | rfl | (simp; done) | (simp [*]; done)), (by first | rfl | (simp; done) | (simp [*]; done)), H', ⟨by have := HK1.out; have := HJ18.out; have := HJ21.out; omega⟩, ⟨by (with_reducible repeat (first | apply Kd.Q_alloc | apply Kd.Q_drewN | apply Kd.Q_drew)); exact HQ56.out⟩, ⟨by (with_reducible repeat (first | apply Kd.R_alloc | apply Kd.R_drewN | apply Kd.R_drew)); exact ConvW.R_farC HO_9.out GG51.out (by decide) (oo51 + ((ji46) : Int).toNat) (.int .u8 (Go.bits .xor .u8 (rd x8_1 (ji46)) ((rd_T62 l2 x11_1).f2)))⟩, ⟨by repeat (first | (with_reducible first | exact HB.out | apply below_alloc | apply pw_below_drewN | apply below_drew1 | refine below_set ?_ GB51.out) | exact HB.out)⟩⟩
                     ·rw [if_neg c50] at H
                      exact absurd H (by simp)
                    ·rw [if_neg c48] at H
                     exact absurd H (by simp)
                   ·rw [if_neg c47] at H
                    exact absurd H (by simp)
                ·rw [if_neg c31] at H
                 exact absurd H (by simp)
               ·rw [if_neg c30] at H
                exact absurd H (by simp)
        ·rw [if_neg c17] at H
         exact absurd H (by simp)
       ·rw [if_neg c16] at H
        have c16b0 : decide (x11_1 < (l2.length : Int)) = false := decide_eq_false c16
        clear c16
        have H' := Aside0.mk H
        clear H
        go_wp2
        go_loopg [14, 15, 16, 17] k1 (fun kq v14 v15 v16 v17 w' => ∃ (x14_2 : List Int) (x15_2 : List Int) (x16_2 : List Int) (x17_2 : Int), v17 = .int .i64 x17_2 ∧ Aside0 (foghornlaw20_MendReach.l1 kq t816 t815 x8_1 x9_1 x14_2 x15_2 x16_2 x17_2 = some r) ∧ Aside0 (kq ≤ k1) ∧ Aside0 (Kd.Q (Kd.int .u8) 5 w' w.heap.size (fun _ => True) v818 x8_1) ∧ Aside0 (Kd.R (Kd.int .i64) 3 w' w.heap.size (fun k_ => some k_ ≠ (v14 : Value).ownBlock ∧ some k_ ≠ (v15 : Value).ownBlock ∧ some k_ ≠ (v16 : Value).ownBlock) v821 x9_1) ∧ Aside0 (Kd.R (Kd.int .i64) 3 w' w.heap.size (fun k_ => some k_ ≠ (v821 : Value).ownBlock ∧ some k_ ≠ (v15 : Value).ownBlock ∧ some k_ ≠ (v16 : Value).ownBlock) v14 x14_2) ∧ Aside0 (Kd.R (Kd.int .i64) 3 w' w.heap.size (fun k_ => some k_ ≠ (v821 : Value).ownBlock ∧ some k_ ≠ (v14 : Value).ownBlock ∧ some k_ ≠ (v16 : Value).ownBlock) v15 x15_2) ∧ Aside0 (Kd.R (Kd.int .i64) 3 w' w.heap.size (fun k_ => some k_ ≠ (v821 : Value).ownBlock ∧ some k_ ≠ (v14 : Value).ownBlock ∧ some k_ ≠ (v15 : Value).ownBlock) v16 x16_2) ∧ Aside0 (Below w.heap.size w w'))
        case atStart => exact ⟨(([] : List Int)), (([] : List Int)), (([] : List Int)), (0), (by first | rfl | (simp; done) | (simp [*]; done)), H', ⟨Nat.le_refl _⟩, ⟨by (with_reducible repeat (first | apply Kd.Q_alloc | apply Kd.Q_drewN | apply Kd.Q_drew)); exact HO_8.out⟩, ⟨by (with_reducible repeat (first | apply Kd.R_alloc | apply Kd.R_drewN | apply Kd.R_drew)); exact Kd.R_mono HO_9.out (fun _ hk => ⟨(by simp [Value.ownBlock]), ⟨(by simp [Value.ownBlock]), (by simp [Value.ownBlock])⟩⟩)⟩, ⟨by first | exact Kd.R_nil _ _ _ _ _ | exact Kd.N_nil _ _ _ _ _ | exact Kd.V_nil _ _ _ _ _ | exact Kd.Q_nil _ _ _ _ _ | exact Kd.S_nil _ _ _ _ _⟩, ⟨by first | exact Kd.R_nil _ _ _ _ _ | exact Kd.N_nil _ _ _ _ _ | exact Kd.V_nil _ _ _ _ _ | exact Kd.Q_nil _ _ _ _ _ | exact Kd.S_nil _ _ _ _ _⟩, ⟨by first | exact Kd.R_nil _ _ _ _ _ | exact Kd.N_nil _ _ _ _ _ | exact Kd.V_nil _ _ _ _ _ | exact Kd.Q_nil _ _ _ _ _ | exact Kd.S_nil _ _ _ _ _⟩, ⟨by repeat (first | (with_reducible first | exact HB.out | apply below_alloc | apply pw_below_drewN | apply below_drew1) | exact HB.out)⟩⟩
        case round =>
         clear H'
         try clear c1
         try clear c2
         try clear p2
         try clear q2
         try clear c3
         try clear p3
         try clear q3
         try clear hx3
         try clear hf3
         try clear c4
         try clear p4
         try clear q4
         try clear hx4
         try clear hf4
         try clear c5
         try clear p5
         try clear q5
         try clear hx5
         try clear hf5
         try clear p6
         try clear c7
         try clear c7b0
         try clear c7b1
         try clear c7b2
         try clear c8
         try clear c8b0
         try clear c8b1
         try clear p8
         try clear q8
         try clear hx8
         try clear c9
         try clear c9b0
         try clear c9b1
         try clear c11
         try clear c16
         try clear c16b0
         try clear c17
         try clear c17b0
         try clear c18
         try clear c18b0
         try clear c18b1
         try clear q20
         try clear c21
         try clear c24
         try clear c24b0
         try clear c25
         try clear c25b0
         try clear c26
         try clear c26b0
         try clear c26b1
         try clear c29
         try clear c30
         try clear c30b0
         try clear c31
         try clear c31b0
         try clear q32
         try clear c33
         try clear c35
         try clear c35b0
         try clear c36
         try clear c36b0
         try clear p37
         try clear q37
         try clear hx37
         try clear hf37
         try clear c38
         try clear c38b0
         try clear p39
         try clear q39
         try clear hx39
         try clear hf39
         try clear c45
         try clear c45b0
         try clear c45b1
         try clear c47
         try clear c47b0
         try clear c48
         try clear c48b0
         try clear p49
         try clear q49
         try clear hx49
         try clear hf49
         try clear c50
         try clear c50b0
         try clear p51
         try clear q51
         try clear hx51
         try clear hf51
         try clear hx37_0
         try clear hx39_0
         try clear hx49_0
         try clear hx51_0
         try clear hx823_0
         try clear hx823_1
         try clear hx823_2
         try clear hx824_0
         try clear hx824_1
         try clear hx824_2
         try clear hx825_0
         try clear hx826_0
         try clear hx826_1
         try clear hx826_2
         try clear hx828_0
         try clear hx829_0
         try clear hx829_1
         try clear hx829_2
         try clear hx831_0
         try clear hx831_1
         try clear hx831_2
         try clear hx833_0
         try clear hx834_0
         try clear hx834_1
         try clear hx834_2
         try clear p2
         try clear p37
         try clear p39
         try clear p49
         try clear p51
         try clear p6
         try clear p8
         try clear p823
         try clear p824
         try clear p825
         try clear p826
         try clear p828
         try clear p829
         try clear p831
         try clear p833
         try clear p834
         try clear q2
         try clear q20
         try clear q37
         try clear q39
         try clear q49
         try clear q51
         try clear q8
         try clear q823
         try clear q824
         try clear q825
         try clear q826
         try clear q828
         try clear q829
         try clear q831
         try clear q833
         try clear q834
         obtain ⟨x14_2, x15_2, x16_2, x17_2, rfl, HA, HK2, HO_8, HO_9, HO_14, HO_15, HO_16, HB⟩ := hrel
         cases gk with
         | zero => exact absurd HA.out (by simp [foghornlaw20_MendReach.l1])
         | succ k2 =>
          have H := HA.out
          clear HA
          simp only [foghornlaw20_MendReach.l1] at H
          by_cases c57 : x17_2 < (x9_1.length : Int)
          ·rw [if_pos c57] at H
           have c57b0 : decide (x17_2 < (x9_1.length : Int)) = true := decide_eq_true c57
           clear c57
           by_cases c58 : 0 ≤ x17_2
           ·rw [if_pos c58] at H
            have c58b0 : decide (0 ≤ x17_2) = true := decide_eq_true c58
            clear c58
            by_cases c59 : (rd x9_1 x17_2) = 1
            ·rw [if_pos c59] at H
             have c59b0 : ((rd x9_1 x17_2) == 1) = true := beq_iff_eq.mpr c59
             have c59b1 : ((rd x9_1 x17_2) != 1) = false := bne_eq_false_iff_eq.mpr c59
             clear c59
             by_cases c60 : x14_2.length < 17592186044416
             ·rw [if_pos c60] at H
              have LMc60 := Aside0.mk c60
              clear c60
              obtain ⟨y848, hy848⟩ : ∃ y_ : List Int, y_ = (x14_2 ++ [x17_2]) := ⟨_, rfl⟩
              replace H : (if (rd x9_1 x17_2) = 2 then (if x15_2.length < 17592186044416 then ((some (([x17_2] : List Int) : List Int)).bind fun y855 => (if y855.length + x16_2.length < 17592186044416 then (foghornlaw20_MendReach.l1 k2 t816 t815 x8_1 x9_1 y848 (x15_2 ++ [x17_2]) (y855 ++ x16_2) (wrap64 (x17_2 + 1))) else (none))) else (none)) else (foghornlaw20_MendReach.l1 k2 t816 t815 x8_1 x9_1 y848 x15_2 x16_2 (wrap64 (x17_2 + 1)))) = some r := by first | (rw [hy848]; with_reducible exact H) | (have H2_ := (Option.bind_some _ _).symm.trans H; rw [hy848]; with_reducible exact H2_) | (have H2_ := (Option.bind_some _ _).symm.trans H; with_reducible exact H2_) | with_reducible exact H | (rw [hy848]; exact H) | exact H
              have Ny848 := Aside0.mk hy848
              clear hy848
              by_cases c61 : (rd x9_1 x17_2) = 2
              ·rw [if_pos c61] at H
               have c61b0 : ((rd x9_1 x17_2) == 2) = true := beq_iff_eq.mpr c61
               have c61b1 : ((rd x9_1 x17_2) != 2) = false := bne_eq_false_iff_eq.mpr c61
               clear c61
               by_cases c62 : x15_2.length < 17592186044416
               ·rw [if_pos c62] at H
                have LMc62 := Aside0.mk c62
                clear c62
                obtain ⟨y852, hy852⟩ : ∃ y_ : List Int, y_ = (x15_2 ++ [x17_2]) := ⟨_, rfl⟩
                replace H : ((some (([x17_2] : List Int) : List Int)).bind fun y855 => (if y855.length + x16_2.length < 17592186044416 then (foghornlaw20_MendReach.l1 k2 t816 t815 x8_1 x9_1 y848 y852 (y855 ++ x16_2) (wrap64 (x17_2 + 1))) else (none))) = some r := by first | (rw [hy852]; with_reducible exact H) | (have H2_ := (Option.bind_some _ _).symm.trans H; rw [hy852]; with_reducible exact H2_) | (have H2_ := (Option.bind_some _ _).symm.trans H; with_reducible exact H2_) | with_reducible exact H | (rw [hy852]; exact H) | exact H
                have Ny852 := Aside0.mk hy852
                clear hy852
                obtain ⟨y855, hy855⟩ : ∃ y_ : List Int, y_ = (([x17_2] : List Int)) := ⟨_, rfl⟩
                replace H : (if y855.length + x16_2.length < 17592186044416 then (foghornlaw20_MendReach.l1 k2 t816 t815 x8_1 x9_1 y848 y852 (y855 ++ x16_2) (wrap64 (x17_2 + 1))) else (none)) = some r := by first | (rw [hy855]; with_reducible exact H) | (have H2_ := (Option.bind_some _ _).symm.trans H; rw [hy855]; with_reducible exact H2_) | (have H2_ := (Option.bind_some _ _).symm.trans H; with_reducible exact H2_) | with_reducible exact H | (rw [hy855]; exact H) | exact H
                have Ny855 := Aside0.mk hy855
                clear hy855
                by_cases c63 : y855.length + x16_2.length < 17592186044416
                ·rw [if_pos c63] at H
                 have LMc63 := Aside0.mk c63
                 clear c63
                 obtain ⟨y858, hy858⟩ : ∃ y_ : List Int, y_ = (y855 ++ x16_2) := ⟨_, rfl⟩
                 replace H : (foghornlaw20_MendReach.l1 k2 t816 t815 x8_1 x9_1 y848 y852 y858 (wrap64 (x17_2 + 1))) = some r := by first | (rw [hy858]; with_reducible exact H) | (have H2_ := (Option.bind_some _ _).symm.trans H; rw [hy858]; with_reducible exact H2_) | (have H2_ := (Option.bind_some _ _).symm.trans H; with_reducible exact H2_) | with_reducible exact H | (rw [hy858]; exact H) | exact H
                 have Ny858 := Aside0.mk hy858
                 clear hy858
                 as_aux_lemma =>
                  have H' := Aside0.mk H
                  clear H
                  obtain ⟨Ao64, co64, eo64⟩ := Kd.R_slice HO_9.out
                  subst eo64
                  have p847 : 0 ≤ (x17_2 : Int) := of_decide_eq_true (by first | (with_reducible assumption) | assumption)
                  have q847 : x17_2 < (x9_1.length : Int) := of_decide_eq_true (by first | (with_reducible assumption) | assumption)
                  obtain ⟨ad847, e847, hx847_0⟩ := Kd.at_int (Kd.R_reads' HO_9.out).2.2 x17_2 p847 q847
                  cases e847
                  replace p847 := eq_true p847
                  replace q847 := eq_true q847
                  go_wp2_with (first | ((with_reducible refine gate_builtin (b := .append) (xs := #[.tmp 115, .tmp 117]) rfl ?_); at_builtin; refine Kd.R_append (Kd.int .i64) (w0 := w) w.heap.size rfl (.tmp 115) (.tmp 117) 60 3 (.int .i64 0) 8 rfl Try.underlying60 info3 rfl (by decide) (by omega) u14 x14_2 x17_2 [.int .i64 x17_2] (fun k_ => some k_ ≠ (.slice (some ad847) x9_1.length co64 : Value).ownBlock ∧ some k_ ≠ (u15 : Value).ownBlock ∧ some k_ ≠ (u16 : Value).ownBlock) (fun _ => False) rfl rfl ?aP (fun _ hk => hk.elim) ?aF ?aO ?aB ?aS ?aL ?_; (case aP => exact rfl); (case aB => exact (by repeat (first | (with_reducible first | exact HB.out | apply below_alloc | apply pw_below_drewN | apply below_drew1) | exact HB.out))); (case aF => exact (fun k_ hk => ⟨Kd.fresh' (Kd.R_lt (by (with_reducible repeat (first | apply Kd.R_alloc | apply Kd.R_drewN | apply Kd.R_drew)); exact HO_9.out)) k_ hk, Kd.fresh' (Kd.R_lt (by (with_reducible repeat (first | apply Kd.R_alloc | apply Kd.R_drewN | apply Kd.R_drew)); exact HO_15.out)) k_ hk, Kd.fresh' (Kd.R_lt (by (with_reducible repeat (first | apply Kd.R_alloc | apply Kd.R_drewN | apply Kd.R_drew)); exact HO_16.out)) k_ hk⟩)); (case aO => exact (by (with_reducible repeat (first | apply Kd.R_alloc | apply Kd.R_drewN | apply Kd.R_drew)); exact HO_14.out)); (case aS => exact (below_size (by repeat (first | (with_reducible first | exact HB.out | apply below_alloc | apply pw_below_drewN | apply below_drew1) | exact HB.out)))); (case aL => have := LMc60.out; omega); intro v849 w65 ho hb hg hat; rw [← Ny848.out] at ho; have n0_ := Aside0.mk (Kd.Q_over' (by (with_reducible repeat (first | apply Kd.Q_alloc | apply Kd.Q_drewN | apply Kd.Q_drew)); exact HO_8.out) (Kd.R_typed (by (with_reducible repeat (first | apply Kd.R_alloc | apply Kd.R_drewN | apply Kd.R_drew)); exact HO_14.out)) (by decide) hg); have n1_ := Aside0.mk (Kd.R_after (ok := (fun k_ => some k_ ≠ (u15 : Value).ownBlock ∧ some k_ ≠ (u16 : Value).ownBlock)) (by (with_reducible repeat (first | apply Kd.R_alloc | apply Kd.R_drewN | apply Kd.R_drew)); exact Kd.R_mono HO_9.out (fun _ hk => ⟨⟨hk.2.1, hk.2.2⟩, hk.1⟩)) hg hat); have n2_ := Aside0.mk (Kd.R_after (ok := (fun k_ => some k_ ≠ (.slice (some ad847) x9_1.length co64 : Value).ownBlock ∧ some k_ ≠ (u16 : Value).ownBlock)) (by (with_reducible repeat (first | apply Kd.R_alloc | apply Kd.R_drewN | apply Kd.R_drew)); exact Kd.R_mono HO_15.out (fun _ hk => ⟨⟨hk.1, hk.2.2⟩, hk.2.1⟩)) hg hat); have n3_ := Aside0.mk (Kd.R_after (ok := (fun k_ => some k_ ≠ (.slice (some ad847) x9_1.length co64 : Value).ownBlock ∧ some k_ ≠ (u15 : Value).ownBlock)) (by (with_reducible repeat (first | apply Kd.R_alloc | apply Kd.R_drewN | apply Kd.R_drew)); exact Kd.R_mono HO_16.out (fun _ hk => ⟨⟨hk.1, hk.2.2⟩, hk.2.1⟩)) hg hat); have n4_ := Aside0.mk (hb); have n5_ := Aside0.mk (ho); clear HO_8; clear HO_9; clear HO_15; clear HO_16; clear HB; clear HO_14; have HO_8 := n0_; have HO_9 := n1_; have HO_15 := n2_; have HO_16 := n3_; have HB := n4_; have HO850 := n5_; clear n0_ n1_ n2_ n3_ n4_ n5_; clear ho hb hg hat; have p851 : 0 ≤ (x17_2 : Int) := of_decide_eq_true (by first | (with_reducible assumption) | assumption); have q851 : x17_2 < (x9_1.length : Int) := of_decide_eq_true (by first | (with_reducible assumption) | assumption); obtain ⟨ad851, e851, hx851_0⟩ := Kd.at_int (Kd.R_reads' HO_9.out).2.2 x17_2 p851 q851; obtain rfl : ad847 = ad851 := (by injection e851); replace p851 := eq_true p851; replace q851 := eq_true q851) | ((with_reducible refine gate_builtin (b := .append) (xs := #[.tmp 124, .tmp 126]) rfl ?_); at_builtin; refine Kd.R_append (Kd.int .i64) (w0 := w) w.heap.size rfl (.tmp 124) (.tmp 126) 60 3 (.int .i64 0) 8 rfl Try.underlying60 info3 rfl (by decide) (by omega) u15 x15_2 x17_2 [.int .i64 x17_2] (fun k_ => some k_ ≠ (.slice (some ad847) x9_1.length co64 : Value).ownBlock ∧ some k_ ≠ (u16 : Value).ownBlock ∧ some k_ ≠ (v849 : Value).ownBlock) (fun _ => False) rfl rfl ?aP (fun _ hk => hk.elim) ?aF ?aO ?aB ?aS ?aL ?_; (case aP => exact rfl); (case aB => exact (by repeat (first | (with_reducible first | exact HB.out | apply below_alloc | apply pw_below_drewN | apply below_drew1) | exact HB.out))); (case aF => exact (fun k_ hk => ⟨Kd.fresh' (Kd.R_lt (by (with_reducible repeat (first | apply Kd.R_alloc | apply Kd.R_drewN | apply Kd.R_drew)); exact HO_9.out)) k_ hk, Kd.fresh' (Kd.R_lt (by (with_reducible repeat (first | apply Kd.R_alloc | apply Kd.R_drewN | apply Kd.R_drew)); exact HO_16.out)) k_ hk, Kd.fresh' (Kd.R_lt (by (with_reducible repeat (first | apply Kd.R_alloc | apply Kd.R_drewN | apply Kd.R_drew)); exact HO850.out)) k_ hk⟩)); (case aO => exact (by (with_reducible repeat (first | apply Kd.R_alloc | apply Kd.R_drewN | apply Kd.R_drew)); exact Kd.R_mono HO_15.out (fun _ hk => ⟨hk.1.1, ⟨hk.1.2, hk.2⟩⟩))); (case aS => exact (below_size (by repeat (first | (with_reducible first | exact HB.out | apply below_alloc | apply pw_below_drewN | apply below_drew1) | exact HB.out)))); (case aL => have := LMc62.out; omega); intro v853 w66 ho hb hg hat; rw [← Ny852.out] at ho; have n0_ := Aside0.mk (Kd.Q_over' (by (with_reducible repeat (first | apply Kd.Q_alloc | apply Kd.Q_drewN | apply Kd.Q_drew)); exact HO_8.out) (Kd.R_typed (by (with_reducible repeat (first | apply Kd.R_alloc | apply Kd.R_drewN | apply Kd.R_drew)); exact HO_15.out)) (by decide) hg); have n1_ := Aside0.mk (Kd.R_after (ok := (fun k_ => some k_ ≠ (u16 : Value).ownBlock ∧ some k_ ≠ (v849 : Value).ownBlock)) (by (with_reducible repeat (first | apply Kd.R_alloc | apply Kd.R_drewN | apply Kd.R_drew)); exact Kd.R_mono HO_9.out (fun _ hk => ⟨⟨hk.1.2, hk.2⟩, hk.1.1⟩)) hg hat); have n2_ := Aside0.mk (Kd.R_after (ok := (fun k_ => some k_ ≠ (.slice (some ad847) x9_1.length co64 : Value).ownBlock ∧ some k_ ≠ (v849 : Value).ownBlock)) (by (with_reducible repeat (first | apply Kd.R_alloc | apply Kd.R_drewN | apply Kd.R_drew)); exact Kd.R_mono HO_16.out (fun _ hk => ⟨⟨hk.1.1, hk.2⟩, hk.1.2⟩)) hg hat); have n3_ := Aside0.mk (Kd.R_after (ok := (fun k_ => some k_ ≠ (.slice (some ad847) x9_1.length co64 : Value).ownBlock ∧ some k_ ≠ (u16 : Value).ownBlock)) (by (with_reducible repeat (first | apply Kd.R_alloc | apply Kd.R_drewN | apply Kd.R_drew)); exact Kd.R_mono HO850.out (fun _ hk => ⟨⟨hk.1, hk.2.2⟩, hk.2.1⟩)) hg hat); have n4_ := Aside0.mk (hb); have n5_ := Aside0.mk (ho); clear HO_8; clear HO_9; clear HO_16; clear HO850; clear HB; clear HO_15; have HO_8 := n0_; have HO_9 := n1_; have HO_16 := n2_; have HO850 := n3_; have HB := n4_; have HO854 := n5_; clear n0_ n1_ n2_ n3_ n4_ n5_; clear ho hb hg hat) | ((with_reducible refine gate_dst (N := 129) rfl ?_); refine Kd.R_lit (Kd.int .i64) _ 3 ?hg (N := 129) ?hd (xs := ([x17_2] : List Int)) (inner := [.int .i64 x17_2]) (ok := fun _ => True) (okp := fun _ => True) ?hr ?hp (fun _ hk => hk) trivial (Below.refl _ _) (Nat.le_refl _) (by simp) ?_; (case hd => rfl); (case hg => rfl); (case hr => first | (go_simp; done) | (go_simp; rfl)); (case hp => exact (Reps.one (show Kd.M (Kd.int .i64) _ _ _ x17_2 [.int .i64 x17_2] from rfl) (Reps.none _ _))); intro v856 w67 ho68 hb hg_ hnew_; clear hg_ hnew_; (first | rw [← Ny855.out] at ho68 | (simp only [Int.reduceToNat] at ho68; rw [← Ny855.out] at ho68)); have n0_ := Aside0.mk (Kd.Q_below (by (with_reducible repeat (first | apply Kd.Q_alloc | apply Kd.Q_drewN | apply Kd.Q_drew)); exact HO_8.out) hb); have n1_ := Aside0.mk (Kd.R_elder' (by (with_reducible repeat (first | apply Kd.R_alloc | apply Kd.R_drewN | apply Kd.R_drew)); exact HO_9.out) (Kd.R_base ho68) hb); have n2_ := Aside0.mk (Kd.R_elder' (by (with_reducible repeat (first | apply Kd.R_alloc | apply Kd.R_drewN | apply Kd.R_drew)); exact HO_16.out) (Kd.R_base ho68) hb); have n3_ := Aside0.mk (Kd.R_elder' (by (with_reducible repeat (first | apply Kd.R_alloc | apply Kd.R_drewN | apply Kd.R_drew)); exact HO850.out) (Kd.R_base ho68) hb); have n4_ := Aside0.mk (Kd.R_elder' (by (with_reducible repeat (first | apply Kd.R_alloc | apply Kd.R_drewN | apply Kd.R_drew)); exact HO854.out) (Kd.R_base ho68) hb); have n5_ := Aside0.mk (Kd.R_lower (Kd.R_new' (Kd.R_new' (Kd.R_new' (Kd.R_new' ho68 (Kd.R_lt (by (with_reducible repeat (first | apply Kd.R_alloc | apply Kd.R_drewN | apply Kd.R_drew)); exact HO_9.out))) (Kd.R_lt (by (with_reducible repeat (first | apply Kd.R_alloc | apply Kd.R_drewN | apply Kd.R_drew)); exact HO_16.out))) (Kd.R_lt (by (with_reducible repeat (first | apply Kd.R_alloc | apply Kd.R_drewN | apply Kd.R_drew)); exact HO850.out))) (Kd.R_lt (by (with_reducible repeat (first | apply Kd.R_alloc | apply Kd.R_drewN | apply Kd.R_drew)); exact HO854.out))) (below_size (by repeat (first | (with_reducible first | exact HB.out | apply below_alloc | apply pw_below_drewN | apply below_drew1) | exact HB.out)))); have n6_ := Aside0.mk (below_step (by repeat (first | (with_reducible first | exact HB.out | apply below_alloc | apply pw_below_drewN | apply below_drew1) | exact HB.out)) hb); clear HO_8; clear HO_9; clear HO_16; clear HO850; clear HO854; clear HB; have HO_8 := n0_; have HO_9 := n1_; have HO_16 := n2_; have HO850 := n3_; have HO854 := n4_; have HO857 := n5_; have HB := n6_; clear n0_ n1_ n2_ n3_ n4_ n5_ n6_; clear hb ho68; obtain ⟨Ao70, co70, eo70⟩ := Kd.R_slice HO_16.out; subst eo70) | ((with_reducible refine gate_builtin (b := .append) (xs := #[.tmp 129, .tmp 130]) rfl ?_); at_builtin; refine Kd.R_append_rows (Kd.int .i64) (w0 := w) w.heap.size rfl (.tmp 129) (.tmp 130) 60 3 (.int .i64 0) 8 rfl Try.underlying60 info3 rfl (by decide) (by omega) v856 y855 x16_2 _ _ _ (fun k_ => some k_ ≠ (.slice (some ad847) x9_1.length co64 : Value).ownBlock ∧ some k_ ≠ (.slice Ao70 x16_2.length co70 : Value).ownBlock ∧ some k_ ≠ (v849 : Value).ownBlock ∧ some k_ ≠ (v853 : Value).ownBlock) (fun _ => False) rfl rfl ?aO ?aR (fun _ _ h => h) (fun _ h => h.elim) ?aF ?aB ?aS ?aL ?_; (case aR => repeat (first | exact (Kd.R_reads' HO_16.out).2.2 | (with_reducible refine Kd.C_alloc ?_ _) | (with_reducible refine Kd.C_drewN ?_ _) | (with_reducible refine Kd.C_drew ?_))); (case aB => exact (by repeat (first | (with_reducible first | exact HB.out | apply below_alloc | apply pw_below_drewN | apply below_drew1) | exact HB.out))); (case aF => exact (fun k_ hk => ⟨Kd.fresh' (Kd.R_lt (by (with_reducible repeat (first | apply Kd.R_alloc | apply Kd.R_drewN | apply Kd.R_drew)); exact HO_9.out)) k_ hk, Kd.fresh' (Kd.R_lt (by (with_reducible repeat (first | apply Kd.R_alloc | apply Kd.R_drewN | apply Kd.R_drew)); exact HO_16.out)) k_ hk, Kd.fresh' (Kd.R_lt (by (with_reducible repeat (first | apply Kd.R_alloc | apply Kd.R_drewN | apply Kd.R_drew)); exact HO850.out)) k_ hk, Kd.fresh' (Kd.R_lt (by (with_reducible repeat (first | apply Kd.R_alloc | apply Kd.R_drewN | apply Kd.R_drew)); exact HO854.out)) k_ hk⟩)); (case aO => exact (by (with_reducible repeat (first | apply Kd.R_alloc | apply Kd.R_drewN | apply Kd.R_drew)); exact Kd.R_mono HO857.out (fun _ hk => ⟨hk.1.1.1.2, ⟨hk.1.1.2, ⟨hk.1.2, hk.2⟩⟩⟩))); (case aS => exact (below_size (by repeat (first | (with_reducible first | exact HB.out | apply below_alloc | apply pw_below_drewN | apply below_drew1) | exact HB.out)))); (case aL => have := LMc63.out; omega); intro v859 w69 ho hb hg hat; rw [← Ny858.out] at ho; have n0_ := Aside0.mk (Kd.Q_over' (by (with_reducible repeat (first | apply Kd.Q_alloc | apply Kd.Q_drewN | apply Kd.Q_drew)); exact HO_8.out) (Kd.R_typed (by (with_reducible repeat (first | apply Kd.R_alloc | apply Kd.R_drewN | apply Kd.R_drew)); exact HO857.out)) (by decide) hg); have n1_ := Aside0.mk (Kd.R_after (ok := (fun k_ => some k_ ≠ (.slice Ao70 x16_2.length co70 : Value).ownBlock ∧ some k_ ≠ (v849 : Value).ownBlock ∧ some k_ ≠ (v853 : Value).ownBlock)) (by (with_reducible repeat (first | apply Kd.R_alloc | apply Kd.R_drewN | apply Kd.R_drew)); exact Kd.R_mono HO_9.out (fun _ hk => ⟨⟨hk.1.1.1, ⟨hk.1.1.2, hk.1.2⟩⟩, hk.2⟩)) hg hat); have n2_ := Aside0.mk (Kd.R_after (ok := (fun k_ => some k_ ≠ (.slice (some ad847) x9_1.length co64 : Value).ownBlock ∧ some k_ ≠ (v849 : Value).ownBlock ∧ some k_ ≠ (v853 : Value).ownBlock)) (by (with_reducible repeat (first | apply Kd.R_alloc | apply Kd.R_drewN | apply Kd.R_drew)); exact Kd.R_mono HO_16.out (fun _ hk => ⟨⟨hk.1.1.1, ⟨hk.1.1.2, hk.1.2⟩⟩, hk.2⟩)) hg hat); have n3_ := Aside0.mk (Kd.R_after (ok := (fun k_ => some k_ ≠ (.slice (some ad847) x9_1.length co64 : Value).ownBlock ∧ some k_ ≠ (.slice Ao70 x16_2.length co70 : Value).ownBlock ∧ some k_ ≠ (v853 : Value).ownBlock)) (by (with_reducible repeat (first | apply Kd.R_alloc | apply Kd.R_drewN | apply Kd.R_drew)); exact Kd.R_mono HO850.out (fun _ hk => ⟨⟨hk.1.1.1, ⟨hk.1.1.2, hk.1.2⟩⟩, hk.2⟩)) hg hat); have n4_ := Aside0.mk (Kd.R_after (ok := (fun k_ => some k_ ≠ (.slice (some ad847) x9_1.length co64 : Value).ownBlock ∧ some k_ ≠ (.slice Ao70 x16_2.length co70 : Value).ownBlock ∧ some k_ ≠ (v849 : Value).ownBlock)) (by (with_reducible repeat (first | apply Kd.R_alloc | apply Kd.R_drewN | apply Kd.R_drew)); exact HO854.out) hg hat); have n5_ := Aside0.mk (hb); have n6_ := Aside0.mk (ho); clear HO_8; clear HO_9; clear HO_16; clear HO850; clear HO854; clear HB; clear HO857; have HO_8 := n0_; have HO_9 := n1_; have HO_16 := n2_; have HO850 := n3_; have HO854 := n4_; have HB := n5_; have HO860 := n6_; clear n0_ n1_ n2_ n3_ n4_ n5_ n6_; clear ho hb hg hat))
                  first | go_roundg k2 | (simp only [add_plain] at *; go_roundg k2)
                  case measure => have := HK1.out; have := HK2.out; omega
                  case rel => exact ⟨(y848), (y852), (y858), (wrap64 (x17_2 + 1)), (by first | rfl | (simp; done) | (simp [*]; done)), H', ⟨by have := HK1.out; have := HK2.out; omega⟩, ⟨by (with_reducible repeat (first | apply Kd.Q_alloc | apply Kd.Q_drewN | apply Kd.Q_drew)); exact HO_8.out⟩, ⟨by (with_reducible repeat (first | apply Kd.R_alloc | apply Kd.R_drewN | apply Kd.R_drew)); exact Kd.R_mono HO_9.out (fun _ hk => ⟨hk.1.2.1, ⟨hk.1.2.2, hk.2⟩⟩)⟩, ⟨by (with_reducible repeat (first | apply Kd.R_alloc | apply Kd.R_drewN | apply Kd.R_drew)); exact Kd.R_mono HO850.out (fun _ hk => ⟨hk.1.1, ⟨hk.1.2.2, hk.2⟩⟩)⟩, ⟨by (with_reducible repeat (first | apply Kd.R_alloc | apply Kd.R_drewN | apply Kd.R_drew)); exact Kd.R_mono HO854.out (fun _ hk => ⟨hk.1.1, ⟨hk.1.2.2, hk.2⟩⟩)⟩, ⟨by (with_reducible repeat (first | apply Kd.R_alloc | apply Kd.R_drewN | apply Kd.R_drew)); exact Kd.R_mono HO860.out (fun _ hk => ⟨hk.1, ⟨hk.2.2.1, hk.2.2.2⟩⟩)⟩, ⟨by repeat (first | (with_reducible first | exact HB.out | apply below_alloc | apply pw_below_drewN | apply below_drew1) | exact HB.out)⟩⟩
                ·rw [if_neg c63] at H
                 exact absurd H (by simp)
               ·rw [if_neg c62] at H
                exact absurd H (by simp)
              ·rw [if_neg c61] at H
               have c61b0 : ((rd x9_1 x17_2) == 2) = false := beq_eq_false_iff_ne.mpr c61
               have c61b1 : ((rd x9_1 x17_2) != 2) = true := bne_iff_ne.mpr c61
               as_aux_lemma =>
                have H' := Aside0.mk H
                clear H
                obtain ⟨Ao71, co71, eo71⟩ := Kd.R_slice HO_9.out
                subst eo71
                have p847 : 0 ≤ (x17_2 : Int) := of_decide_eq_true (by first | (with_reducible assumption) | assumption)
                have q847 : x17_2 < (x9_1.length : Int) := of_decide_eq_true (by first | (with_reducible assumption) | assumption)
                obtain ⟨ad847, e847, hx847_0⟩ := Kd.at_int (Kd.R_reads' HO_9.out).2.2 x17_2 p847 q847
                cases e847
                replace p847 := eq_true p847
                replace q847 := eq_true q847
                go_wp2_with (first | ((with_reducible refine gate_builtin (b := .append) (xs := #[.tmp 115, .tmp 117]) rfl ?_); at_builtin; refine Kd.R_append (Kd.int .i64) (w0 := w) w.heap.size rfl (.tmp 115) (.tmp 117) 60 3 (.int .i64 0) 8 rfl Try.underlying60 info3 rfl (by decide) (by omega) u14 x14_2 x17_2 [.int .i64 x17_2] (fun k_ => some k_ ≠ (.slice (some ad847) x9_1.length co71 : Value).ownBlock ∧ some k_ ≠ (u15 : Value).ownBlock ∧ some k_ ≠ (u16 : Value).ownBlock) (fun _ => False) rfl rfl ?aP (fun _ hk => hk.elim) ?aF ?aO ?aB ?aS ?aL ?_; (case aP => exact rfl); (case aB => exact (by repeat (first | (with_reducible first | exact HB.out | apply below_alloc | apply pw_below_drewN | apply below_drew1) | exact HB.out))); (case aF => exact (fun k_ hk => ⟨Kd.fresh' (Kd.R_lt (by (with_reducible repeat (first | apply Kd.R_alloc | apply Kd.R_drewN | apply Kd.R_drew)); exact HO_9.out)) k_ hk, Kd.fresh' (Kd.R_lt (by (with_reducible repeat (first | apply Kd.R_alloc | apply Kd.R_drewN | apply Kd.R_drew)); exact HO_15.out)) k_ hk, Kd.fresh' (Kd.R_lt (by (with_reducible repeat (first | apply Kd.R_alloc | apply Kd.R_drewN | apply Kd.R_drew)); exact HO_16.out)) k_ hk⟩)); (case aO => exact (by (with_reducible repeat (first | apply Kd.R_alloc | apply Kd.R_drewN | apply Kd.R_drew)); exact HO_14.out)); (case aS => exact (below_size (by repeat (first | (with_reducible first | exact HB.out | apply below_alloc | apply pw_below_drewN | apply below_drew1) | exact HB.out)))); (case aL => have := LMc60.out; omega); intro v849 w72 ho hb hg hat; rw [← Ny848.out] at ho; have n0_ := Aside0.mk (Kd.Q_over' (by (with_reducible repeat (first | apply Kd.Q_alloc | apply Kd.Q_drewN | apply Kd.Q_drew)); exact HO_8.out) (Kd.R_typed (by (with_reducible repeat (first | apply Kd.R_alloc | apply Kd.R_drewN | apply Kd.R_drew)); exact HO_14.out)) (by decide) hg); have n1_ := Aside0.mk (Kd.R_after (ok := (fun k_ => some k_ ≠ (u15 : Value).ownBlock ∧ some k_ ≠ (u16 : Value).ownBlock)) (by (with_reducible repeat (first | apply Kd.R_alloc | apply Kd.R_drewN | apply Kd.R_drew)); exact Kd.R_mono HO_9.out (fun _ hk => ⟨⟨hk.2.1, hk.2.2⟩, hk.1⟩)) hg hat); have n2_ := Aside0.mk (Kd.R_after (ok := (fun k_ => some k_ ≠ (.slice (some ad847) x9_1.length co71 : Value).ownBlock ∧ some k_ ≠ (u16 : Value).ownBlock)) (by (with_reducible repeat (first | apply Kd.R_alloc | apply Kd.R_drewN | apply Kd.R_drew)); exact Kd.R_mono HO_15.out (fun _ hk => ⟨⟨hk.1, hk.2.2⟩, hk.2.1⟩)) hg hat); have n3_ := Aside0.mk (Kd.R_after (ok := (fun k_ => some k_ ≠ (.slice (some ad847) x9_1.length co71 : Value).ownBlock ∧ some k_ ≠ (u15 : Value).ownBlock)) (by (with_reducible repeat (first | apply Kd.R_alloc | apply Kd.R_drewN | apply Kd.R_drew)); exact Kd.R_mono HO_16.out (fun _ hk => ⟨⟨hk.1, hk.2.2⟩, hk.2.1⟩)) hg hat); have n4_ := Aside0.mk (hb); have n5_ := Aside0.mk (ho); clear HO_8; clear HO_9; clear HO_15; clear HO_16; clear HB; clear HO_14; have HO_8 := n0_; have HO_9 := n1_; have HO_15 := n2_; have HO_16 := n3_; have HB := n4_; have HO850 := n5_; clear n0_ n1_ n2_ n3_ n4_ n5_; clear ho hb hg hat; have p851 : 0 ≤ (x17_2 : Int) := of_decide_eq_true (by first | (with_reducible assumption) | assumption); have q851 : x17_2 < (x9_1.length : Int) := of_decide_eq_true (by first | (with_reducible assumption) | assumption); obtain ⟨ad851, e851, hx851_0⟩ := Kd.at_int (Kd.R_reads' HO_9.out).2.2 x17_2 p851 q851; obtain rfl : ad847 = ad851 := (by injection e851); replace p851 := eq_true p851; replace q851 := eq_true q851))
                first | go_roundg k2 | (simp only [add_plain] at *; go_roundg k2)
                case measure => have := HK1.out; have := HK2.out; omega
                case rel => exact ⟨(y848), (x15_2), (x16_2), (wrap64 (x17_2 + 1)), (by first | rfl | (simp; done) | (simp [*]; done)), H', ⟨by have := HK1.out; have := HK2.out; omega⟩, ⟨by (with_reducible repeat (first | apply Kd.Q_alloc | apply Kd.Q_drewN | apply Kd.Q_drew)); exact HO_8.out⟩, ⟨by (with_reducible repeat (first | apply Kd.R_alloc | apply Kd.R_drewN | apply Kd.R_drew)); exact Kd.R_mono HO_9.out (fun _ hk => ⟨hk.2, ⟨hk.1.1, hk.1.2⟩⟩)⟩, ⟨by (with_reducible repeat (first | apply Kd.R_alloc | apply Kd.R_drewN | apply Kd.R_drew)); exact HO850.out⟩, ⟨by (with_reducible repeat (first | apply Kd.R_alloc | apply Kd.R_drewN | apply Kd.R_drew)); exact Kd.R_mono HO_15.out (fun _ hk => ⟨hk.1.1, ⟨hk.2, hk.1.2⟩⟩)⟩, ⟨by (with_reducible repeat (first | apply Kd.R_alloc | apply Kd.R_drewN | apply Kd.R_drew)); exact Kd.R_mono HO_16.out (fun _ hk => ⟨hk.1.1, ⟨hk.2, hk.1.2⟩⟩)⟩, ⟨by repeat (first | (with_reducible first | exact HB.out | apply below_alloc | apply pw_below_drewN | apply below_drew1) | exact HB.out)⟩⟩
             ·rw [if_neg c60] at H
              exact absurd H (by simp)
            ·rw [if_neg c59] at H
             have c59b0 : ((rd x9_1 x17_2) == 1) = false := beq_eq_false_iff_ne.mpr c59
             have c59b1 : ((rd x9_1 x17_2) != 1) = true := bne_iff_ne.mpr c59
             by_cases c73 : (rd x9_1 x17_2) = 2
             ·rw [if_pos c73] at H
              have c73b0 : ((rd x9_1 x17_2) == 2) = true := beq_iff_eq.mpr c73
              have c73b1 : ((rd x9_1 x17_2) != 2) = false := bne_eq_false_iff_eq.mpr c73
              clear c73
              by_cases c74 : x15_2.length < 17592186044416
              ·rw [if_pos c74] at H
               have LMc74 := Aside0.mk c74
               clear c74
               obtain ⟨y862, hy862⟩ : ∃ y_ : List Int, y_ = (x15_2 ++ [x17_2]) := ⟨_, rfl⟩
               replace H : ((some (([x17_2] : List Int) : List Int)).bind fun y865 => (if y865.length + x16_2.length < 17592186044416 then (foghornlaw20_MendReach.l1 k2 t816 t815 x8_1 x9_1 x14_2 y862 (y865 ++ x16_2) (wrap64 (x17_2 + 1))) else (none))) = some r := by first | (rw [hy862]; with_reducible exact H) | (have H2_ := (Option.bind_some _ _).symm.trans H; rw [hy862]; with_reducible exact H2_) | (have H2_ := (Option.bind_some _ _).symm.trans H; with_reducible exact H2_) | with_reducible exact H | (rw [hy862]; exact H) | exact H
               have Ny862 := Aside0.mk hy862
               clear hy862
               obtain ⟨y865, hy865⟩ : ∃ y_ : List Int, y_ = (([x17_2] : List Int)) := ⟨_, rfl⟩
               replace H : (if y865.length + x16_2.length < 17592186044416 then (foghornlaw20_MendReach.l1 k2 t816 t815 x8_1 x9_1 x14_2 y862 (y865 ++ x16_2) (wrap64 (x17_2 + 1))) else (none)) = some r := by first | (rw [hy865]; with_reducible exact H) | (have H2_ := (Option.bind_some _ _).symm.trans H; rw [hy865]; with_reducible exact H2_) | (have H2_ := (Option.bind_some _ _).symm.trans H; with_reducible exact H2_) | with_reducible exact H | (rw [hy865]; exact H) | exact H
               have Ny865 := Aside0.mk hy865
               clear hy865
               by_cases c75 : y865.length + x16_2.length < 17592186044416
               ·rw [if_pos c75] at H
                have LMc75 := Aside0.mk c75
                clear c75
                obtain ⟨y868, hy868⟩ : ∃ y_ : List Int, y_ = (y865 ++ x16_2) := ⟨_, rfl⟩
                replace H : (foghornlaw20_MendReach.l1 k2 t816 t815 x8_1 x9_1 x14_2 y862 y868 (wrap64 (x17_2 + 1))) = some r := by first | (rw [hy868]; with_reducible exact H) | (have H2_ := (Option.bind_some _ _).symm.trans H; rw [hy868]; with_reducible exact H2_) | (have H2_ := (Option.bind_some _ _).symm.trans H; with_reducible exact H2_) | with_reducible exact H | (rw [hy868]; exact H) | exact H
                have Ny868 := Aside0.mk hy868
                clear hy868
                as_aux_lemma =>
                 have H' := Aside0.mk H
                 clear H
                 obtain ⟨Ao76, co76, eo76⟩ := Kd.R_slice HO_9.out
                 subst eo76
                 have p847 : 0 ≤ (x17_2 : Int) := of_decide_eq_true (by first | (with_reducible assumption) | assumption)
                 have q847 : x17_2 < (x9_1.length : Int) := of_decide_eq_true (by first | (with_reducible assumption) | assumption)
                 obtain ⟨ad847, e847, hx847_0⟩ := Kd.at_int (Kd.R_reads' HO_9.out).2.2 x17_2 p847 q847
                 cases e847
                 replace p847 := eq_true p847
                 replace q847 := eq_true q847
                 have p861 : 0 ≤ (x17_2 : Int) := of_decide_eq_true (by first | (with_reducible assumption) | assumption)
                 have q861 : x17_2 < (x9_1.length : Int) := of_decide_eq_true (by first | (with_reducible assumption) | assumption)
                 obtain ⟨ad861, e861, hx861_0⟩ := Kd.at_int (Kd.R_reads' HO_9.out).2.2 x17_2 p861 q861
                 obtain rfl : ad847 = ad861 := (by injection e861)
                 replace p861 := eq_true p861
                 replace q861 := eq_true q861
                 go_wp2_with (first | ((with_reducible refine gate_builtin (b := .append) (xs := #[.tmp 124, .tmp 126]) rfl ?_); at_builtin; refine Kd.R_append (Kd.int .i64) (w0 := w) w.heap.size rfl (.tmp 124) (.tmp 126) 60 3 (.int .i64 0) 8 rfl Try.underlying60 info3 rfl (by decide) (by omega) u15 x15_2 x17_2 [.int .i64 x17_2] (fun k_ => some k_ ≠ (.slice (some ad847) x9_1.length co76 : Value).ownBlock ∧ some k_ ≠ (u14 : Value).ownBlock ∧ some k_ ≠ (u16 : Value).ownBlock) (fun _ => False) rfl rfl ?aP (fun _ hk => hk.elim) ?aF ?aO ?aB ?aS ?aL ?_; (case aP => exact rfl); (case aB => exact (by repeat (first | (with_reducible first | exact HB.out | apply below_alloc | apply pw_below_drewN | apply below_drew1) | exact HB.out))); (case aF => exact (fun k_ hk => ⟨Kd.fresh' (Kd.R_lt (by (with_reducible repeat (first | apply Kd.R_alloc | apply Kd.R_drewN | apply Kd.R_drew)); exact HO_9.out)) k_ hk, Kd.fresh' (Kd.R_lt (by (with_reducible repeat (first | apply Kd.R_alloc | apply Kd.R_drewN | apply Kd.R_drew)); exact HO_14.out)) k_ hk, Kd.fresh' (Kd.R_lt (by (with_reducible repeat (first | apply Kd.R_alloc | apply Kd.R_drewN | apply Kd.R_drew)); exact HO_16.out)) k_ hk⟩)); (case aO => exact (by (with_reducible repeat (first | apply Kd.R_alloc | apply Kd.R_drewN | apply Kd.R_drew)); exact HO_15.out)); (case aS => exact (below_size (by repeat (first | (with_reducible first | exact HB.out | apply below_alloc | apply pw_below_drewN | apply below_drew1) | exact HB.out)))); (case aL => have := LMc74.out; omega); intro v863 w77 ho hb hg hat; rw [← Ny862.out] at ho; have n0_ := Aside0.mk (Kd.Q_over' (by (with_reducible repeat (first | apply Kd.Q_alloc | apply Kd.Q_drewN | apply Kd.Q_drew)); exact HO_8.out) (Kd.R_typed (by (with_reducible repeat (first | apply Kd.R_alloc | apply Kd.R_drewN | apply Kd.R_drew)); exact HO_15.out)) (by decide) hg); have n1_ := Aside0.mk (Kd.R_after (ok := (fun k_ => some k_ ≠ (u14 : Value).ownBlock ∧ some k_ ≠ (u16 : Value).ownBlock)) (by (with_reducible repeat (first | apply Kd.R_alloc | apply Kd.R_drewN | apply Kd.R_drew)); exact Kd.R_mono HO_9.out (fun _ hk => ⟨⟨hk.1, hk.2.2⟩, hk.2.1⟩)) hg hat); have n2_ := Aside0.mk (Kd.R_after (ok := (fun k_ => some k_ ≠ (.slice (some ad847) x9_1.length co76 : Value).ownBlock ∧ some k_ ≠ (u16 : Value).ownBlock)) (by (with_reducible repeat (first | apply Kd.R_alloc | apply Kd.R_drewN | apply Kd.R_drew)); exact Kd.R_mono HO_14.out (fun _ hk => ⟨⟨hk.1, hk.2.2⟩, hk.2.1⟩)) hg hat); have n3_ := Aside0.mk (Kd.R_after (ok := (fun k_ => some k_ ≠ (.slice (some ad847) x9_1.length co76 : Value).ownBlock ∧ some k_ ≠ (u14 : Value).ownBlock)) (by (with_reducible repeat (first | apply Kd.R_alloc | apply Kd.R_drewN | apply Kd.R_drew)); exact Kd.R_mono HO_16.out (fun _ hk => ⟨⟨hk.1, hk.2.1⟩, hk.2.2⟩)) hg hat); have n4_ := Aside0.mk (hb); have n5_ := Aside0.mk (ho); clear HO_8; clear HO_9; clear HO_14; clear HO_16; clear HB; clear HO_15; have HO_8 := n0_; have HO_9 := n1_; have HO_14 := n2_; have HO_16 := n3_; have HB := n4_; have HO864 := n5_; clear n0_ n1_ n2_ n3_ n4_ n5_; clear ho hb hg hat) | ((with_reducible refine gate_dst (N := 129) rfl ?_); refine Kd.R_lit (Kd.int .i64) _ 3 ?hg (N := 129) ?hd (xs := ([x17_2] : List Int)) (inner := [.int .i64 x17_2]) (ok := fun _ => True) (okp := fun _ => True) ?hr ?hp (fun _ hk => hk) trivial (Below.refl _ _) (Nat.le_refl _) (by simp) ?_; (case hd => rfl); (case hg => rfl); (case hr => first | (go_simp; done) | (go_simp; rfl)); (case hp => exact (Reps.one (show Kd.M (Kd.int .i64) _ _ _ x17_2 [.int .i64 x17_2] from rfl) (Reps.none _ _))); intro v866 w78 ho79 hb hg_ hnew_; clear hg_ hnew_; (first | rw [← Ny865.out] at ho79 | (simp only [Int.reduceToNat] at ho79; rw [← Ny865.out] at ho79)); have n0_ := Aside0.mk (Kd.Q_below (by (with_reducible repeat (first | apply Kd.Q_alloc | apply Kd.Q_drewN | apply Kd.Q_drew)); exact HO_8.out) hb); have n1_ := Aside0.mk (Kd.R_elder' (by (with_reducible repeat (first | apply Kd.R_alloc | apply Kd.R_drewN | apply Kd.R_drew)); exact HO_9.out) (Kd.R_base ho79) hb); have n2_ := Aside0.mk (Kd.R_elder' (by (with_reducible repeat (first | apply Kd.R_alloc | apply Kd.R_drewN | apply Kd.R_drew)); exact HO_14.out) (Kd.R_base ho79) hb); have n3_ := Aside0.mk (Kd.R_elder' (by (with_reducible repeat (first | apply Kd.R_alloc | apply Kd.R_drewN | apply Kd.R_drew)); exact HO_16.out) (Kd.R_base ho79) hb); have n4_ := Aside0.mk (Kd.R_elder' (by (with_reducible repeat (first | apply Kd.R_alloc | apply Kd.R_drewN | apply Kd.R_drew)); exact HO864.out) (Kd.R_base ho79) hb); have n5_ := Aside0.mk (Kd.R_lower (Kd.R_new' (Kd.R_new' (Kd.R_new' (Kd.R_new' ho79 (Kd.R_lt (by (with_reducible repeat (first | apply Kd.R_alloc | apply Kd.R_drewN | apply Kd.R_drew)); exact HO_9.out))) (Kd.R_lt (by (with_reducible repeat (first | apply Kd.R_alloc | apply Kd.R_drewN | apply Kd.R_drew)); exact HO_14.out))) (Kd.R_lt (by (with_reducible repeat (first | apply Kd.R_alloc | apply Kd.R_drewN | apply Kd.R_drew)); exact HO_16.out))) (Kd.R_lt (by (with_reducible repeat (first | apply Kd.R_alloc | apply Kd.R_drewN | apply Kd.R_drew)); exact HO864.out))) (below_size (by repeat (first | (with_reducible first | exact HB.out | apply below_alloc | apply pw_below_drewN | apply below_drew1) | exact HB.out)))); have n6_ := Aside0.mk (below_step (by repeat (first | (with_reducible first | exact HB.out | apply below_alloc | apply pw_below_drewN | apply below_drew1) | exact HB.out)) hb); clear HO_8; clear HO_9; clear HO_14; clear HO_16; clear HO864; clear HB; have HO_8 := n0_; have HO_9 := n1_; have HO_14 := n2_; have HO_16 := n3_; have HO864 := n4_; have HO867 := n5_; have HB := n6_; clear n0_ n1_ n2_ n3_ n4_ n5_ n6_; clear hb ho79; obtain ⟨Ao81, co81, eo81⟩ := Kd.R_slice HO_16.out; subst eo81) | ((with_reducible refine gate_builtin (b := .append) (xs := #[.tmp 129, .tmp 130]) rfl ?_); at_builtin; refine Kd.R_append_rows (Kd.int .i64) (w0 := w) w.heap.size rfl (.tmp 129) (.tmp 130) 60 3 (.int .i64 0) 8 rfl Try.underlying60 info3 rfl (by decide) (by omega) v866 y865 x16_2 _ _ _ (fun k_ => some k_ ≠ (.slice (some ad847) x9_1.length co76 : Value).ownBlock ∧ some k_ ≠ (u14 : Value).ownBlock ∧ some k_ ≠ (.slice Ao81 x16_2.length co81 : Value).ownBlock ∧ some k_ ≠ (v863 : Value).ownBlock) (fun _ => False) rfl rfl ?aO ?aR (fun _ _ h => h) (fun _ h => h.elim) ?aF ?aB ?aS ?aL ?_; (case aR => repeat (first | exact (Kd.R_reads' HO_16.out).2.2 | (with_reducible refine Kd.C_alloc ?_ _) | (with_reducible refine Kd.C_drewN ?_ _) | (with_reducible refine Kd.C_drew ?_))); (case aB => exact (by repeat (first | (with_reducible first | exact HB.out | apply below_alloc | apply pw_below_drewN | apply below_drew1) | exact HB.out))); (case aF => exact (fun k_ hk => ⟨Kd.fresh' (Kd.R_lt (by (with_reducible repeat (first | apply Kd.R_alloc | apply Kd.R_drewN | apply Kd.R_drew)); exact HO_9.out)) k_ hk, Kd.fresh' (Kd.R_lt (by (with_reducible repeat (first | apply Kd.R_alloc | apply Kd.R_drewN | apply Kd.R_drew)); exact HO_14.out)) k_ hk, Kd.fresh' (Kd.R_lt (by (with_reducible repeat (first | apply Kd.R_alloc | apply Kd.R_drewN | apply Kd.R_drew)); exact HO_16.out)) k_ hk, Kd.fresh' (Kd.R_lt (by (with_reducible repeat (first | apply Kd.R_alloc | apply Kd.R_drewN | apply Kd.R_drew)); exact HO864.out)) k_ hk⟩)); (case aO => exact (by (with_reducible repeat (first | apply Kd.R_alloc | apply Kd.R_drewN | apply Kd.R_drew)); exact Kd.R_mono HO867.out (fun _ hk => ⟨hk.1.1.1.2, ⟨hk.1.1.2, ⟨hk.1.2, hk.2⟩⟩⟩))); (case aS => exact (below_size (by repeat (first | (with_reducible first | exact HB.out | apply below_alloc | apply pw_below_drewN | apply below_drew1) | exact HB.out)))); (case aL => have := LMc75.out; omega); intro v869 w80 ho hb hg hat; rw [← Ny868.out] at ho; have n0_ := Aside0.mk (Kd.Q_over' (by (with_reducible repeat (first | apply Kd.Q_alloc | apply Kd.Q_drewN | apply Kd.Q_drew)); exact HO_8.out) (Kd.R_typed (by (with_reducible repeat (first | apply Kd.R_alloc | apply Kd.R_drewN | apply Kd.R_drew)); exact HO867.out)) (by decide) hg); have n1_ := Aside0.mk (Kd.R_after (ok := (fun k_ => some k_ ≠ (u14 : Value).ownBlock ∧ some k_ ≠ (.slice Ao81 x16_2.length co81 : Value).ownBlock ∧ some k_ ≠ (v863 : Value).ownBlock)) (by (with_reducible repeat (first | apply Kd.R_alloc | apply Kd.R_drewN | apply Kd.R_drew)); exact Kd.R_mono HO_9.out (fun _ hk => ⟨⟨hk.1.1.1, ⟨hk.1.1.2, hk.1.2⟩⟩, hk.2⟩)) hg hat); have n2_ := Aside0.mk (Kd.R_after (ok := (fun k_ => some k_ ≠ (.slice (some ad847) x9_1.length co76 : Value).ownBlock ∧ some k_ ≠ (.slice Ao81 x16_2.length co81 : Value).ownBlock ∧ some k_ ≠ (v863 : Value).ownBlock)) (by (with_reducible repeat (first | apply Kd.R_alloc | apply Kd.R_drewN | apply Kd.R_drew)); exact Kd.R_mono HO_14.out (fun _ hk => ⟨⟨hk.1.1.1, ⟨hk.1.1.2, hk.1.2⟩⟩, hk.2⟩)) hg hat); have n3_ := Aside0.mk (Kd.R_after (ok := (fun k_ => some k_ ≠ (.slice (some ad847) x9_1.length co76 : Value).ownBlock ∧ some k_ ≠ (u14 : Value).ownBlock ∧ some k_ ≠ (v863 : Value).ownBlock)) (by (with_reducible repeat (first | apply Kd.R_alloc | apply Kd.R_drewN | apply Kd.R_drew)); exact Kd.R_mono HO_16.out (fun _ hk => ⟨⟨hk.1.1.1, ⟨hk.1.1.2, hk.1.2⟩⟩, hk.2⟩)) hg hat); have n4_ := Aside0.mk (Kd.R_after (ok := (fun k_ => some k_ ≠ (.slice (some ad847) x9_1.length co76 : Value).ownBlock ∧ some k_ ≠ (u14 : Value).ownBlock ∧ some k_ ≠ (.slice Ao81 x16_2.length co81 : Value).ownBlock)) (by (with_reducible repeat (first | apply Kd.R_alloc | apply Kd.R_drewN | apply Kd.R_drew)); exact HO864.out) hg hat); have n5_ := Aside0.mk (hb); have n6_ := Aside0.mk (ho); clear HO_8; clear HO_9; clear HO_14; clear HO_16; clear HO864; clear HB; clear HO867; have HO_8 := n0_; have HO_9 := n1_; have HO_14 := n2_; have HO_16 := n3_; have HO864 := n4_; have HB := n5_; have HO870 := n6_; clear n0_ n1_ n2_ n3_ n4_ n5_ n6_; clear ho hb hg hat))
                 first | go_roundg k2 | (simp only [add_plain] at *; go_roundg k2)
                 case measure => have := HK1.out; have := HK2.out; omega
                 case rel => exact ⟨(x14_2), (y862), (y868), (wrap64 (x17_2 + 1)), (by first | rfl | (simp; done) | (simp [*]; done)), H', ⟨by have := HK1.out; have := HK2.out; omega⟩, ⟨by (with_reducible repeat (first | apply Kd.Q_alloc | apply Kd.Q_drewN | apply Kd.Q_drew)); exact HO_8.out⟩, ⟨by (with_reducible repeat (first | apply Kd.R_alloc | apply Kd.R_drewN | apply Kd.R_drew)); exact Kd.R_mono HO_9.out (fun _ hk => ⟨hk.1.1, ⟨hk.1.2.2, hk.2⟩⟩)⟩, ⟨by (with_reducible repeat (first | apply Kd.R_alloc | apply Kd.R_drewN | apply Kd.R_drew)); exact Kd.R_mono HO_14.out (fun _ hk => ⟨hk.1.1, ⟨hk.1.2.2, hk.2⟩⟩)⟩, ⟨by (with_reducible repeat (first | apply Kd.R_alloc | apply Kd.R_drewN | apply Kd.R_drew)); exact Kd.R_mono HO864.out (fun _ hk => ⟨hk.1.1, ⟨hk.1.2.1, hk.2⟩⟩)⟩, ⟨by (with_reducible repeat (first | apply Kd.R_alloc | apply Kd.R_drewN | apply Kd.R_drew)); exact Kd.R_mono HO870.out (fun _ hk => ⟨hk.1, ⟨hk.2.1, hk.2.2.2⟩⟩)⟩, ⟨by repeat (first | (with_reducible first | exact HB.out | apply below_alloc | apply pw_below_drewN | apply below_drew1) | exact HB.out)⟩⟩
               ·rw [if_neg c75] at H
                exact absurd H (by simp)
              ·rw [if_neg c74] at H
               exact absurd H (by simp)
             ·rw [if_neg c73] at H
              have c73b0 : ((rd x9_1 x17_2) == 2) = false := beq_eq_false_iff_ne.mpr c73
              have c73b1 : ((rd x9_1 x17_2) != 2) = true := bne_iff_ne.mpr c73
              as_aux_lemma =>
               have H' := Aside0.mk H
               clear H
               obtain ⟨Ao82, co82, eo82⟩ := Kd.R_slice HO_9.out
               subst eo82
               have p847 : 0 ≤ (x17_2 : Int) := of_decide_eq_true (by first | (with_reducible assumption) | assumption)
               have q847 : x17_2 < (x9_1.length : Int) := of_decide_eq_true (by first | (with_reducible assumption) | assumption)
               obtain ⟨ad847, e847, hx847_0⟩ := Kd.at_int (Kd.R_reads' HO_9.out).2.2 x17_2 p847 q847
               cases e847
               replace p847 := eq_true p847
               replace q847 := eq_true q847
               have p861 : 0 ≤ (x17_2 : Int) := of_decide_eq_true (by first | (with_reducible assumption) | assumption)
               have q861 : x17_2 < (x9_1.length : Int) := of_decide_eq_true (by first | (with_reducible assumption) | assumption)
               obtain ⟨ad861, e861, hx861_0⟩ := Kd.at_int (Kd.R_reads' HO_9.out).2.2 x17_2 p861 q861
               obtain rfl : ad847 = ad861 := (by injection e861)
               replace p861 := eq_true p861
               replace q861 := eq_true q861
               go_wp2
               first | go_roundg k2 | (simp only [add_plain] at *; go_roundg k2)
               case measure => have := HK1.out; have := HK2.out; omega
               case rel => exact ⟨(x14_2), (x15_2), (x16_2), (wrap64 (x17_2 + 1)), (by first | rfl | (simp; done) | (simp [*]; done)), H', ⟨by have := HK1.out; have := HK2.out; omega⟩, ⟨by (with_reducible repeat (first | apply Kd.Q_alloc | apply Kd.Q_drewN | apply Kd.Q_drew)); exact HO_8.out⟩, ⟨by (with_reducible repeat (first | apply Kd.R_alloc | apply Kd.R_drewN | apply Kd.R_drew)); exact HO_9.out⟩, ⟨by (with_reducible repeat (first | apply Kd.R_alloc | apply Kd.R_drewN | apply Kd.R_drew)); exact HO_14.out⟩, ⟨by (with_reducible repeat (first | apply Kd.R_alloc | apply Kd.R_drewN | apply Kd.R_drew)); exact HO_15.out⟩, ⟨by (with_reducible repeat (first | apply Kd.R_alloc | apply Kd.R_drewN | apply Kd.R_drew)); exact HO_16.out⟩, ⟨by repeat (first | (with_reducible first | exact HB.out | apply below_alloc | apply pw_below_drewN | apply below_drew1) | exact HB.out)⟩⟩
           ·rw [if_neg c58] at H
            exact absurd H (by simp)
          ·rw [if_neg c57] at H
           have c57b0 : decide (x17_2 < (x9_1.length : Int)) = false := decide_eq_false c57
           clear c57
           replace H := Option.bind_eq_some_iff.mp H
           obtain ⟨⟨t836, t837, t840, t843⟩, A830, H⟩ := H
           replace H : (if t843 = 0 then (if t836.toList = t815.toList then ((foghornref20_Numbers.f k2 t837 x14_2).bind fun t845 => (if t845 = true then ((foghornref20_Numbers.f k2 t840 x15_2).bind fun t846 => (some t846)) else (some false))) else (some false)) else (some false)) = some r := H
           have A83 := Aside0.mk A830
           clear A830
           by_cases c84 : t843 = 0
           ·rw [if_pos c84] at H
            have c84b0 : (t843 == 0) = true := beq_iff_eq.mpr c84
            have c84b1 : (t843 != 0) = false := bne_eq_false_iff_eq.mpr c84
            clear c84
            by_cases c85 : t836.toList = t815.toList
            ·rw [if_pos c85] at H
             have c85b0 : (t836.toList == t815.toList) = true := beq_iff_eq.mpr c85
             have c85b1 : (t836.toList != t815.toList) = false := bne_eq_false_iff_eq.mpr c85
             clear c85
             replace H := Option.bind_eq_some_iff.mp H
             obtain ⟨t845, A860, H⟩ := H
             replace H : (if t845 = true then ((foghornref20_Numbers.f k2 t840 x15_2).bind fun t846 => (some t846)) else (some false)) = some r := H
             have A86 := Aside0.mk A860
             clear A860
             by_cases c87 : t845 = true
             ·subst c87
              have H1 : ((foghornref20_Numbers.f k2 t840 x15_2).bind fun t846 => (some t846)) = some r := by rw [if_pos rfl] at H; exact H
              clear H
              have H := H1
              clear H1
              replace H := Option.bind_eq_some_iff.mp H
              obtain ⟨t846, A880, H⟩ := H
              replace H : (some t846) = some r := H
              have A88 := Aside0.mk A880
              clear A880
              as_aux_lemma =>
               obtain rfl := Option.some.inj H
               obtain ⟨Ao89, co89, eo89⟩ := Kd.R_slice HO_9.out
               subst eo89
               obtain ⟨Ao90, co90, eo90, _⟩ := Kd.Q_slice HO_8.out
               subst eo90
               have hcv91 := Kd.C_string (P := Try.prog) (A := Ao90) (c := co90) Try.underlying29 Try.underlying5 Try.underlying9 (Kd.Q_reads' HO_8.out).2.2
               obtain ⟨Ao92, co92, eo92⟩ := Kd.R_slice HO_16.out
               subst eo92
               go_wp2_with (first | ((with_reducible refine gate_callee (f := 51) rfl ?_); refine goesL_ (some 137) rfl rfl Try.func51 (by kernel_rfl) rfl #[.string (strOfNums x8_1), .int .i64 t816, .slice Ao92 x16_2.length co92] rfl (by (try simp only [List.map_toArray, List.map_cons, List.map_nil]); first | done | rfl | (simp only [List.length_drop, List.length_take]; rfl)) ?_; (with_reducible refine (mend_Mend.calls k2 (strOfNums x8_1) t816 _ _ x16_2 t836 t837 t840 t843 _ ?side1 ?side2 A83.out).mono ?_); (case side1 => repeat (first | exact (Kd.R_reads' HO_16.out).2.2 | (with_reducible refine Kd.C_alloc ?_ _) | (with_reducible refine Kd.C_drewN ?_ _) | (with_reducible refine Kd.C_drew ?_))); (case side2 => exact (Kd.R_reads' HO_16.out).2.1); rintro e w93 ⟨v838, v841, rfl, ho0, ho1, hb⟩; refine ⟨_, rfl, ?_⟩; have n0_ := Aside0.mk (Kd.Q_below (by (with_reducible repeat (first | apply Kd.Q_alloc | apply Kd.Q_drewN | apply Kd.Q_drew)); exact HO_8.out) hb); have n1_ := Aside0.mk (Kd.R_mono (Kd.R_told (Kd.R_told (Kd.R_old (by (with_reducible repeat (first | apply Kd.R_alloc | apply Kd.R_drewN | apply Kd.R_drew)); exact HO_9.out) hb) (Kd.R_base ho0)) (Kd.R_base ho1)) (fun _ h_ => h_.1)); have n2_ := Aside0.mk (Kd.R_mono (Kd.R_told (Kd.R_told (Kd.R_old (by (with_reducible repeat (first | apply Kd.R_alloc | apply Kd.R_drewN | apply Kd.R_drew)); exact HO_14.out) hb) (Kd.R_base ho0)) (Kd.R_base ho1)) (fun _ h_ => h_.1)); have n3_ := Aside0.mk (Kd.R_mono (Kd.R_told (Kd.R_told (Kd.R_old (by (with_reducible repeat (first | apply Kd.R_alloc | apply Kd.R_drewN | apply Kd.R_drew)); exact HO_15.out) hb) (Kd.R_base ho0)) (Kd.R_base ho1)) (fun _ h_ => h_.1)); have n4_ := Aside0.mk (Kd.R_mono (Kd.R_told (Kd.R_told (Kd.R_old (by (with_reducible repeat (first | apply Kd.R_alloc | apply Kd.R_drewN | apply Kd.R_drew)); exact HO_16.out) hb) (Kd.R_base ho0)) (Kd.R_base ho1)) (fun _ h_ => h_.1)); have n5_ := Aside0.mk (Kd.R_lower (Kd.R_new' (Kd.R_new' (Kd.R_new' (Kd.R_new' ho0 (Kd.R_lt (by (with_reducible repeat (first | apply Kd.R_alloc | apply Kd.R_drewN | apply Kd.R_drew)); exact HO_9.out))) (Kd.R_lt (by (with_reducible repeat (first | apply Kd.R_alloc | apply Kd.R_drewN | apply Kd.R_drew)); exact HO_14.out))) (Kd.R_lt (by (with_reducible repeat (first | apply Kd.R_alloc | apply Kd.R_drewN | apply Kd.R_drew)); exact HO_15.out))) (Kd.R_lt (by (with_reducible repeat (first | apply Kd.R_alloc | apply Kd.R_drewN | apply Kd.R_drew)); exact HO_16.out))) (below_size (by repeat (first | (with_reducible first | exact HB.out | apply below_alloc | apply pw_below_drewN | apply below_drew1) | exact HB.out)))); have n6_ := Aside0.mk (Kd.R_lower (Kd.R_new' (Kd.R_new' (Kd.R_new' (Kd.R_new' ho1 (Kd.R_lt (by (with_reducible repeat (first | apply Kd.R_alloc | apply Kd.R_drewN | apply Kd.R_drew)); exact HO_9.out))) (Kd.R_lt (by (with_reducible repeat (first | apply Kd.R_alloc | apply Kd.R_drewN | apply Kd.R_drew)); exact HO_14.out))) (Kd.R_lt (by (with_reducible repeat (first | apply Kd.R_alloc | apply Kd.R_drewN | apply Kd.R_drew)); exact HO_15.out))) (Kd.R_lt (by (with_reducible repeat (first | apply Kd.R_alloc | apply Kd.R_drewN | apply Kd.R_drew)); exact HO_16.out))) (below_size (by repeat (first | (with_reducible first | exact HB.out | apply below_alloc | apply pw_below_drewN | apply below_drew1) | exact HB.out)))); have n7_ := Aside0.mk (below_step (by repeat (first | (with_reducible first | exact HB.out | apply below_alloc | apply pw_below_drewN | apply below_drew1) | exact HB.out)) hb); clear HO_8; clear HO_9; clear HO_14; clear HO_15; clear HO_16; clear HB; have HO_8 := n0_; have HO_9 := n1_; have HO_14 := n2_; have HO_15 := n3_; have HO_16 := n4_; have HO839 := n5_; have HO842 := n6_; have HB := n7_; clear n0_ n1_ n2_ n3_ n4_ n5_ n6_ n7_; (try clear hb); (try clear hb2); (try clear hk); (try clear hi); (try clear ho0); (try clear ho1)) | ((with_reducible refine gate_dst (N := 18) rfl ?_); refine box_event ?hg (N := 18) ?hd (cs := #[.string (⟨#[]⟩ : ByteArray), .slice none 0 0, .slice none 0 0]) (t := 64) ?hr ?_; (case hd => rfl); (case hg => rfl); (case hr => first | (go_simp; done) | (go_simp; rfl)); intro gb844 hg w94 hbox hb; have n0_ := Aside0.mk (Kd.Q_below (by (with_reducible repeat (first | apply Kd.Q_alloc | apply Kd.Q_drewN | apply Kd.Q_drew)); exact HO_8.out) hb); have n1_ := Aside0.mk (Kd.R_below (by (with_reducible repeat (first | apply Kd.R_alloc | apply Kd.R_drewN | apply Kd.R_drew)); exact HO_9.out) hb); have n2_ := Aside0.mk (Kd.R_below (by (with_reducible repeat (first | apply Kd.R_alloc | apply Kd.R_drewN | apply Kd.R_drew)); exact HO_14.out) hb); have n3_ := Aside0.mk (Kd.R_below (by (with_reducible repeat (first | apply Kd.R_alloc | apply Kd.R_drewN | apply Kd.R_drew)); exact HO_15.out) hb); have n4_ := Aside0.mk (Kd.R_below (by (with_reducible repeat (first | apply Kd.R_alloc | apply Kd.R_drewN | apply Kd.R_drew)); exact HO_16.out) hb); have n5_ := Aside0.mk (Kd.R_below (by (with_reducible repeat (first | apply Kd.R_alloc | apply Kd.R_drewN | apply Kd.R_drew)); exact HO839.out) hb); have n6_ := Aside0.mk (Kd.R_below (by (with_reducible repeat (first | apply Kd.R_alloc | apply Kd.R_drewN | apply Kd.R_drew)); exact HO842.out) hb); have n7_ := Aside0.mk (below_step (by repeat (first | (with_reducible first | exact HB.out | apply below_alloc | apply pw_below_drewN | apply below_drew1) | exact HB.out)) hb); have n8_ := Aside0.mk (hbox); have n9_ := Aside0.mk ((by rw [hg]; exact (below_size (by repeat (first | (with_reducible first | exact HB.out | apply below_alloc | apply pw_below_drewN | apply below_drew1) | exact HB.out))) : w.heap.size ≤ gb844)); have n10_ := Aside0.mk ((by rw [hg]; exact (below_size (by repeat (first | (with_reducible first | exact HB.out | apply below_alloc | apply pw_below_drewN | apply below_drew1) | exact HB.out))) : w.heap.size ≤ gb844)); clear HO_8; clear HO_9; clear HO_14; clear HO_15; clear HO_16; clear HO839; clear HO842; clear HB; have HO_8 := n0_; have HO_9 := n1_; have HO_14 := n2_; have HO_15 := n3_; have HO_16 := n4_; have HO839 := n5_; have HO842 := n6_; have HB := n7_; have BK844 := n8_; have GW844 := n9_; have GE844 := n10_; clear n0_ n1_ n2_ n3_ n4_ n5_ n6_ n7_ n8_ n9_ n10_; clear hb hbox hg; have hcz95_0 : w94.cell? ⟨gb844, 0, none⟩ = some (.string (⟨#[]⟩ : ByteArray)) := (blk_cell BK844.out 0).trans rfl; have hcz95_1 : w94.cell? ⟨gb844, 1, none⟩ = some (.slice none 0 0) := (blk_cell BK844.out 1).trans rfl; have hcz95_2 : w94.cell? ⟨gb844, 2, none⟩ = some (.slice none 0 0) := (blk_cell BK844.out 2).trans rfl; have hfz95_0 := blk_frozen BK844.out 0; have hfz95_1 := blk_frozen BK844.out 1; have hfz95_2 := blk_frozen BK844.out 2; obtain ⟨Ao96, co96, eo96⟩ := Kd.R_slice HO839.out; subst eo96; obtain ⟨Ao97, co97, eo97⟩ := Kd.R_slice HO842.out; subst eo97; obtain ⟨Ao98, co98, eo98⟩ := Kd.R_slice HO_14.out; subst eo98) | (go_at_call 52; (with_reducible refine (foghornref20_Numbers.calls k2 _ _ t837 _ _ x14_2 true _ ?side1 ?side2 ?side3 ?side4 A86.out).mono ?_); (case side1 => refine (Kd.R_reads' (e := 3) (base := w.heap.size) (ok := fun k_ => ((((some k_ ≠ (.slice Ao97 t840.length co97 : Value).ownBlock ∧ some k_ ≠ (.slice Ao89 x9_1.length co89 : Value).ownBlock) ∧ some k_ ≠ (.slice Ao98 x14_2.length co98 : Value).ownBlock) ∧ some k_ ≠ (u15 : Value).ownBlock) ∧ some k_ ≠ (.slice Ao92 x16_2.length co92 : Value).ownBlock)) (n := t837.length) (c := co96) ?_).2.2; exact (by (with_reducible repeat (first | apply Kd.R_alloc | apply Kd.R_drewN | apply Kd.R_drew)); exact (Kd.R_mono (Kd.R_far (p := ⟨gb844, 2, none⟩) (Kd.R_far (p := ⟨gb844, 1, none⟩) (Kd.R_far (p := ⟨gb844, 0, none⟩) (Kd.R_types HO839.out BK844.out (by decide)) (fun _ hk => hk.2) (.string t836)) (fun _ hk => hk.2) (.slice Ao96 t837.length co96)) (fun _ hk => hk.2) (.slice Ao97 t840.length co97)) (fun _ h_ => h_.1)))); (case side2 => exact (Kd.R_reads' HO839.out).2.1); (case side3 => refine (Kd.R_reads' (e := 3) (base := w.heap.size) (ok := fun k_ => (((some k_ ≠ (.slice Ao89 x9_1.length co89 : Value).ownBlock ∧ (some k_ ≠ (u15 : Value).ownBlock ∧ some k_ ≠ (.slice Ao92 x16_2.length co92 : Value).ownBlock)) ∧ some k_ ≠ (.slice Ao96 t837.length co96 : Value).ownBlock) ∧ some k_ ≠ (.slice Ao97 t840.length co97 : Value).ownBlock)) (n := x14_2.length) (c := co98) ?_).2.2; exact (by (with_reducible repeat (first | apply Kd.R_alloc | apply Kd.R_drewN | apply Kd.R_drew)); exact (Kd.R_mono (Kd.R_far (p := ⟨gb844, 2, none⟩) (Kd.R_far (p := ⟨gb844, 1, none⟩) (Kd.R_far (p := ⟨gb844, 0, none⟩) (Kd.R_types HO_14.out BK844.out (by decide)) (fun _ hk => hk.2) (.string t836)) (fun _ hk => hk.2) (.slice Ao96 t837.length co96)) (fun _ hk => hk.2) (.slice Ao97 t840.length co97)) (fun _ h_ => h_.1)))); (case side4 => exact (Kd.R_reads' HO_14.out).2.1); rintro e w' ⟨rfl, ⟨nd, rfl⟩⟩; obtain ⟨Ao99, co99, eo99⟩ := Kd.R_slice HO_15.out; subst eo99) | (go_at_call 52; (with_reducible refine (foghornref20_Numbers.calls k2 _ _ t840 _ _ x15_2 t846 _ ?side1 ?side2 ?side3 ?side4 A88.out).mono ?_); (case side1 => refine (Kd.R_reads' (e := 3) (base := w.heap.size) (ok := fun k_ => ((((some k_ ≠ (.slice Ao96 t837.length co96 : Value).ownBlock ∧ some k_ ≠ (.slice Ao89 x9_1.length co89 : Value).ownBlock) ∧ some k_ ≠ (.slice Ao98 x14_2.length co98 : Value).ownBlock) ∧ some k_ ≠ (.slice Ao99 x15_2.length co99 : Value).ownBlock) ∧ some k_ ≠ (.slice Ao92 x16_2.length co92 : Value).ownBlock)) (n := t840.length) (c := co97) ?_).2.2; exact (by (with_reducible repeat (first | apply Kd.R_alloc | apply Kd.R_drewN | apply Kd.R_drew)); exact (Kd.R_mono (Kd.R_far (p := ⟨gb844, 2, none⟩) (Kd.R_far (p := ⟨gb844, 1, none⟩) (Kd.R_far (p := ⟨gb844, 0, none⟩) (Kd.R_types HO842.out BK844.out (by decide)) (fun _ hk => hk.2) (.string t836)) (fun _ hk => hk.2) (.slice Ao96 t837.length co96)) (fun _ hk => hk.2) (.slice Ao97 t840.length co97)) (fun _ h_ => h_.1)))); (case side2 => exact (Kd.R_reads' HO842.out).2.1); (case side3 => refine (Kd.R_reads' (e := 3) (base := w.heap.size) (ok := fun k_ => (((some k_ ≠ (.slice Ao89 x9_1.length co89 : Value).ownBlock ∧ (some k_ ≠ (.slice Ao98 x14_2.length co98 : Value).ownBlock ∧ some k_ ≠ (.slice Ao92 x16_2.length co92 : Value).ownBlock)) ∧ some k_ ≠ (.slice Ao96 t837.length co96 : Value).ownBlock) ∧ some k_ ≠ (.slice Ao97 t840.length co97 : Value).ownBlock)) (n := x15_2.length) (c := co99) ?_).2.2; exact (by (with_reducible repeat (first | apply Kd.R_alloc | apply Kd.R_drewN | apply Kd.R_drew)); exact (Kd.R_mono (Kd.R_far (p := ⟨gb844, 2, none⟩) (Kd.R_far (p := ⟨gb844, 1, none⟩) (Kd.R_far (p := ⟨gb844, 0, none⟩) (Kd.R_types HO_15.out BK844.out (by decide)) (fun _ hk => hk.2) (.string t836)) (fun _ hk => hk.2) (.slice Ao96 t837.length co96)) (fun _ hk => hk.2) (.slice Ao97 t840.length co97)) (fun _ h_ => h_.1)))); (case side4 => exact (Kd.R_reads' HO_15.out).2.1); rintro e w' ⟨rfl, ⟨nd, rfl⟩⟩))
               go_ret
               exact ⟨by first | rfl | (simp [errW_none, errW_some] <;> rfl) | (simp [*, errW_none, errW_some] <;> rfl), by repeat (first | (with_reducible first | exact HB.out | apply below_alloc | apply pw_below_drewN | apply below_drew1 | refine below_set ?_ GE844.out) | exact HB.out)⟩
             ·replace c87 := Bool.eq_false_iff.mpr c87
              subst c87
              have H1 : (some false) = some r := by rw [if_neg (show ¬ (false = true) by decide)] at H; exact H
              clear H
              have H := H1
              clear H1
              as_aux_lemma =>
               exact absurd ((Option.some.inj H).trans HQ_.out) (by decide)
            ·rw [if_neg c85] at H
             have c85b0 : (t836.toList == t815.toList) = false := beq_eq_false_iff_ne.mpr c85
             have c85b1 : (t836.toList != t815.toList) = true := bne_iff_ne.mpr c85
             as_aux_lemma =>
              exact absurd ((Option.some.inj H).trans HQ_.out) (by decide)
           ·rw [if_neg c84] at H
            have c84b0 : (t843 == 0) = false := beq_eq_false_iff_ne.mpr c84
            have c84b1 : (t843 != 0) = true := bne_iff_ne.mpr c84
            as_aux_lemma =>
             exact absurd ((Option.some.inj H).trans HQ_.out) (by decide)
    ·rw [if_neg c9] at H
     exact absurd H (by simp)
   ·rw [if_neg c8] at H
    exact absurd H (by simp)
  ·rw [if_neg c7] at H
   exact absurd H (by simp)
 ·replace c5 := Bool.eq_false_iff.mpr c5
  subst c5
  have H1 : (some false) = some r := by rw [if_neg (show ¬ (false = true) by decide)] at H; exact H
  clear H
  have H := H1
  clear H1
  as_aux_lemma =>
   exact absurd ((Option.some.inj H).trans HQ_.out) (by decide)

theorem foghornlaw20_MendReach.walk (P : foghornlaw20_MendReach.Pure) (a0 : ByteArray) (a1 : Int) (A2 : Option Addr) (c2 : Nat) (l2 : List (S62)) (w : World) (hr2 : Kd.C k62 w A2 l2.length l2) (hc2 : l2.length ≤ c2) (hw0 : a0.size ≤ 140737488351232) (hw1 : (Lit.int .i64 a1).wf = true) (hw2 : l2.length * 16 ≤ 140737488351232 ∧ ∀ x ∈ l2, (fun y_ : S62 => ((Lit.int .i64 y_.f0).wf = true) ∧ (True) ∧ ((Lit.int .u8 y_.f2).wf = true)) x) :
  Calls Try.prog 11 #[.string a0, .int .i64 a1, .slice A2 l2.length c2] w fun e w' => e = .returned (.bool true) ∧ Below w.heap.size w w' := by
 obtain ⟨k, h⟩ := P a0 a1 l2 hw0 hw1 hw2
 refine (foghornlaw20_MendReach.calls k a0 a1 _ _ l2 true w hr2 hc2 h rfl).mono ?_
 rintro e w' ⟨rfl, hd⟩
 exact ⟨rfl, hd⟩

end Go.Proofs.Ytncoakokdajibaa.Q
