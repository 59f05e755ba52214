-- Printed by myprint.py (ours) over the kit's printer, out of the translation.
import Derived.Test.YtmdeldiocaofkaaQ0
import Derived.Test.YtmdeldiocaofkaaFieldRootsF0
import Derived.Test.YtmdeldiocaofkaaFieldRootsQ0
import Derived.Test.YtmdeldiocaofkaaFieldRootsQ1
import Derived.Test.YtmdeldiocaofkaaFieldRootsQ2
import Derived.Test.YtmdeldiocaofkaaFieldRootsQ3
namespace Go.Proofs.Ytmdeldiocaofkaa.Q
open Go.RowKit Go.Proofs.YtmdeldiocaofkaaW.PrintWords Go.Proofs.YtmdeldiocaofkaaW.PrintLast Go.Proofs.YtmdeldiocaofkaaW.PrintMore
attribute [local go_sem] ArrW.ptrOf_slice max2_int min2_int max_two min_two max_three min_three max_four min_four   -- for this text's walks alone
set_option linter.unusedVariables false
set_option linter.unusedSimpArgs false

/-! ### foghornlaw18_FieldRoots: function 12 -/
set_option maxHeartbeats 8000000 in
set_option maxRecDepth 100000 in
theorem foghornlaw18_FieldRoots.calls (k : Nat) (A0 : Option Addr) (c0 : Nat) (l0 : List Int) (A1 : Option Addr) (c1 : Nat) (l1 : List Int) (a2 : Int) (r : Bool) (w : World) (hr0 : Kd.C (Kd.int .u8) w A0 l0.length l0) (hc0 : l0.length ≤ c0) (hr1 : Kd.C (Kd.int .u8) w A1 l1.length l1) (hc1 : l1.length ≤ c1) (h : foghornlaw18_FieldRoots.f k l0 l1 a2 = some r) (hq_ : r = true) :
    Calls Try.prog 12 #[.slice A0 l0.length c0, .slice A1 l1.length c1, .int .u8 a2] w fun e w' => e = .returned (.bool r) ∧ Below w.heap.size w w' := by
  have HQ_ := Aside0.mk hq_
  clear hq_
  have hu45 := Try.underlying45
  have HR0 := Aside0.mk hr0
  have HC0 := Aside0.mk hc0
  clear hr0 hc0
  have HR1 := Aside0.mk hr1
  have HC1 := Aside0.mk hc1
  clear hr1 hc1
  have HB := Aside0.mk (Below.refl w.heap.size w)
  have H : (if 0 ≤ (mn (l0.length : Int) 30) then (if (mn (l0.length : Int) 30) ≤ (l0.length : Int) then ((field_Of.f k (l0.take ((mn (l0.length : Int) 30) : Int).toNat)).bind fun bt682 => ((field_Roots.f k bt682.1).bind fun bt686 => ((field_Slope.f k bt682.1).bind fun bt690 => (if bt682.2 = 0 then (if bt686.2 = 0 then (if bt690.2 = 0 then ((foghornlaw18_degree.f bt682.1).bind fun t694 => (if t694 = ((l0.take ((mn (l0.length : Int) 30) : Int).toNat).length : Int) then (foghornlaw18_FieldRoots.j0 k l1 a2 (l0.take ((mn (l0.length : Int) 30) : Int).toNat) bt686.1 bt690.1 (decide ((bt686.1.length : Int) > ((l0.take ((mn (l0.length : Int) 30) : Int).toNat).length : Int)))) else (foghornlaw18_FieldRoots.j0 k l1 a2 (l0.take ((mn (l0.length : Int) 30) : Int).toNat) bt686.1 bt690.1 true))) else (foghornlaw18_FieldRoots.j0 k l1 a2 (l0.take ((mn (l0.length : Int) 30) : Int).toNat) bt686.1 bt690.1 true)) else (foghornlaw18_FieldRoots.j0 k l1 a2 (l0.take ((mn (l0.length : Int) 30) : Int).toNat) bt686.1 bt690.1 true)) else (foghornlaw18_FieldRoots.j0 k l1 a2 (l0.take ((mn (l0.length : Int) 30) : Int).toNat) bt686.1 bt690.1 true))))) else (none)) else (none)) = some r := h
  clear h
  obtain ⟨ji4, hji4⟩ : ∃ j_ : Int, (mn (l0.length : Int) 30) = j_ := ⟨_, rfl⟩
  replace H : (if 0 ≤ (ji4) then (if (ji4) ≤ (l0.length : Int) then ((field_Of.f k (l0.take ((ji4) : Int).toNat)).bind fun bt682 => ((field_Roots.f k bt682.1).bind fun bt686 => ((field_Slope.f k bt682.1).bind fun bt690 => (if bt682.2 = 0 then (if bt686.2 = 0 then (if bt690.2 = 0 then ((foghornlaw18_degree.f bt682.1).bind fun t694 => (if t694 = ((l0.take ((ji4) : Int).toNat).length : Int) then (foghornlaw18_FieldRoots.j0 k l1 a2 (l0.take ((ji4) : Int).toNat) bt686.1 bt690.1 (decide ((bt686.1.length : Int) > ((l0.take ((ji4) : Int).toNat).length : Int)))) else (foghornlaw18_FieldRoots.j0 k l1 a2 (l0.take ((ji4) : Int).toNat) bt686.1 bt690.1 true))) else (foghornlaw18_FieldRoots.j0 k l1 a2 (l0.take ((ji4) : Int).toNat) bt686.1 bt690.1 true)) else (foghornlaw18_FieldRoots.j0 k l1 a2 (l0.take ((ji4) : Int).toNat) bt686.1 bt690.1 true)) else (foghornlaw18_FieldRoots.j0 k l1 a2 (l0.take ((ji4) : Int).toNat) bt686.1 bt690.1 true))))) else (none)) else (none)) = some r := by first | (rw [hji4] at H; exact H) | (simp only [hji4] at H ⊢; exact H)
  (try (have hji4h : ji4 ≤ 30 := by (rw [← hji4]; unfold mn; (repeat' split) <;> omega)))
  (try (have hji4g : ji4 ≤ 64 := by omega))
  (try (have hji4l : 0 ≤ ji4 := by (rw [← hji4]; unfold mn; (repeat' split) <;> omega)))
  (try (have hji4m : 0 ≤ ji4 := by omega))
  have hji4_ : (if 30 < (l0.length : Int) then 30 else (l0.length : Int)) = ji4 := hji4
  by_cases c5 : 0 ≤ (ji4)
  · rw [if_pos c5] at H
    have c5b0 := eq_true c5
    have c5b1 : decide (0 ≤ (ji4)) = true := decide_eq_true c5
    clear c5
    by_cases c6 : (ji4) ≤ (l0.length : Int)
    · rw [if_pos c6] at H
      have c6b0 := eq_true c6
      have c6b1 : decide ((ji4) ≤ (l0.length : Int)) = true := decide_eq_true c6
      clear c6
      replace H := Option.bind_eq_some_iff.mp H
      obtain ⟨⟨t682, t683⟩, A70, H⟩ := H
      replace H : ((field_Roots.f k t682).bind fun bt686 => ((field_Slope.f k t682).bind fun bt690 => (if t683 = 0 then (if bt686.2 = 0 then (if bt690.2 = 0 then ((foghornlaw18_degree.f t682).bind fun t694 => (if t694 = ((l0.take ((ji4) : Int).toNat).length : Int) then (foghornlaw18_FieldRoots.j0 k l1 a2 (l0.take ((ji4) : Int).toNat) bt686.1 bt690.1 (decide ((bt686.1.length : Int) > ((l0.take ((ji4) : Int).toNat).length : Int)))) else (foghornlaw18_FieldRoots.j0 k l1 a2 (l0.take ((ji4) : Int).toNat) bt686.1 bt690.1 true))) else (foghornlaw18_FieldRoots.j0 k l1 a2 (l0.take ((ji4) : Int).toNat) bt686.1 bt690.1 true)) else (foghornlaw18_FieldRoots.j0 k l1 a2 (l0.take ((ji4) : Int).toNat) bt686.1 bt690.1 true)) else (foghornlaw18_FieldRoots.j0 k l1 a2 (l0.take ((ji4) : Int).toNat) bt686.1 bt690.1 true)))) = some r := H
      have A7 := Aside0.mk A70
      clear A70
      replace H := Option.bind_eq_some_iff.mp H
      obtain ⟨⟨t686, t689⟩, A80, H⟩ := H
      replace H : ((field_Slope.f k t682).bind fun bt690 => (if t683 = 0 then (if t689 = 0 then (if bt690.2 = 0 then ((foghornlaw18_degree.f t682).bind fun t694 => (if t694 = ((l0.take ((ji4) : Int).toNat).length : Int) then (foghornlaw18_FieldRoots.j0 k l1 a2 (l0.take ((ji4) : Int).toNat) t686 bt690.1 (decide ((t686.length : Int) > ((l0.take ((ji4) : Int).toNat).length : Int)))) else (foghornlaw18_FieldRoots.j0 k l1 a2 (l0.take ((ji4) : Int).toNat) t686 bt690.1 true))) else (foghornlaw18_FieldRoots.j0 k l1 a2 (l0.take ((ji4) : Int).toNat) t686 bt690.1 true)) else (foghornlaw18_FieldRoots.j0 k l1 a2 (l0.take ((ji4) : Int).toNat) t686 bt690.1 true)) else (foghornlaw18_FieldRoots.j0 k l1 a2 (l0.take ((ji4) : Int).toNat) t686 bt690.1 true))) = some r := H
      have A8 := Aside0.mk A80
      clear A80
      replace H := Option.bind_eq_some_iff.mp H
      obtain ⟨⟨t690, t693⟩, A90, H⟩ := H
      replace H : (if t683 = 0 then (if t689 = 0 then (if t693 = 0 then ((foghornlaw18_degree.f t682).bind fun t694 => (if t694 = ((l0.take ((ji4) : Int).toNat).length : Int) then (foghornlaw18_FieldRoots.j0 k l1 a2 (l0.take ((ji4) : Int).toNat) t686 t690 (decide ((t686.length : Int) > ((l0.take ((ji4) : Int).toNat).length : Int)))) else (foghornlaw18_FieldRoots.j0 k l1 a2 (l0.take ((ji4) : Int).toNat) t686 t690 true))) else (foghornlaw18_FieldRoots.j0 k l1 a2 (l0.take ((ji4) : Int).toNat) t686 t690 true)) else (foghornlaw18_FieldRoots.j0 k l1 a2 (l0.take ((ji4) : Int).toNat) t686 t690 true)) else (foghornlaw18_FieldRoots.j0 k l1 a2 (l0.take ((ji4) : Int).toNat) t686 t690 true)) = some r := H
      have A9 := Aside0.mk A90
      clear A90
      have HC10 := Aside0.mk H
      clear H
      obtain ⟨i011, hi011, _, hsz11, _⟩ := info_parts info5
      obtain ⟨hcut11, hA11, hC11⟩ := print_take_of (P := Try.prog) (Value.int .u8) 0 22 5 .i64 Try.underlying22 hi011 hsz11 A0 c0 l0 (ji4) (of_decide_eq_true (by first | (with_reducible assumption) | assumption)) (of_decide_eq_true (by first | (with_reducible assumption) | assumption)) HC0.out
      have HR681 := Aside0.mk (Kd.C_of_reads (h1 := fun _ => rfl) (hA11 _ (Kd.reads_of_C HR0.out)))
      have HC681 := Aside0.mk hC11
      clear hA11 hC11 hi011 hsz11
      go_enter Try.func12, Try.ntmps12
      go_upto_region 5 with (first | ((with_reducible refine gate_callee (f := 57) rfl ?_); refine goesL_ (some 39) rfl rfl Try.func57 (by kernel_rfl) rfl #[.slice A0 (l0.take ((ji4) : Int).toNat).length c0] rfl (by (try simp only [List.map_toArray, List.map_cons, List.map_nil]); first | done | (rw [show (l0.take ((ji4) : Int).toNat).length = (ji4).toNat from (by rw [List.length_take]; have h_ : ((ji4) : Int) ≤ (l0.length : Int) := (by first | exact of_decide_eq_true (by first | (with_reducible assumption) | assumption) | (rw [← hji4]; unfold mn; split <;> omega)); omega)] <;> rfl) | (simp only [hji4]; rfl) | rfl | (simp only [List.length_drop, List.length_take]; rfl)) ?_; (with_reducible refine (field_Of.calls k _ _ (l0.take ((ji4) : Int).toNat) t682 t683 _ ?side1 ?side2 A7.out).mono ?_); (case side1 => repeat (first | exact HR681.out | (with_reducible refine Kd.C_alloc ?_ _) | (with_reducible refine Kd.C_drewN ?_ _) | (with_reducible refine Kd.C_drew ?_))); (case side2 => exact HC681.out); rintro e w12 ⟨v684, rfl, ho0, hb⟩; refine ⟨_, rfl, ?_⟩; have n0_ := Aside0.mk (Kd.R_lower ho0 (below_size (by repeat (first | (with_reducible first | exact HB.out | apply below_alloc | apply pw_below_drewN | apply below_drew1) | exact HB.out)))); have n1_ := Aside0.mk (below_step (by repeat (first | (with_reducible first | exact HB.out | apply below_alloc | apply pw_below_drewN | apply below_drew1) | exact HB.out)) hb); clear HB; have HO685 := n0_; have HB := n1_; clear n0_ n1_; (try clear hb); (try clear hb2); (try clear hk); (try clear hi); (try clear ho0); obtain ⟨Ao13, co13, eo13⟩ := Kd.R_slice HO685.out; subst eo13) | ((with_reducible refine gate_callee (f := 58) rfl ?_); refine goesL_ (some 44) rfl rfl Try.func58 (by kernel_rfl) rfl #[.slice Ao13 t682.length co13] rfl (by (try simp only [List.map_toArray, List.map_cons, List.map_nil]); first | done | rfl | (simp only [List.length_drop, List.length_take]; rfl)) ?_; (with_reducible refine (field_Roots.calls k (fun k_ => some k_ = (.slice Ao13 t682.length co13 : Value).ownBlock) _ _ t682 t686 t689 _ ?side1 A8.out).mono ?_); (case side1 => exact Kd.R_V (Kd.R_tight rfl (HO685.out))); rintro e w14 ⟨v687, rfl, ho0, hb⟩; refine ⟨_, rfl, ?_⟩; have n0_ := Aside0.mk (Kd.R_elder' (by (with_reducible repeat (first | apply Kd.R_alloc | apply Kd.R_drewN | apply Kd.R_drew)); exact HO685.out) (Kd.R_base ho0) hb); have n1_ := Aside0.mk (Kd.R_lower (Kd.R_new' (Kd.R_mono (ok' := fun k_ => True) ho0 (fun _ hk_ => trivial)) (Kd.R_lt (by (with_reducible repeat (first | apply Kd.R_alloc | apply Kd.R_drewN | apply Kd.R_drew)); exact HO685.out))) (below_size (by repeat (first | (with_reducible first | exact HB.out | apply below_alloc | apply pw_below_drewN | apply below_drew1) | exact HB.out)))); have n2_ := Aside0.mk (below_step (by repeat (first | (with_reducible first | exact HB.out | apply below_alloc | apply pw_below_drewN | apply below_drew1) | exact HB.out)) hb); clear HO685; clear HB; have HO685 := n0_; have HO688 := n1_; have HB := n2_; clear n0_ n1_ n2_; (try clear hb); (try clear hb2); (try clear hk); (try clear hi); (try clear ho0)) | ((with_reducible refine gate_callee (f := 59) rfl ?_); refine goesL_ (some 49) rfl rfl Try.func59 (by kernel_rfl) rfl #[.slice Ao13 t682.length co13] rfl (by (try simp only [List.map_toArray, List.map_cons, List.map_nil]); first | done | rfl | (simp only [List.length_drop, List.length_take]; rfl)) ?_; (with_reducible refine (field_Slope.calls k (fun k_ => some k_ = (.slice Ao13 t682.length co13 : Value).ownBlock) _ _ t682 t690 t693 _ ?side1 A9.out).mono ?_); (case side1 => exact Kd.R_V (Kd.R_tight rfl (HO685.out))); rintro e w15 ⟨v691, rfl, ho0, hb⟩; refine ⟨_, rfl, ?_⟩; have n0_ := Aside0.mk (Kd.R_elder' (by (with_reducible repeat (first | apply Kd.R_alloc | apply Kd.R_drewN | apply Kd.R_drew)); exact HO685.out) (Kd.R_base ho0) hb); have n1_ := Aside0.mk (Kd.R_elder' (by (with_reducible repeat (first | apply Kd.R_alloc | apply Kd.R_drewN | apply Kd.R_drew)); exact HO688.out) (Kd.R_base ho0) hb); have n2_ := Aside0.mk (Kd.R_lower (Kd.R_new' (Kd.R_new' (Kd.R_mono (ok' := fun k_ => True) ho0 (fun _ hk_ => trivial)) (Kd.R_lt (by (with_reducible repeat (first | apply Kd.R_alloc | apply Kd.R_drewN | apply Kd.R_drew)); exact HO685.out))) (Kd.R_lt (by (with_reducible repeat (first | apply Kd.R_alloc | apply Kd.R_drewN | apply Kd.R_drew)); exact HO688.out))) (below_size (by repeat (first | (with_reducible first | exact HB.out | apply below_alloc | apply pw_below_drewN | apply below_drew1) | exact HB.out)))); have n3_ := Aside0.mk (below_step (by repeat (first | (with_reducible first | exact HB.out | apply below_alloc | apply pw_below_drewN | apply below_drew1) | exact HB.out)) hb); clear HO685; clear HO688; clear HB; have HO685 := n0_; have HO688 := n1_; have HO692 := n2_; have HB := n3_; clear n0_ n1_ n2_ n3_; (try clear hb); (try clear hb2); (try clear hk); (try clear hi); (try clear ho0)))
      (try simp only [Act.put, List.setIfInBounds_toArray, List.set_cons_zero, List.set_cons_succ])
      go_cut [75] (fun v75 wc => ∃ (kq : Nat) (x75_9 : Bool), v75 = .bool x75_9 ∧ Aside0 (foghornlaw18_FieldRoots.j0 kq l1 a2 (l0.take ((ji4) : Int).toNat) t686 t690 x75_9 = some r) ∧ Aside0 (kq ≤ k) ∧ Aside0 (Kd.R (Kd.int .u8) 5 wc w.heap.size (fun k_ => some k_ ≠ (v691 : Value).ownBlock) v687 t686) ∧ Aside0 (Kd.R (Kd.int .u8) 5 wc w.heap.size (fun k_ => some k_ ≠ (v687 : Value).ownBlock) v691 t690) ∧ Aside0 (Below w.heap.size w wc))
      case first =>
        have H := HC10.out
        clear HC10
        by_cases c16 : t683 = 0
        · rw [if_pos c16] at H
          have c16b0 : (t683 == 0) = true := beq_iff_eq.mpr c16
          have c16b1 : (t683 != 0) = false := bne_eq_false_iff_eq.mpr c16
          clear c16
          (first | rw [c16b0] | (simp only [i64_w, i32_w]; rw [c16b0]) | skip)
          by_cases c17 : t689 = 0
          · rw [if_pos c17] at H
            have c17b0 : (t689 == 0) = true := beq_iff_eq.mpr c17
            have c17b1 : (t689 != 0) = false := bne_eq_false_iff_eq.mpr c17
            clear c17
            by_cases c18 : t693 = 0
            · rw [if_pos c18] at H
              have c18b0 : (t693 == 0) = true := beq_iff_eq.mpr c18
              have c18b1 : (t693 != 0) = false := bne_eq_false_iff_eq.mpr c18
              clear c18
              replace H := Option.bind_eq_some_iff.mp H
              obtain ⟨t694, A190, H⟩ := H
              replace H : (if t694 = ((l0.take ((ji4) : Int).toNat).length : Int) then (foghornlaw18_FieldRoots.j0 k l1 a2 (l0.take ((ji4) : Int).toNat) t686 t690 (decide ((t686.length : Int) > ((l0.take ((ji4) : Int).toNat).length : Int)))) else (foghornlaw18_FieldRoots.j0 k l1 a2 (l0.take ((ji4) : Int).toNat) t686 t690 true)) = some r := H
              have A19 := Aside0.mk A190
              clear A190
              by_cases c20 : t694 = ((l0.take ((ji4) : Int).toNat).length : Int)
              · rw [if_pos c20] at H
                have c20b0 : (t694 == ((l0.take ((ji4) : Int).toNat).length : Int)) = true := beq_iff_eq.mpr c20
                have c20b1 : (t694 != ((l0.take ((ji4) : Int).toNat).length : Int)) = false := bne_eq_false_iff_eq.mpr c20
                (try (have c20b0z := c20b0; (try rw [show (l0.take ((ji4) : Int).toNat).length = (ji4).toNat from (by rw [List.length_take]; have h_ : ((ji4) : Int) ≤ (l0.length : Int) := (by first | exact of_decide_eq_true (by first | (with_reducible assumption) | assumption) | (rw [← hji4]; unfold mn; split <;> omega)); omega)] at c20b0z)))
                (try (have c20b0w := c20b0z; rw [Int.ofNat_toNat] at c20b0w))
                (try (have c20b1z := c20b1; (try rw [show (l0.take ((ji4) : Int).toNat).length = (ji4).toNat from (by rw [List.length_take]; have h_ : ((ji4) : Int) ≤ (l0.length : Int) := (by first | exact of_decide_eq_true (by first | (with_reducible assumption) | assumption) | (rw [← hji4]; unfold mn; split <;> omega)); omega)] at c20b1z)))
                (try (have c20b1w := c20b1z; rw [Int.ofNat_toNat] at c20b1w))
                clear c20
                as_aux_lemma =>
                  have H' := Aside0.mk H
                  clear H
                  go_wp2_with (first | (go_at_call 52; (with_reducible refine (foghornlaw18_degree.calls _ _ t682 t694 _ ?side1 ?side2 A19.out).mono ?_); (case side1 => repeat (first | exact (Kd.R_reads' HO685.out).2.2 | (with_reducible refine Kd.C_alloc ?_ _) | (with_reducible refine Kd.C_drewN ?_ _) | (with_reducible refine Kd.C_drew ?_))); (case side2 => exact (Kd.R_reads' HO685.out).2.1); rintro e w' ⟨rfl, ⟨nd, rfl⟩⟩; obtain ⟨Ao21, co21, eo21⟩ := Kd.R_slice HO688.out; subst eo21))
                  go_meet
                  case rel => exact ⟨_, (decide ((t686.length : Int) > ((l0.take ((ji4) : Int).toNat).length : Int))), (by first | rfl | (rw [show (l0.take ((ji4) : Int).toNat).length = (ji4).toNat from (by rw [List.length_take]; have h_ : ((ji4) : Int) ≤ (l0.length : Int) := (by first | exact of_decide_eq_true (by first | (with_reducible assumption) | assumption) | (rw [← hji4]; unfold mn; split <;> omega)); omega)]; first | rfl | (simp; done)) | (simp; done) | (simp only [← hji4] <;> (first | rfl | simp)) | (simp [*]; done)), H', ⟨by first | omega | exact Nat.le_refl _⟩, ⟨by (with_reducible repeat (first | apply Kd.R_alloc | apply Kd.R_drewN | apply Kd.R_drew)); exact Kd.R_mono HO688.out (fun _ hk => hk.2)⟩, ⟨by (with_reducible repeat (first | apply Kd.R_alloc | apply Kd.R_drewN | apply Kd.R_drew)); exact Kd.R_mono HO692.out (fun _ hk => hk.2)⟩, ⟨by repeat (first | (with_reducible first | exact HB.out | apply below_alloc | apply pw_below_drewN | apply below_drew1) | exact HB.out)⟩⟩
              · rw [if_neg c20] at H
                have c20b0 : (t694 == ((l0.take ((ji4) : Int).toNat).length : Int)) = false := beq_eq_false_iff_ne.mpr c20
                have c20b1 : (t694 != ((l0.take ((ji4) : Int).toNat).length : Int)) = true := bne_iff_ne.mpr c20
                (try (have c20b0z := c20b0; (try rw [show (l0.take ((ji4) : Int).toNat).length = (ji4).toNat from (by rw [List.length_take]; have h_ : ((ji4) : Int) ≤ (l0.length : Int) := (by first | exact of_decide_eq_true (by first | (with_reducible assumption) | assumption) | (rw [← hji4]; unfold mn; split <;> omega)); omega)] at c20b0z)))
                (try (have c20b0w := c20b0z; rw [Int.ofNat_toNat] at c20b0w))
                (try (have c20b1z := c20b1; (try rw [show (l0.take ((ji4) : Int).toNat).length = (ji4).toNat from (by rw [List.length_take]; have h_ : ((ji4) : Int) ≤ (l0.length : Int) := (by first | exact of_decide_eq_true (by first | (with_reducible assumption) | assumption) | (rw [← hji4]; unfold mn; split <;> omega)); omega)] at c20b1z)))
                (try (have c20b1w := c20b1z; rw [Int.ofNat_toNat] at c20b1w))
                as_aux_lemma =>
                  have H' := Aside0.mk H
                  clear H
                  go_wp2_with (first | (go_at_call 52; (with_reducible refine (foghornlaw18_degree.calls _ _ t682 t694 _ ?side1 ?side2 A19.out).mono ?_); (case side1 => repeat (first | exact (Kd.R_reads' HO685.out).2.2 | (with_reducible refine Kd.C_alloc ?_ _) | (with_reducible refine Kd.C_drewN ?_ _) | (with_reducible refine Kd.C_drew ?_))); (case side2 => exact (Kd.R_reads' HO685.out).2.1); rintro e w' ⟨rfl, ⟨nd, rfl⟩⟩))
                  go_meet
                  case rel => exact ⟨_, (true), (by first | rfl | (simp; done) | (simp [*]; done)), H', ⟨by first | omega | exact Nat.le_refl _⟩, ⟨by (with_reducible repeat (first | apply Kd.R_alloc | apply Kd.R_drewN | apply Kd.R_drew)); exact Kd.R_mono HO688.out (fun _ hk => hk.2)⟩, ⟨by (with_reducible repeat (first | apply Kd.R_alloc | apply Kd.R_drewN | apply Kd.R_drew)); exact Kd.R_mono HO692.out (fun _ hk => hk.2)⟩, ⟨by repeat (first | (with_reducible first | exact HB.out | apply below_alloc | apply pw_below_drewN | apply below_drew1) | exact HB.out)⟩⟩
            · rw [if_neg c18] at H
              have c18b0 : (t693 == 0) = false := beq_eq_false_iff_ne.mpr c18
              have c18b1 : (t693 != 0) = true := bne_iff_ne.mpr c18
              as_aux_lemma =>
                have H' := Aside0.mk H
                clear H
                go_wp2
                go_meet
                case rel => exact ⟨_, (true), (by first | rfl | (simp; done) | (simp [*]; done)), H', ⟨by first | omega | exact Nat.le_refl _⟩, ⟨by (with_reducible repeat (first | apply Kd.R_alloc | apply Kd.R_drewN | apply Kd.R_drew)); exact Kd.R_mono HO688.out (fun _ hk => hk.2)⟩, ⟨by (with_reducible repeat (first | apply Kd.R_alloc | apply Kd.R_drewN | apply Kd.R_drew)); exact Kd.R_mono HO692.out (fun _ hk => hk.2)⟩, ⟨by repeat (first | (with_reducible first | exact HB.out | apply below_alloc | apply pw_below_drewN | apply below_drew1) | exact HB.out)⟩⟩
          · rw [if_neg c17] at H
            have c17b0 : (t689 == 0) = false := beq_eq_false_iff_ne.mpr c17
            have c17b1 : (t689 != 0) = true := bne_iff_ne.mpr c17
            as_aux_lemma =>
              have H' := Aside0.mk H
              clear H
              go_wp2
              go_meet
              case rel => exact ⟨_, (true), (by first | rfl | (simp; done) | (simp [*]; done)), H', ⟨by first | omega | exact Nat.le_refl _⟩, ⟨by (with_reducible repeat (first | apply Kd.R_alloc | apply Kd.R_drewN | apply Kd.R_drew)); exact Kd.R_mono HO688.out (fun _ hk => hk.2)⟩, ⟨by (with_reducible repeat (first | apply Kd.R_alloc | apply Kd.R_drewN | apply Kd.R_drew)); exact Kd.R_mono HO692.out (fun _ hk => hk.2)⟩, ⟨by repeat (first | (with_reducible first | exact HB.out | apply below_alloc | apply pw_below_drewN | apply below_drew1) | exact HB.out)⟩⟩
        · rw [if_neg c16] at H
          have c16b0 : (t683 == 0) = false := beq_eq_false_iff_ne.mpr c16
          have c16b1 : (t683 != 0) = true := bne_iff_ne.mpr c16
          (first | rw [c16b0] | (simp only [i64_w, i32_w]; rw [c16b0]) | skip)
          as_aux_lemma =>
            have H' := Aside0.mk H
            clear H
            go_wp2
            go_meet
            case rel => exact ⟨_, (true), (by first | rfl | (simp; done) | (simp [*]; done)), H', ⟨by first | omega | exact Nat.le_refl _⟩, ⟨by (with_reducible repeat (first | apply Kd.R_alloc | apply Kd.R_drewN | apply Kd.R_drew)); exact Kd.R_mono HO688.out (fun _ hk => hk.2)⟩, ⟨by (with_reducible repeat (first | apply Kd.R_alloc | apply Kd.R_drewN | apply Kd.R_drew)); exact Kd.R_mono HO692.out (fun _ hk => hk.2)⟩, ⟨by repeat (first | (with_reducible first | exact HB.out | apply below_alloc | apply pw_below_drewN | apply below_drew1) | exact HB.out)⟩⟩
      case rest =>
        clear HC10
        try clear c1
        try clear c2
        try clear p2
        try clear c5
        try clear c5b0
        try clear c5b1
        try clear c6
        try clear c6b0
        try clear c6b1
        try clear c12
        try clear c16
        try clear c16b0
        try clear c16b1
        try clear c17
        try clear c17b0
        try clear c17b1
        try clear c18
        try clear c18b0
        try clear c18b1
        try clear c20
        try clear c20b0
        try clear c20b1
        obtain ⟨kq, x75_9, rfl, HA, HJ9, HO_10, HO_12, HB⟩ := hcut
        cases kq with
        | zero => exact absurd HA.out (by simp [foghornlaw18_FieldRoots.j0])
        | succ kj9 =>
          have H := HA.out
          clear HA
          simp only [foghornlaw18_FieldRoots.j0] at H
          by_cases c22 : x75_9 = true
          · subst c22
            have H1 : (some false) = some r := by rw [if_pos rfl] at H; exact H
            clear H
            have H := H1
            clear H1
            as_aux_lemma =>
              exact absurd ((Option.some.inj H).trans HQ_.out) (by decide)
          · replace c22 := Bool.eq_false_iff.mpr c22
            subst c22
            have H1 : (foghornlaw18_FieldRoots.l0 kj9 l1 a2 (l0.take ((ji4) : Int).toNat) t686 t690 (List.replicate 256 0) 0) = some r := by rw [if_neg (show ¬ (false = true) by decide)] at H; exact H
            clear H
            have H := H1
            clear H1
            obtain ⟨y695, hy695⟩ : ∃ y_ : List Int, y_ = (List.replicate 256 0) := ⟨_, rfl⟩
            replace H : (foghornlaw18_FieldRoots.l0 kj9 l1 a2 (l0.take ((ji4) : Int).toNat) t686 t690 y695 0) = some r := by first | (rw [hy695]; with_reducible exact H) | (have H2_ := (Option.bind_some _ _).symm.trans H; rw [hy695]; with_reducible exact H2_) | (have H2_ := (Option.bind_some _ _).symm.trans H; with_reducible exact H2_) | with_reducible exact H | (rw [hy695]; exact H) | exact H
            have Ny695 := Aside0.mk hy695
            clear hy695
            have H' := Aside0.mk H
            clear H
            go_wp2_with (first | ((with_reducible refine gate_dst (N := 14) rfl ?_); (try (refine gate_guard (by rfl) ?_; dsimp only)); refine ArrW.R_arr (Kd.int .i64) _ 71 256 rfl (N := 14) rfl rfl (z0 := 0) (u := .int .i64 0) (ok := fun _ => True) (okp := fun _ => True) arrz71 rfl rfl (fun _ hk => hk) trivial (Below.refl _ _) (Nat.le_refl _) (by decide) ?_; intro v696 w23 ho24 hb hg_ hnew_; clear hg_ hnew_; (first | rw [← Ny695.out] at ho24 | (simp only [Int.reduceToNat] at ho24; rw [← Ny695.out] at ho24)); have n0_ := Aside0.mk (Kd.R_below (by (with_reducible repeat (first | apply Kd.R_alloc | apply Kd.R_drewN | apply Kd.R_drew)); exact HO_10.out) hb); have n1_ := Aside0.mk (Kd.R_below (by (with_reducible repeat (first | apply Kd.R_alloc | apply Kd.R_drewN | apply Kd.R_drew)); exact HO_12.out) hb); have n2_ := Aside0.mk (Kd.R_lower ho24 (below_size (by repeat (first | (with_reducible first | exact HB.out | apply below_alloc | apply pw_below_drewN | apply below_drew1) | exact HB.out)))); have n3_ := Aside0.mk (below_step (by repeat (first | (with_reducible first | exact HB.out | apply below_alloc | apply pw_below_drewN | apply below_drew1) | exact HB.out)) hb); clear HO_10; clear HO_12; clear HB; have HO_10 := n0_; have HO_12 := n1_; have HO697 := n2_; have HB := n3_; clear n0_ n1_ n2_ n3_; clear hb ho24))
            go_loopg [15] kj9 (fun kq v15 w' => ∃ (x14_2 : List Int) (x15_2 : Int), v15 = .int .i64 x15_2 ∧ Aside0 (foghornlaw18_FieldRoots.l0 kq l1 a2 (l0.take ((ji4) : Int).toNat) t686 t690 x14_2 x15_2 = some r) ∧ Aside0 (kq ≤ kj9) ∧ Aside0 (Kd.R (Kd.int .u8) 5 w' w.heap.size (fun k_ => some k_ ≠ (v691 : Value).ownBlock) v687 t686) ∧ Aside0 (Kd.R (Kd.int .u8) 5 w' w.heap.size (fun k_ => some k_ ≠ (v687 : Value).ownBlock) v691 t690) ∧ Aside0 (Kd.R (Kd.int .i64) 71 w' w.heap.size (fun _ => True) v696 x14_2) ∧ Aside0 (Below w.heap.size w w'))
            case atStart => exact ⟨(y695), (0), (by first | rfl | (simp; done) | (simp [*]; done)), H', ⟨Nat.le_refl _⟩, ⟨by (with_reducible repeat (first | apply Kd.R_alloc | apply Kd.R_drewN | apply Kd.R_drew)); exact HO_10.out⟩, ⟨by (with_reducible repeat (first | apply Kd.R_alloc | apply Kd.R_drewN | apply Kd.R_drew)); exact HO_12.out⟩, ⟨by (with_reducible repeat (first | apply Kd.R_alloc | apply Kd.R_drewN | apply Kd.R_drew)); exact HO697.out⟩, ⟨by repeat (first | (with_reducible first | exact HB.out | apply below_alloc | apply pw_below_drewN | apply below_drew1) | exact HB.out)⟩⟩
            case round =>
              clear H'
              try clear c1
              try clear c2
              try clear p2
              try clear c5
              try clear c5b0
              try clear c5b1
              try clear c6
              try clear c6b0
              try clear c6b1
              try clear c12
              try clear c16
              try clear c16b0
              try clear c16b1
              try clear c17
              try clear c17b0
              try clear c17b1
              try clear c18
              try clear c18b0
              try clear c18b1
              try clear c20
              try clear c20b0
              try clear c20b1
              try clear c22
              try clear p2
              obtain ⟨x14_2, x15_2, rfl, HA, HK2, HO_10, HO_12, HO_14, HB⟩ := hrel
              cases gk with
              | zero => exact absurd HA.out (by simp [foghornlaw18_FieldRoots.l0])
              | succ k2 =>
                have H := HA.out
                clear HA
                simp only [foghornlaw18_FieldRoots.l0] at H
                by_cases c25 : x15_2 < ((l0.take ((ji4) : Int).toNat).length : Int)
                · rw [if_pos c25] at H
                  have c25b0 : decide (x15_2 < ((l0.take ((ji4) : Int).toNat).length : Int)) = true := decide_eq_true c25
                  (try (have c25b0z := c25b0; (try rw [show (l0.take ((ji4) : Int).toNat).length = (ji4).toNat from (by rw [List.length_take]; have h_ : ((ji4) : Int) ≤ (l0.length : Int) := (by first | exact of_decide_eq_true (by first | (with_reducible assumption) | assumption) | (rw [← hji4]; unfold mn; split <;> omega)); omega)] at c25b0z)))
                  (try (have c25b0w := c25b0z; rw [Int.ofNat_toNat] at c25b0w))
                  clear c25
                  by_cases c26 : 0 ≤ x15_2
                  · rw [if_pos c26] at H
                    have c26b0 : decide (0 ≤ x15_2) = true := decide_eq_true c26
                    have c26e0 := eq_true c26
                    clear c26
                    by_cases c27 : 0 ≤ (rd (l0.take ((ji4) : Int).toNat) x15_2)
                    · rw [if_pos c27] at H
                      have c27b0 : decide (0 ≤ (rd (l0.take ((ji4) : Int).toNat) x15_2)) = true := decide_eq_true c27
                      have c27e0 := eq_true c27
                      clear c27
                      by_cases c28 : (rd (l0.take ((ji4) : Int).toNat) x15_2) < 256
                      · rw [if_pos c28] at H
                        have c28b0 : decide ((rd (l0.take ((ji4) : Int).toNat) x15_2) < 256) = true := decide_eq_true c28
                        have c28e0 := eq_true c28
                        clear c28
                        by_cases c29 : (rd (l0.take ((ji4) : Int).toNat) x15_2) < (x14_2.length : Int)
                        · rw [if_pos c29] at H
                          have c29b0 : decide ((rd (l0.take ((ji4) : Int).toNat) x15_2) < (x14_2.length : Int)) = true := decide_eq_true c29
                          clear c29
                          obtain ⟨y700, hy700⟩ : ∃ y_ : List Int, y_ = (x14_2.set ((rd (l0.take ((ji4) : Int).toNat) x15_2) : Int).toNat (wrap64 ((rd x14_2 (rd (l0.take ((ji4) : Int).toNat) x15_2)) + 1))) := ⟨_, rfl⟩
                          replace H : (foghornlaw18_FieldRoots.l0 k2 l1 a2 (l0.take ((ji4) : Int).toNat) t686 t690 y700 (wrap64 (x15_2 + 1))) = some r := by first | (rw [hy700]; with_reducible exact H) | (have H2_ := (Option.bind_some _ _).symm.trans H; rw [hy700]; with_reducible exact H2_) | (have H2_ := (Option.bind_some _ _).symm.trans H; with_reducible exact H2_) | with_reducible exact H | (rw [hy700]; exact H) | exact H
                          have Ny700 := Aside0.mk hy700
                          clear hy700
                          as_aux_lemma =>
                            have H' := Aside0.mk H
                            clear H
                            have p698 : 0 ≤ (x15_2 : Int) := of_decide_eq_true (by first | (with_reducible assumption) | assumption)
                            have q698 : x15_2 < ((l0.take ((ji4) : Int).toNat).length : Int) := of_decide_eq_true (by first | (with_reducible assumption) | assumption)
                            obtain ⟨ad698, e698, hx698_0⟩ := Kd.at_int HR681.out x15_2 p698 q698
                            cases e698
                            replace hx698_0 := (HB.out.cell (World.block_lt_of_cell? w _ hx698_0)).trans hx698_0
                            replace p698 := eq_true p698
                            replace q698 := eq_true q698; (try (have q698z := q698; rw [show (l0.take ((ji4) : Int).toNat).length = (ji4).toNat from (by rw [List.length_take]; have h_ : ((ji4) : Int) ≤ (l0.length : Int) := (by first | exact of_decide_eq_true (by first | (with_reducible assumption) | assumption) | (rw [← hji4]; unfold mn; split <;> omega)); omega)] at q698z; (try (have q698w := q698z; rw [Int.ofNat_toNat] at q698w))))
                            obtain ⟨Ao31, co31, eo31⟩ := Kd.R_slice HO_14.out
                            subst eo31
                            have p699 : 0 ≤ ((rd (l0.take ((ji4) : Int).toNat) x15_2) : Int) := of_decide_eq_true (by first | (with_reducible assumption) | assumption)
                            have q699 : (rd (l0.take ((ji4) : Int).toNat) x15_2) < (x14_2.length : Int) := of_decide_eq_true (by first | (with_reducible assumption) | assumption)
                            obtain ⟨ad699, e699, hx699_0⟩ := Kd.at_int (Kd.R_reads' HO_14.out).2.2 (rd (l0.take ((ji4) : Int).toNat) x15_2) p699 q699
                            cases e699
                            replace p699 := eq_true p699
                            replace q699 := eq_true q699
                            have p30 : 0 ≤ ((rd (l0.take ((ji4) : Int).toNat) x15_2) : Int) := of_decide_eq_true (by first | (with_reducible assumption) | assumption)
                            have q30 : ((rd (l0.take ((ji4) : Int).toNat) x15_2) : Int) < ((x14_2.length : Int) : Int) := of_decide_eq_true (by first | (with_reducible assumption) | assumption)
                            obtain ⟨go30, co30, eo30, gb30, gl30, cl30, HG30⟩ := Kd.R_form HO_14.out (by omega)
                            (first | cases eo30 | (injection eo30 with ea_ en_ ec_; (first | subst ea_ | (injection ea_ with ea_; subst ea_)); subst ec_; clear en_))
                            have GB30 := Aside0.mk gb30
                            have GG30 := Aside0.mk HG30
                            clear gb30 gl30 HG30
                            (first | simp only [add_plain] at hx699_0 | skip)
                            obtain ⟨hx30_0, hf30_0⟩ := Kd.R_celln 0 HO_14.out ((rd (l0.take ((ji4) : Int).toNat) x15_2) : Int) p30 q30
                            replace p30 := eq_true p30
                            replace q30 := eq_true q30
                            have HP32 := Kd.R_putg HO_14.out ((rd (l0.take ((ji4) : Int).toNat) x15_2) : Int) (wrap64 ((rd x14_2 (rd (l0.take ((ji4) : Int).toNat) x15_2)) + 1))
                            go_wp2_with (first | ((with_reducible refine gate_store (t := 3) (p := 89) rfl ?_); refine store_event (t := 3) (p := 89) (v := ?vo_w33) (w1 := (wr.setCell ⟨go30, ((rd (l0.take ((ji4) : Int).toNat) x15_2) : Int).toNat, none⟩ (.int .i64 (wrap64 ((rd x14_2 (rd (l0.take ((ji4) : Int).toNat) x15_2)) + 1))))) ?hg ?ho ?hn ?hr ?_; (case ho => rfl); (case hg => rfl); (case hn => rfl); (case hr => first | (go_simp; done) | (go_simp; rfl)); intro w33 hw; have hg : wr.grownBy w33 (some go30) := (by rw [hw]; exact HP32.2); have hp_ : Kd.R (Kd.int .i64) 71 w33 w.heap.size (fun _ => True) (.slice (some ⟨go30, 0, none⟩) x14_2.length co31) y700 := (by rw [hw, Ny700.out]; exact HP32.1); clear HP32; have n0_ := Aside0.mk (Kd.R_over' (v := (.slice (some ⟨go30, 0, none⟩) x14_2.length co31)) (by (with_reducible repeat (first | apply Kd.R_alloc | apply Kd.R_drewN | apply Kd.R_drew)); exact HO_10.out) (Kd.R_typed HO_14.out) (by decide) hg); have n1_ := Aside0.mk (Kd.R_over' (v := (.slice (some ⟨go30, 0, none⟩) x14_2.length co31)) (by (with_reducible repeat (first | apply Kd.R_alloc | apply Kd.R_drewN | apply Kd.R_drew)); exact HO_12.out) (Kd.R_typed HO_14.out) (by decide) hg); have n2_ := Aside0.mk (hp_); have n3_ := Aside0.mk ((by rw [hw]; exact below_set (HB.out) GB30.out : Below w.heap.size w w33)); clear HO_10; clear HO_12; clear HO_14; clear HB; have HO_10 := n0_; have HO_12 := n1_; have HO_14 := n2_; have HB := n3_; clear n0_ n1_ n2_ n3_; clear hg hw hp_))
                            first | go_roundg k2 | (simp only [add_plain] at *; go_roundg k2)
                            case measure => have := HJ9.out; have := HK2.out; omega
                            case rel => exact ⟨(y700), (wrap64 (x15_2 + 1)), (by first | rfl | (simp; done) | (simp [*]; done)), H', ⟨by have := HJ9.out; have := HK2.out; omega⟩, ⟨by (with_reducible repeat (first | apply Kd.R_alloc | apply Kd.R_drewN | apply Kd.R_drew)); exact HO_10.out⟩, ⟨by (with_reducible repeat (first | apply Kd.R_alloc | apply Kd.R_drewN | apply Kd.R_drew)); exact HO_12.out⟩, ⟨by (with_reducible repeat (first | apply Kd.R_alloc | apply Kd.R_drewN | apply Kd.R_drew)); exact HO_14.out⟩, ⟨by repeat (first | (with_reducible first | exact HB.out | apply below_alloc | apply pw_below_drewN | apply below_drew1) | exact HB.out)⟩⟩
                        · rw [if_neg c29] at H
                          exact absurd H (by simp)
                      · rw [if_neg c28] at H
                        exact absurd H (by simp)
                    · rw [if_neg c27] at H
                      exact absurd H (by simp)
                  · rw [if_neg c26] at H
                    exact absurd H (by simp)
                · rw [if_neg c25] at H
                  have c25b0 : decide (x15_2 < ((l0.take ((ji4) : Int).toNat).length : Int)) = false := decide_eq_false c25
                  (try (have c25b0z := c25b0; (try rw [show (l0.take ((ji4) : Int).toNat).length = (ji4).toNat from (by rw [List.length_take]; have h_ : ((ji4) : Int) ≤ (l0.length : Int) := (by first | exact of_decide_eq_true (by first | (with_reducible assumption) | assumption) | (rw [← hji4]; unfold mn; split <;> omega)); omega)] at c25b0z)))
                  (try (have c25b0w := c25b0z; rw [Int.ofNat_toNat] at c25b0w))
                  clear c25
                  have H' := Aside0.mk H
                  clear H
                  go_wp2
                  go_loopg [16, 17] k2 (fun kq v16 v17 w' => ∃ (x16_3 : Int) (x17_3 : Int), v16 = .int .i64 x16_3 ∧ v17 = .int .i64 x17_3 ∧ Aside0 (foghornlaw18_FieldRoots.l1 kq l1 a2 t686 t690 x14_2 x16_3 x17_3 = some r) ∧ Aside0 (kq ≤ k2) ∧ Aside0 (Kd.R (Kd.int .u8) 5 w' w.heap.size (fun k_ => some k_ ≠ (v691 : Value).ownBlock) v687 t686) ∧ Aside0 (Kd.R (Kd.int .u8) 5 w' w.heap.size (fun k_ => some k_ ≠ (v687 : Value).ownBlock) v691 t690) ∧ Aside0 (Kd.R (Kd.int .i64) 71 w' w.heap.size (fun _ => True) v696 x14_2) ∧ Aside0 (Below w.heap.size w w'))
                  case atStart => exact ⟨(0), (0), (by first | rfl | (simp; done) | (simp [*]; done)), (by first | rfl | (simp; done) | (simp [*]; done)), H', ⟨Nat.le_refl _⟩, ⟨by (with_reducible repeat (first | apply Kd.R_alloc | apply Kd.R_drewN | apply Kd.R_drew)); exact HO_10.out⟩, ⟨by (with_reducible repeat (first | apply Kd.R_alloc | apply Kd.R_drewN | apply Kd.R_drew)); exact HO_12.out⟩, ⟨by (with_reducible repeat (first | apply Kd.R_alloc | apply Kd.R_drewN | apply Kd.R_drew)); exact HO_14.out⟩, ⟨by repeat (first | (with_reducible first | exact HB.out | apply below_alloc | apply pw_below_drewN | apply below_drew1) | exact HB.out)⟩⟩
                  case round =>
                    clear H'
                    try clear c1
                    try clear c2
                    try clear p2
                    try clear p3
                    try clear q3
                    try clear hx3
                    try clear hf3
                    try clear c5
                    try clear c5b0
                    try clear c5b1
                    try clear c6
                    try clear c6b0
                    try clear c6b1
                    try clear p6
                    try clear q6
                    try clear hx6
                    try clear c12
                    try clear c16
                    try clear c16b0
                    try clear c16b1
                    try clear c17
                    try clear c17b0
                    try clear c17b1
                    try clear c18
                    try clear c18b0
                    try clear c18b1
                    try clear c20
                    try clear c20b0
                    try clear c20b1
                    try clear c22
                    try clear c25
                    try clear c25b0
                    try clear c26
                    try clear c26b0
                    try clear c27
                    try clear c27b0
                    try clear c28
                    try clear c28b0
                    try clear c29
                    try clear c29b0
                    try clear p30
                    try clear q30
                    try clear hx30
                    try clear hf30
                    try clear hx30_0
                    try clear hx698_0
                    try clear hx699_0
                    try clear p2
                    try clear p30
                    try clear p698
                    try clear p699
                    try clear q30
                    try clear q698
                    try clear q699
                    obtain ⟨x16_3, x17_3, rfl, rfl, HA, HK3, HO_10, HO_12, HO_14, HB⟩ := hrel
                    cases gk with
                    | zero => exact absurd HA.out (by simp [foghornlaw18_FieldRoots.l1])
                    | succ k3 =>
                      have H := HA.out
                      clear HA
                      simp only [foghornlaw18_FieldRoots.l1] at H
                      by_cases c34 : x17_3 < 256
                      · rw [if_pos c34] at H
                        have c34b0 : decide (x17_3 < 256) = true := decide_eq_true c34
                        have c34e0 := eq_true c34
                        clear c34
                        have HC35 := Aside0.mk H
                        clear H
                        go_upto_region 16 with (fail)
                        go_cut [18] (fun v18 wc => ∃ (kq : Nat) (x18_34 : Bool), v18 = .bool x18_34 ∧ Aside0 (foghornlaw18_FieldRoots.j3 kq l1 a2 t686 t690 x14_2 x16_3 x17_3 x18_34 = some r) ∧ Aside0 (kq ≤ k3) ∧ Aside0 (Kd.R (Kd.int .u8) 5 wc w.heap.size (fun k_ => some k_ ≠ (v691 : Value).ownBlock) v687 t686) ∧ Aside0 (Kd.R (Kd.int .u8) 5 wc w.heap.size (fun k_ => some k_ ≠ (v687 : Value).ownBlock) v691 t690) ∧ Aside0 (Kd.R (Kd.int .i64) 71 wc w.heap.size (fun _ => True) v696 x14_2) ∧ Aside0 (Below w.heap.size w wc))
                        case first =>
                          have H := HC35.out
                          clear HC35
                          by_cases c36 : x16_3 < (t686.length : Int)
                          · rw [if_pos c36] at H
                            have c36b0 : decide (x16_3 < (t686.length : Int)) = true := decide_eq_true c36
                            clear c36
                            (first | rw [c36b0] | (simp only [i64_w, i32_w]; rw [c36b0]) | skip)
                            by_cases c37 : 0 ≤ x16_3
                            · rw [if_pos c37] at H
                              have c37b0 : decide (0 ≤ x16_3) = true := decide_eq_true c37
                              have c37e0 := eq_true c37
                              clear c37
                              as_aux_lemma =>
                                have H' := Aside0.mk H
                                clear H
                                obtain ⟨Ao38, co38, eo38⟩ := Kd.R_slice HO_10.out
                                subst eo38
                                have p701 : 0 ≤ (x16_3 : Int) := of_decide_eq_true (by first | (with_reducible assumption) | assumption)
                                have q701 : x16_3 < (t686.length : Int) := of_decide_eq_true (by first | (with_reducible assumption) | assumption)
                                obtain ⟨ad701, e701, hx701_0⟩ := Kd.at_int (Kd.R_reads' HO_10.out).2.2 x16_3 p701 q701
                                cases e701
                                replace p701 := eq_true p701
                                replace q701 := eq_true q701
                                go_wp2
                                go_meet
                                case rel => exact ⟨_, (((rd t686 x16_3) == ((x17_3) % 256))), (by first | rfl | (simp; done) | (simp [*]; done)), H', ⟨by have := HJ9.out; have := HK2.out; have := HK3.out; first | omega | exact Nat.le_refl _⟩, ⟨by (with_reducible repeat (first | apply Kd.R_alloc | apply Kd.R_drewN | apply Kd.R_drew)); exact HO_10.out⟩, ⟨by (with_reducible repeat (first | apply Kd.R_alloc | apply Kd.R_drewN | apply Kd.R_drew)); exact HO_12.out⟩, ⟨by (with_reducible repeat (first | apply Kd.R_alloc | apply Kd.R_drewN | apply Kd.R_drew)); exact HO_14.out⟩, ⟨by repeat (first | (with_reducible first | exact HB.out | apply below_alloc | apply pw_below_drewN | apply below_drew1) | exact HB.out)⟩⟩
                            · rw [if_neg c37] at H
                              exact absurd H (by simp)
                          · rw [if_neg c36] at H
                            have c36b0 : decide (x16_3 < (t686.length : Int)) = false := decide_eq_false c36
                            clear c36
                            (first | rw [c36b0] | (simp only [i64_w, i32_w]; rw [c36b0]) | skip)
                            as_aux_lemma =>
                              have H' := Aside0.mk H
                              clear H
                              obtain ⟨Ao39, co39, eo39⟩ := Kd.R_slice HO_10.out
                              subst eo39
                              go_wp2
                              go_meet
                              case rel => exact ⟨_, (false), (by first | rfl | (simp; done) | (simp [*]; done)), H', ⟨by have := HJ9.out; have := HK2.out; have := HK3.out; first | omega | exact Nat.le_refl _⟩, ⟨by (with_reducible repeat (first | apply Kd.R_alloc | apply Kd.R_drewN | apply Kd.R_drew)); exact HO_10.out⟩, ⟨by (with_reducible repeat (first | apply Kd.R_alloc | apply Kd.R_drewN | apply Kd.R_drew)); exact HO_12.out⟩, ⟨by (with_reducible repeat (first | apply Kd.R_alloc | apply Kd.R_drewN | apply Kd.R_drew)); exact HO_14.out⟩, ⟨by repeat (first | (with_reducible first | exact HB.out | apply below_alloc | apply pw_below_drewN | apply below_drew1) | exact HB.out)⟩⟩
                        case rest =>
                          clear HC35
                          try clear c1
                          try clear c2
                          try clear p2
                          try clear c3
                          try clear p3
                          try clear q3
                          try clear hx3
                          try clear hf3
                          try clear c5
                          try clear c5b0
                          try clear c5b1
                          try clear c6
                          try clear c6b0
                          try clear c6b1
                          try clear p6
                          try clear q6
                          try clear hx6
                          try clear p7
                          try clear q7
                          try clear hx7
                          try clear c12
                          try clear c16
                          try clear c16b0
                          try clear c16b1
                          try clear c17
                          try clear c17b0
                          try clear c17b1
                          try clear c18
                          try clear c18b0
                          try clear c18b1
                          try clear c20
                          try clear c20b0
                          try clear c20b1
                          try clear c22
                          try clear c25
                          try clear c25b0
                          try clear c26
                          try clear c26b0
                          try clear c27
                          try clear c27b0
                          try clear c28
                          try clear c28b0
                          try clear c29
                          try clear c29b0
                          try clear p30
                          try clear q30
                          try clear hx30
                          try clear hf30
                          try clear c34
                          try clear c34b0
                          try clear c36
                          try clear c36b0
                          try clear c37
                          try clear c37b0
                          try clear hx30_0
                          try clear hx698_0
                          try clear hx699_0
                          try clear hx701_0
                          try clear p2
                          try clear p3
                          try clear p30
                          try clear p6
                          try clear p698
                          try clear p699
                          try clear p701
                          try clear q3
                          try clear q30
                          try clear q6
                          try clear q698
                          try clear q699
                          try clear q701
                          obtain ⟨kq, x18_34, rfl, HA, HJ34, HO_10, HO_12, HO_14, HB⟩ := hcut
                          cases kq with
                          | zero => exact absurd HA.out (by simp [foghornlaw18_FieldRoots.j3])
                          | succ kj34 =>
                            have H := HA.out
                            clear HA
                            simp only [foghornlaw18_FieldRoots.j3] at H
                            by_cases c40 : x18_34 = true
                            · subst c40
                              have H1 : ((field_At.f t690 ((x17_3) % 256)).bind fun bt702 => (if bt702.2 = 0 then (if 0 ≤ x17_3 then (if x17_3 < 256 then (if x17_3 < (x14_2.length : Int) then (if (true != (decide ((rd x14_2 x17_3) > 0))) = true then (some false) else (if ((bt702.1 == 0) != (decide ((rd x14_2 x17_3) > 1))) = true then (some false) else (foghornlaw18_FieldRoots.l1 kj34 l1 a2 t686 t690 x14_2 (wrap64 (x16_3 + 1)) (wrap64 (x17_3 + 1))))) else (none)) else (none)) else (none)) else (some false))) = some r := by rw [if_pos rfl] at H; exact H
                              clear H
                              have H := H1
                              clear H1
                              replace H := Option.bind_eq_some_iff.mp H
                              obtain ⟨⟨t702, t703⟩, A410, H⟩ := H
                              replace H : (if t703 = 0 then (if 0 ≤ x17_3 then (if x17_3 < 256 then (if x17_3 < (x14_2.length : Int) then (if (true != (decide ((rd x14_2 x17_3) > 0))) = true then (some false) else (if ((t702 == 0) != (decide ((rd x14_2 x17_3) > 1))) = true then (some false) else (foghornlaw18_FieldRoots.l1 kj34 l1 a2 t686 t690 x14_2 (wrap64 (x16_3 + 1)) (wrap64 (x17_3 + 1))))) else (none)) else (none)) else (none)) else (some false)) = some r := H
                              have A41 := Aside0.mk A410
                              clear A410
                              by_cases c42 : t703 = 0
                              · rw [if_pos c42] at H
                                have c42b0 : (t703 == 0) = true := beq_iff_eq.mpr c42
                                have c42b1 : (t703 != 0) = false := bne_eq_false_iff_eq.mpr c42
                                clear c42
                                by_cases c43 : 0 ≤ x17_3
                                · rw [if_pos c43] at H
                                  have c43b0 : decide (0 ≤ x17_3) = true := decide_eq_true c43
                                  have c43e0 := eq_true c43
                                  clear c43
                                  by_cases c44 : x17_3 < 256
                                  · rw [if_pos c44] at H
                                    have c44b0 : decide (x17_3 < 256) = true := decide_eq_true c44
                                    have c44e0 := eq_true c44
                                    clear c44
                                    by_cases c45 : x17_3 < (x14_2.length : Int)
                                    · rw [if_pos c45] at H
                                      have c45b0 : decide (x17_3 < (x14_2.length : Int)) = true := decide_eq_true c45
                                      clear c45
                                      by_cases c46 : (true != (decide ((rd x14_2 x17_3) > 0))) = true
                                      · rw [if_pos c46] at H
                                        have c46b0 : (true != (decide ((rd x14_2 x17_3) > 0))) = true := c46
                                        (try (have c46b1 : decide (true = (decide ((rd x14_2 x17_3) > 0))) = false := by simpa using c46))
                                        (try (have c46b2 : (true == (decide ((rd x14_2 x17_3) > 0))) = false := by simpa using c46))
                                        (try (have c46b3 : ¬ (true = (decide ((rd x14_2 x17_3) > 0))) := by simpa using c46))
                                        clear c46
                                        as_aux_lemma =>
                                          exact absurd ((Option.some.inj H).trans HQ_.out) (by decide)
                                      · rw [if_neg c46] at H
                                        have c46b0 : (true != (decide ((rd x14_2 x17_3) > 0))) = false := by simpa using c46
                                        (try (have c46b1 : decide (true = (decide ((rd x14_2 x17_3) > 0))) = true := by simpa using c46))
                                        (try (have c46b2 : (true == (decide ((rd x14_2 x17_3) > 0))) = true := by simpa using c46))
                                        clear c46
                                        by_cases c47 : ((t702 == 0) != (decide ((rd x14_2 x17_3) > 1))) = true
                                        · rw [if_pos c47] at H
                                          have c47b0 : ((t702 == 0) != (decide ((rd x14_2 x17_3) > 1))) = true := c47
                                          (try (have c47b1 : decide ((t702 == 0) = (decide ((rd x14_2 x17_3) > 1))) = false := by simpa using c47))
                                          (try (have c47b2 : ((t702 == 0) == (decide ((rd x14_2 x17_3) > 1))) = false := by simpa using c47))
                                          (try (have c47b3 : ¬ ((t702 == 0) = (decide ((rd x14_2 x17_3) > 1))) := by simpa using c47))
                                          clear c47
                                          as_aux_lemma =>
                                            exact absurd ((Option.some.inj H).trans HQ_.out) (by decide)
                                        · rw [if_neg c47] at H
                                          have c47b0 : ((t702 == 0) != (decide ((rd x14_2 x17_3) > 1))) = false := by simpa using c47
                                          (try (have c47b1 : decide ((t702 == 0) = (decide ((rd x14_2 x17_3) > 1))) = true := by simpa using c47))
                                          (try (have c47b2 : ((t702 == 0) == (decide ((rd x14_2 x17_3) > 1))) = true := by simpa using c47))
                                          clear c47
                                          as_aux_lemma =>
                                            have H' := Aside0.mk H
                                            clear H
                                            obtain ⟨Ao48, co48, eo48⟩ := Kd.R_slice HO_12.out
                                            subst eo48
                                            go_wp2_with (first | ((with_reducible refine gate_callee (f := 51) rfl ?_); refine goesL_ (some 114) rfl rfl Try.func51 (by kernel_rfl) rfl #[.slice Ao48 t690.length co48, .int .u8 ((x17_3) % 256)] rfl (by (try simp only [List.map_toArray, List.map_cons, List.map_nil]); first | done | rfl | (simp only [List.length_drop, List.length_take]; rfl)) ?_; (with_reducible refine (field_At.calls (fun k_ => some k_ = (.slice Ao48 t690.length co48 : Value).ownBlock) _ _ t690 ((x17_3) % 256) t702 t703 _ ?side1 A41.out).mono ?_); (case side1 => exact Kd.R_V (Kd.R_tight rfl (Kd.R_apart' (HO_12.out) (Kd.R_typed HO_14.out) (by decide)))); rintro e w49 ⟨rfl, hb⟩; refine ⟨_, rfl, ?_⟩; have n0_ := Aside0.mk (Kd.R_below (by (with_reducible repeat (first | apply Kd.R_alloc | apply Kd.R_drewN | apply Kd.R_drew)); exact HO_10.out) hb); have n1_ := Aside0.mk (Kd.R_below (by (with_reducible repeat (first | apply Kd.R_alloc | apply Kd.R_drewN | apply Kd.R_drew)); exact HO_12.out) hb); have n2_ := Aside0.mk (Kd.R_below (by (with_reducible repeat (first | apply Kd.R_alloc | apply Kd.R_drewN | apply Kd.R_drew)); exact HO_14.out) hb); have n3_ := Aside0.mk (below_step (by repeat (first | (with_reducible first | exact HB.out | apply below_alloc | apply pw_below_drewN | apply below_drew1) | exact HB.out)) hb); clear HO_10; clear HO_12; clear HO_14; clear HB; have HO_10 := n0_; have HO_12 := n1_; have HO_14 := n2_; have HB := n3_; clear n0_ n1_ n2_ n3_; (try clear hb); (try clear hb2); (try clear hk); (try clear hi); obtain ⟨Ao50, co50, eo50⟩ := Kd.R_slice HO_14.out; subst eo50; have p704 : 0 ≤ (x17_3 : Int) := of_decide_eq_true (by first | (with_reducible assumption) | assumption); have q704 : x17_3 < (x14_2.length : Int) := of_decide_eq_true (by first | (with_reducible assumption) | assumption); obtain ⟨ad704, e704, hx704_0⟩ := Kd.at_int (Kd.R_reads' HO_14.out).2.2 x17_3 p704 q704; cases e704; replace p704 := eq_true p704; replace q704 := eq_true q704; have p705 : 0 ≤ (x17_3 : Int) := of_decide_eq_true (by first | (with_reducible assumption) | assumption); have q705 : x17_3 < (x14_2.length : Int) := of_decide_eq_true (by first | (with_reducible assumption) | assumption); obtain ⟨ad705, e705, hx705_0⟩ := Kd.at_int (Kd.R_reads' HO_14.out).2.2 x17_3 p705 q705; obtain rfl : ad704 = ad705 := (by injection e705); replace p705 := eq_true p705; replace q705 := eq_true q705))
                                            first | go_roundg kj34 | (simp only [add_plain] at *; go_roundg kj34)
                                            case measure => have := HJ9.out; have := HK2.out; have := HK3.out; have := HJ34.out; omega
                                            case rel => exact ⟨(wrap64 (x16_3 + 1)), (wrap64 (x17_3 + 1)), (by first | rfl | (simp; done) | (simp [*]; done)), (by first | rfl | (simp; done) | (simp [*]; done)), H', ⟨by have := HJ9.out; have := HK2.out; have := HK3.out; have := HJ34.out; omega⟩, ⟨by (with_reducible repeat (first | apply Kd.R_alloc | apply Kd.R_drewN | apply Kd.R_drew)); exact HO_10.out⟩, ⟨by (with_reducible repeat (first | apply Kd.R_alloc | apply Kd.R_drewN | apply Kd.R_drew)); exact HO_12.out⟩, ⟨by (with_reducible repeat (first | apply Kd.R_alloc | apply Kd.R_drewN | apply Kd.R_drew)); exact HO_14.out⟩, ⟨by repeat (first | (with_reducible first | exact HB.out | apply below_alloc | apply pw_below_drewN | apply below_drew1) | exact HB.out)⟩⟩
                                    · rw [if_neg c45] at H
                                      exact absurd H (by simp)
                                  · rw [if_neg c44] at H
                                    exact absurd H (by simp)
                                · rw [if_neg c43] at H
                                  exact absurd H (by simp)
                              · rw [if_neg c42] at H
                                have c42b0 : (t703 == 0) = false := beq_eq_false_iff_ne.mpr c42
                                have c42b1 : (t703 != 0) = true := bne_iff_ne.mpr c42
                                as_aux_lemma =>
                                  exact absurd ((Option.some.inj H).trans HQ_.out) (by decide)
                            · replace c40 := Bool.eq_false_iff.mpr c40
                              subst c40
                              have H1 : ((field_At.f t690 ((x17_3) % 256)).bind fun bt706 => (if bt706.2 = 0 then (if 0 ≤ x17_3 then (if x17_3 < 256 then (if x17_3 < (x14_2.length : Int) then (if (false != (decide ((rd x14_2 x17_3) > 0))) = true then (some false) else (foghornlaw18_FieldRoots.l1 kj34 l1 a2 t686 t690 x14_2 x16_3 (wrap64 (x17_3 + 1)))) else (none)) else (none)) else (none)) else (some false))) = some r := by rw [if_neg (show ¬ (false = true) by decide)] at H; exact H
                              clear H
                              have H := H1
                              clear H1
                              replace H := Option.bind_eq_some_iff.mp H
                              obtain ⟨⟨t706, t707⟩, A510, H⟩ := H
                              replace H : (if t707 = 0 then (if 0 ≤ x17_3 then (if x17_3 < 256 then (if x17_3 < (x14_2.length : Int) then (if (false != (decide ((rd x14_2 x17_3) > 0))) = true then (some false) else (foghornlaw18_FieldRoots.l1 kj34 l1 a2 t686 t690 x14_2 x16_3 (wrap64 (x17_3 + 1)))) else (none)) else (none)) else (none)) else (some false)) = some r := H
                              have A51 := Aside0.mk A510
                              clear A510
                              by_cases c52 : t707 = 0
                              · rw [if_pos c52] at H
                                have c52b0 : (t707 == 0) = true := beq_iff_eq.mpr c52
                                have c52b1 : (t707 != 0) = false := bne_eq_false_iff_eq.mpr c52
                                clear c52
                                by_cases c53 : 0 ≤ x17_3
                                · rw [if_pos c53] at H
                                  have c53b0 : decide (0 ≤ x17_3) = true := decide_eq_true c53
                                  have c53e0 := eq_true c53
                                  clear c53
                                  by_cases c54 : x17_3 < 256
                                  · rw [if_pos c54] at H
                                    have c54b0 : decide (x17_3 < 256) = true := decide_eq_true c54
                                    have c54e0 := eq_true c54
                                    clear c54
                                    by_cases c55 : x17_3 < (x14_2.length : Int)
                                    · rw [if_pos c55] at H
                                      have c55b0 : decide (x17_3 < (x14_2.length : Int)) = true := decide_eq_true c55
                                      clear c55
                                      by_cases c56 : (false != (decide ((rd x14_2 x17_3) > 0))) = true
                                      · rw [if_pos c56] at H
                                        have c56b0 : (false != (decide ((rd x14_2 x17_3) > 0))) = true := c56
                                        (try (have c56b1 : decide (false = (decide ((rd x14_2 x17_3) > 0))) = false := by simpa using c56))
                                        (try (have c56b2 : (false == (decide ((rd x14_2 x17_3) > 0))) = false := by simpa using c56))
                                        (try (have c56b3 : ¬ (false = (decide ((rd x14_2 x17_3) > 0))) := by simpa using c56))
                                        clear c56
                                        as_aux_lemma =>
                                          exact absurd ((Option.some.inj H).trans HQ_.out) (by decide)
                                      · rw [if_neg c56] at H
                                        have c56b0 : (false != (decide ((rd x14_2 x17_3) > 0))) = false := by simpa using c56
                                        (try (have c56b1 : decide (false = (decide ((rd x14_2 x17_3) > 0))) = true := by simpa using c56))
                                        (try (have c56b2 : (false == (decide ((rd x14_2 x17_3) > 0))) = true := by simpa using c56))
                                        clear c56
                                        as_aux_lemma =>
                                          have H' := Aside0.mk H
                                          clear H
                                          obtain ⟨Ao57, co57, eo57⟩ := Kd.R_slice HO_12.out
                                          subst eo57
                                          go_wp2_with (first | ((with_reducible refine gate_callee (f := 51) rfl ?_); refine goesL_ (some 114) rfl rfl Try.func51 (by kernel_rfl) rfl #[.slice Ao57 t690.length co57, .int .u8 ((x17_3) % 256)] rfl (by (try simp only [List.map_toArray, List.map_cons, List.map_nil]); first | done | rfl | (simp only [List.length_drop, List.length_take]; rfl)) ?_; (with_reducible refine (field_At.calls (fun k_ => some k_ = (.slice Ao57 t690.length co57 : Value).ownBlock) _ _ t690 ((x17_3) % 256) t706 t707 _ ?side1 A51.out).mono ?_); (case side1 => exact Kd.R_V (Kd.R_tight rfl (Kd.R_apart' (HO_12.out) (Kd.R_typed HO_14.out) (by decide)))); rintro e w58 ⟨rfl, hb⟩; refine ⟨_, rfl, ?_⟩; have n0_ := Aside0.mk (Kd.R_below (by (with_reducible repeat (first | apply Kd.R_alloc | apply Kd.R_drewN | apply Kd.R_drew)); exact HO_10.out) hb); have n1_ := Aside0.mk (Kd.R_below (by (with_reducible repeat (first | apply Kd.R_alloc | apply Kd.R_drewN | apply Kd.R_drew)); exact HO_12.out) hb); have n2_ := Aside0.mk (Kd.R_below (by (with_reducible repeat (first | apply Kd.R_alloc | apply Kd.R_drewN | apply Kd.R_drew)); exact HO_14.out) hb); have n3_ := Aside0.mk (below_step (by repeat (first | (with_reducible first | exact HB.out | apply below_alloc | apply pw_below_drewN | apply below_drew1) | exact HB.out)) hb); clear HO_10; clear HO_12; clear HO_14; clear HB; have HO_10 := n0_; have HO_12 := n1_; have HO_14 := n2_; have HB := n3_; clear n0_ n1_ n2_ n3_; (try clear hb); (try clear hb2); (try clear hk); (try clear hi); obtain ⟨Ao59, co59, eo59⟩ := Kd.R_slice HO_14.out; subst eo59; have p708 : 0 ≤ (x17_3 : Int) := of_decide_eq_true (by first | (with_reducible assumption) | assumption); have q708 : x17_3 < (x14_2.length : Int) := of_decide_eq_true (by first | (with_reducible assumption) | assumption); obtain ⟨ad708, e708, hx708_0⟩ := Kd.at_int (Kd.R_reads' HO_14.out).2.2 x17_3 p708 q708; cases e708; replace p708 := eq_true p708; replace q708 := eq_true q708))
                                          first | go_roundg kj34 | (simp only [add_plain] at *; go_roundg kj34)
                                          case measure => have := HJ9.out; have := HK2.out; have := HK3.out; have := HJ34.out; omega
                                          case rel => exact ⟨(x16_3), (wrap64 (x17_3 + 1)), (by first | rfl | (simp; done) | (simp [*]; done)), (by first | rfl | (simp; done) | (simp [*]; done)), H', ⟨by have := HJ9.out; have := HK2.out; have := HK3.out; have := HJ34.out; omega⟩, ⟨by (with_reducible repeat (first | apply Kd.R_alloc | apply Kd.R_drewN | apply Kd.R_drew)); exact HO_10.out⟩, ⟨by (with_reducible repeat (first | apply Kd.R_alloc | apply Kd.R_drewN | apply Kd.R_drew)); exact HO_12.out⟩, ⟨by (with_reducible repeat (first | apply Kd.R_alloc | apply Kd.R_drewN | apply Kd.R_drew)); exact HO_14.out⟩, ⟨by repeat (first | (with_reducible first | exact HB.out | apply below_alloc | apply pw_below_drewN | apply below_drew1) | exact HB.out)⟩⟩
                                    · rw [if_neg c55] at H
                                      exact absurd H (by simp)
                                  · rw [if_neg c54] at H
                                    exact absurd H (by simp)
                                · rw [if_neg c53] at H
                                  exact absurd H (by simp)
                              · rw [if_neg c52] at H
                                have c52b0 : (t707 == 0) = false := beq_eq_false_iff_ne.mpr c52
                                have c52b1 : (t707 != 0) = true := bne_iff_ne.mpr c52
                                as_aux_lemma =>
                                  exact absurd ((Option.some.inj H).trans HQ_.out) (by decide)
                      · rw [if_neg c34] at H
                        have c34b0 : decide (x17_3 < 256) = false := decide_eq_false c34
                        clear c34
                        obtain ⟨ji60, hji60⟩ : ∃ j_ : Int, (mn (l1.length : Int) 20) = j_ := ⟨_, rfl⟩
                        replace H : (if 0 ≤ (ji60) then (if (ji60) ≤ (l1.length : Int) then ((field_Sum.f k3 (l1.take ((ji60) : Int).toNat) ([] : List Int)).bind fun bt710 => (foghornlaw18_FieldRoots.l2 k3 a2 t686 x16_3 bt710.1 bt710.2 ([] : List (S45)) 0)) else (none)) else (none)) = some r := by first | (rw [hji60] at H; exact H) | (simp only [hji60] at H ⊢; exact H)
                        have hji60_ : (if 20 < (l1.length : Int) then 20 else (l1.length : Int)) = ji60 := hji60
                        by_cases c61 : 0 ≤ (ji60)
                        · rw [if_pos c61] at H
                          have c61b0 := eq_true c61
                          have c61b1 : decide (0 ≤ (ji60)) = true := decide_eq_true c61
                          clear c61
                          by_cases c62 : (ji60) ≤ (l1.length : Int)
                          · rw [if_pos c62] at H
                            have c62b0 := eq_true c62
                            have c62b1 : decide ((ji60) ≤ (l1.length : Int)) = true := decide_eq_true c62
                            clear c62
                            replace H := Option.bind_eq_some_iff.mp H
                            obtain ⟨⟨t710, t713⟩, A630, H⟩ := H
                            replace H : (foghornlaw18_FieldRoots.l2 k3 a2 t686 x16_3 t710 t713 ([] : List (S45)) 0) = some r := H
                            have A63 := Aside0.mk A630
                            clear A630
                            have H' := Aside0.mk H
                            clear H
                            obtain ⟨i064, hi064, _, hsz64, _⟩ := info_parts info5
                            obtain ⟨hcut64, hA64, hC64⟩ := print_take_of (P := Try.prog) (Value.int .u8) 0 22 5 .i64 Try.underlying22 hi064 hsz64 A1 c1 l1 (ji60) (of_decide_eq_true (by first | (with_reducible assumption) | assumption)) (of_decide_eq_true (by first | (with_reducible assumption) | assumption)) HC1.out
                            have HR709 := Aside0.mk (Kd.C_of_reads (h1 := fun _ => rfl) (hA64 _ (Kd.reads_of_C HR1.out)))
                            have HC709 := Aside0.mk hC64
                            clear hA64 hC64 hi064 hsz64
                            go_wp2_with (first | ((with_reducible refine gate_callee (f := 49) rfl ?_); refine goesL_ (some 145) rfl rfl Try.func49 (by kernel_rfl) rfl #[.slice A1 (l1.take ((ji60) : Int).toNat).length c1, .slice none 0 0] rfl (by (try simp only [List.map_toArray, List.map_cons, List.map_nil]); first | done | (rw [show (l1.take ((ji60) : Int).toNat).length = (ji60).toNat from (by rw [List.length_take]; have h_ : ((ji60) : Int) ≤ (l1.length : Int) := (by first | exact of_decide_eq_true (by first | (with_reducible assumption) | assumption) | (rw [← hji60]; unfold mn; split <;> omega)); omega)] <;> rfl) | (simp only [hji60]; rfl) | rfl | (simp only [List.length_drop, List.length_take]; rfl)) ?_; (refine (field_Sum.calls k3 (fun k_ => k_ < w.heap.size) _ _ (l1.take ((ji60) : Int).toNat) (fun k_ => False) _ _ ([] : List Int) t710 t713 _ ?side1 ?side2 A63.out).mono ?_); (case side1 => exact Kd.V_mk HC709.out (Kd.F_below (Kd.C_F (Kd.heap_int .u8) HR709.out) (by repeat (first | (with_reducible first | exact HB.out | apply below_alloc | apply pw_below_drewN | apply below_drew1) | exact HB.out)))); (case side2 => exact Kd.V_nil _ _ _ _ _); rintro e w65 ⟨v711, rfl, ho0, hb⟩; refine ⟨_, rfl, ?_⟩; have n0_ := Aside0.mk (Kd.R_elder' (by (with_reducible repeat (first | apply Kd.R_alloc | apply Kd.R_drewN | apply Kd.R_drew)); exact HO_10.out) (Kd.R_base ho0) hb); have n1_ := Aside0.mk (Kd.R_elder' (by (with_reducible repeat (first | apply Kd.R_alloc | apply Kd.R_drewN | apply Kd.R_drew)); exact HO_12.out) (Kd.R_base ho0) hb); have n2_ := Aside0.mk (Kd.R_below (by (with_reducible repeat (first | apply Kd.R_alloc | apply Kd.R_drewN | apply Kd.R_drew)); exact HO_14.out) hb); have n3_ := Aside0.mk (Kd.R_lower (Kd.R_new' (Kd.R_new' (Kd.R_mono (ok' := fun k_ => True) ho0 (fun _ hk_ => trivial)) (Kd.R_lt (by (with_reducible repeat (first | apply Kd.R_alloc | apply Kd.R_drewN | apply Kd.R_drew)); exact HO_10.out))) (Kd.R_lt (by (with_reducible repeat (first | apply Kd.R_alloc | apply Kd.R_drewN | apply Kd.R_drew)); exact HO_12.out))) (below_size (by repeat (first | (with_reducible first | exact HB.out | apply below_alloc | apply pw_below_drewN | apply below_drew1) | exact HB.out)))); have n4_ := Aside0.mk (below_step (by repeat (first | (with_reducible first | exact HB.out | apply below_alloc | apply pw_below_drewN | apply below_drew1) | exact HB.out)) hb); clear HO_10; clear HO_12; clear HO_14; clear HB; have HO_10 := n0_; have HO_12 := n1_; have HO_14 := n2_; have HO712 := n3_; have HB := n4_; clear n0_ n1_ n2_ n3_ n4_; (try clear hb); (try clear hb2); (try clear hk); (try clear hi); (try clear ho0)))
                            go_loopg [23, 24] k3 (fun kq v23 v24 w' => ∃ (x23_4 : List (S45)) (x24_4 : Int), v24 = .int .i64 x24_4 ∧ Aside0 (foghornlaw18_FieldRoots.l2 kq a2 t686 x16_3 t710 t713 x23_4 x24_4 = some r) ∧ Aside0 (kq ≤ k3) ∧ Aside0 (Kd.R (Kd.int .u8) 5 w' w.heap.size (fun k_ => some k_ ≠ (v711 : Value).ownBlock) v687 t686) ∧ Aside0 (Kd.R (Kd.int .u8) 5 w' w.heap.size (fun k_ => some k_ ≠ (v687 : Value).ownBlock) v711 t710) ∧ Aside0 (Kd.R k45 45 w' w.heap.size (fun _ => True) v23 x23_4) ∧ Aside0 (Below w.heap.size w w'))
                            case atStart => exact ⟨(([] : List (S45))), (0), (by first | rfl | (simp; done) | (simp [*]; done)), H', ⟨Nat.le_refl _⟩, ⟨by (with_reducible repeat (first | apply Kd.R_alloc | apply Kd.R_drewN | apply Kd.R_drew)); exact Kd.R_mono HO_10.out (fun _ hk => hk.2)⟩, ⟨by (with_reducible repeat (first | apply Kd.R_alloc | apply Kd.R_drewN | apply Kd.R_drew)); exact Kd.R_mono HO712.out (fun _ hk => hk.1.2)⟩, ⟨by first | exact Kd.R_nil _ _ _ _ _ | exact Kd.N_nil _ _ _ _ _ | exact Kd.V_nil _ _ _ _ _ | exact Kd.Q_nil _ _ _ _ _ | exact Kd.S_nil _ _ _ _ _⟩, ⟨by repeat (first | (with_reducible first | exact HB.out | apply below_alloc | apply pw_below_drewN | apply below_drew1) | exact HB.out)⟩⟩
                            case round =>
                              clear H'
                              try clear c1
                              try clear c2
                              try clear p2
                              try clear c3
                              try clear p3
                              try clear q3
                              try clear hx3
                              try clear hf3
                              try clear c4
                              try clear c5
                              try clear c5b0
                              try clear c5b1
                              try clear c6
                              try clear c6b0
                              try clear c6b1
                              try clear p6
                              try clear q6
                              try clear hx6
                              try clear p7
                              try clear q7
                              try clear hx7
                              try clear c12
                              try clear c16
                              try clear c16b0
                              try clear c16b1
                              try clear c17
                              try clear c17b0
                              try clear c17b1
                              try clear c18
                              try clear c18b0
                              try clear c18b1
                              try clear c20
                              try clear c20b0
                              try clear c20b1
                              try clear c22
                              try clear c25
                              try clear c25b0
                              try clear c26
                              try clear c26b0
                              try clear c27
                              try clear c27b0
                              try clear c28
                              try clear c28b0
                              try clear c29
                              try clear c29b0
                              try clear p30
                              try clear q30
                              try clear hx30
                              try clear hf30
                              try clear c34
                              try clear c34b0
                              try clear c36
                              try clear c36b0
                              try clear c37
                              try clear c37b0
                              try clear c40
                              try clear c42
                              try clear c42b0
                              try clear c42b1
                              try clear c43
                              try clear c43b0
                              try clear c44
                              try clear c44b0
                              try clear c45
                              try clear c45b0
                              try clear c46
                              try clear c46b0
                              try clear c46b1
                              try clear c46b2
                              try clear c47
                              try clear c47b0
                              try clear c47b1
                              try clear c47b2
                              try clear c49
                              try clear c51
                              try clear c52
                              try clear c52b0
                              try clear c52b1
                              try clear c53
                              try clear c53b0
                              try clear c54
                              try clear c54b0
                              try clear c55
                              try clear c55b0
                              try clear c56
                              try clear c56b0
                              try clear c56b1
                              try clear c56b2
                              try clear c61
                              try clear c61b0
                              try clear c61b1
                              try clear c62
                              try clear c62b0
                              try clear c62b1
                              try clear p64
                              try clear hx30_0
                              try clear hx698_0
                              try clear hx699_0
                              try clear hx701_0
                              try clear hx704_0
                              try clear hx705_0
                              try clear hx708_0
                              try clear p2
                              try clear p3
                              try clear p30
                              try clear p6
                              try clear p698
                              try clear p699
                              try clear p7
                              try clear p701
                              try clear p704
                              try clear p705
                              try clear p708
                              try clear q3
                              try clear q30
                              try clear q6
                              try clear q698
                              try clear q699
                              try clear q7
                              try clear q701
                              try clear q704
                              try clear q705
                              try clear q708
                              obtain ⟨x23_4, x24_4, rfl, HA, HK4, HO_10, HO_21, HO_23, HB⟩ := hrel
                              cases gk with
                              | zero => exact absurd HA.out (by simp [foghornlaw18_FieldRoots.l2])
                              | succ k4 =>
                                have H := HA.out
                                clear HA
                                simp only [foghornlaw18_FieldRoots.l2] at H
                                by_cases c66 : x24_4 < (wrap64 ((t710.length : Int) + 3))
                                · rw [if_pos c66] at H
                                  have c66b0 : decide (x24_4 < (wrap64 ((t710.length : Int) + 3))) = true := decide_eq_true c66
                                  clear c66
                                  replace H := Option.bind_eq_some_iff.mp H
                                  obtain ⟨⟨t714, t715⟩, A670, H⟩ := H
                                  replace H : (if t715 = 0 then (if x23_4.length < 70368744177664 then (foghornlaw18_FieldRoots.l2 k4 a2 t686 x16_3 t710 t713 (x23_4 ++ [(⟨(a2 + x24_4) % 256, t714⟩ : S45)]) (wrap64 (x24_4 + 1))) else (none)) else (some false)) = some r := H
                                  have A67 := Aside0.mk A670
                                  clear A670
                                  by_cases c68 : t715 = 0
                                  · rw [if_pos c68] at H
                                    have c68b0 : (t715 == 0) = true := beq_iff_eq.mpr c68
                                    have c68b1 : (t715 != 0) = false := bne_eq_false_iff_eq.mpr c68
                                    clear c68
                                    by_cases c69 : x23_4.length < 70368744177664
                                    · rw [if_pos c69] at H
                                      have LMc69 := Aside0.mk c69
                                      clear c69
                                      obtain ⟨y716, hy716⟩ : ∃ y_ : List (S45), y_ = (x23_4 ++ [(⟨(a2 + x24_4) % 256, t714⟩ : S45)]) := ⟨_, rfl⟩
                                      replace H : (foghornlaw18_FieldRoots.l2 k4 a2 t686 x16_3 t710 t713 y716 (wrap64 (x24_4 + 1))) = some r := by first | (rw [hy716]; with_reducible exact H) | (have H2_ := (Option.bind_some _ _).symm.trans H; rw [hy716]; with_reducible exact H2_) | (have H2_ := (Option.bind_some _ _).symm.trans H; with_reducible exact H2_) | with_reducible exact H | (rw [hy716]; exact H) | exact H
                                      have Ny716 := Aside0.mk hy716
                                      clear hy716
                                      as_aux_lemma =>
                                        have H' := Aside0.mk H
                                        clear H
                                        obtain ⟨Ao70, co70, eo70⟩ := Kd.R_slice HO_21.out
                                        subst eo70
                                        go_wp2_with (first | ((with_reducible refine gate_callee (f := 51) rfl ?_); refine goesL_ (some 162) rfl rfl Try.func51 (by kernel_rfl) rfl #[.slice Ao70 t710.length co70, .int .u8 ((a2 + x24_4) % 256)] rfl (by (try simp only [List.map_toArray, List.map_cons, List.map_nil]); first | done | (exact (show (#[.slice Ao70 t710.length co70, .int .u8 ((a2 + ((x24_4) % 256)) % 256)] : Array Value) = #[.slice Ao70 t710.length co70, .int .u8 ((a2 + x24_4) % 256)] from by simp only [Int.add_emod_emod, Int.emod_add_emod])) | (exact (show (#[.slice Ao70 t710.length co70, .int .u8 ((a2 + x24_4) % 256)] : Array Value) = #[.slice Ao70 t710.length co70, .int .u8 ((a2 + ((x24_4) % 256)) % 256)] from by simp only [Int.add_emod_emod, Int.emod_add_emod])) | rfl | (simp only [List.length_drop, List.length_take]; rfl)) ?_; (with_reducible refine (field_At.calls (fun k_ => some k_ = (.slice Ao70 t710.length co70 : Value).ownBlock) _ _ t710 ((a2 + x24_4) % 256) t714 t715 _ ?side1 A67.out).mono ?_); (case side1 => exact Kd.R_V (Kd.R_tight rfl (Kd.R_apart' (HO_21.out) (Kd.R_typed HO_23.out) (by decide)))); rintro e w71 ⟨rfl, hb⟩; refine ⟨_, rfl, ?_⟩; have n0_ := Aside0.mk (Kd.R_below (by (with_reducible repeat (first | apply Kd.R_alloc | apply Kd.R_drewN | apply Kd.R_drew)); exact HO_10.out) hb); have n1_ := Aside0.mk (Kd.R_below (by (with_reducible repeat (first | apply Kd.R_alloc | apply Kd.R_drewN | apply Kd.R_drew)); exact HO_21.out) hb); have n2_ := Aside0.mk (Kd.R_below (by (with_reducible repeat (first | apply Kd.R_alloc | apply Kd.R_drewN | apply Kd.R_drew)); exact HO_23.out) hb); have n3_ := Aside0.mk (below_step (by repeat (first | (with_reducible first | exact HB.out | apply below_alloc | apply pw_below_drewN | apply below_drew1) | exact HB.out)) hb); clear HO_10; clear HO_21; clear HO_23; clear HB; have HO_10 := n0_; have HO_21 := n1_; have HO_23 := n2_; have HB := n3_; clear n0_ n1_ n2_ n3_; (try clear hb); (try clear hb2); (try clear hk); (try clear hi)) | ((with_reducible refine gate_builtin (b := .append) (xs := #[.tmp 167, .tmp 171]) rfl ?_); (try (refine gate_guard (by rfl) ?_; dsimp only)); at_builtin; refine Kd.R_append k45 (w0 := w) w.heap.size rfl (.tmp 167) (.tmp 171) 42 45 (.agg #[(.int .u8 0), (.int .u8 0)]) 2 rfl Try.underlying42 info45 rfl (by decide) (by omega) u23 x23_4 (⟨(a2 + x24_4) % 256, t714⟩ : S45) [.int .u8 ((a2 + x24_4) % 256), .int .u8 t714] (fun _ => True) (fun _ => False) rfl rfl ?aP (fun _ hk => hk.elim) ?aF ?aO ?aB ?aS ?aL ?_; (case aP => exact k45_mkM _ _ _ (⟨(a2 + x24_4) % 256, t714⟩ : S45)); (case aB => exact (by repeat (first | (with_reducible first | exact HB.out | apply below_alloc | apply pw_below_drewN | apply below_drew1) | exact HB.out))); (case aF => exact (fun _ _ => trivial)); (case aO => exact (by (with_reducible repeat (first | apply Kd.R_alloc | apply Kd.R_drewN | apply Kd.R_drew)); exact HO_23.out)); (case aS => exact (below_size (by repeat (first | (with_reducible first | exact HB.out | apply below_alloc | apply pw_below_drewN | apply below_drew1) | exact HB.out)))); (case aL => have := LMc69.out; omega); intro v717 w72 ho hb hg hat; rw [← Ny716.out] at ho; have n0_ := Aside0.mk (Kd.R_over' (by (with_reducible repeat (first | apply Kd.R_alloc | apply Kd.R_drewN | apply Kd.R_drew)); exact HO_10.out) (Kd.R_typed (by (with_reducible repeat (first | apply Kd.R_alloc | apply Kd.R_drewN | apply Kd.R_drew)); exact HO_23.out)) (by decide) hg); have n1_ := Aside0.mk (Kd.R_over' (by (with_reducible repeat (first | apply Kd.R_alloc | apply Kd.R_drewN | apply Kd.R_drew)); exact HO_21.out) (Kd.R_typed (by (with_reducible repeat (first | apply Kd.R_alloc | apply Kd.R_drewN | apply Kd.R_drew)); exact HO_23.out)) (by decide) hg); have n2_ := Aside0.mk (hb); have n3_ := Aside0.mk (ho); clear HO_10; clear HO_21; clear HB; clear HO_23; have HO_10 := n0_; have HO_21 := n1_; have HB := n2_; have HO718 := n3_; clear n0_ n1_ n2_ n3_; clear ho hb hg hat))
                                        first | go_roundg k4 | (simp only [add_plain] at *; go_roundg k4)
                                        case measure => have := HJ9.out; have := HK2.out; have := HK3.out; have := HK4.out; omega
                                        case rel => exact ⟨(y716), (wrap64 (x24_4 + 1)), (by first | rfl | (simp; done) | (simp [*]; done)), H', ⟨by have := HJ9.out; have := HK2.out; have := HK3.out; have := HK4.out; omega⟩, ⟨by (with_reducible repeat (first | apply Kd.R_alloc | apply Kd.R_drewN | apply Kd.R_drew)); exact HO_10.out⟩, ⟨by (with_reducible repeat (first | apply Kd.R_alloc | apply Kd.R_drewN | apply Kd.R_drew)); exact HO_21.out⟩, ⟨by (with_reducible repeat (first | apply Kd.R_alloc | apply Kd.R_drewN | apply Kd.R_drew)); exact HO718.out⟩, ⟨by repeat (first | (with_reducible first | exact HB.out | apply below_alloc | apply pw_below_drewN | apply below_drew1) | exact HB.out)⟩⟩
                                    · rw [if_neg c69] at H
                                      exact absurd H (by simp)
                                  · rw [if_neg c68] at H
                                    have c68b0 : (t715 == 0) = false := beq_eq_false_iff_ne.mpr c68
                                    have c68b1 : (t715 != 0) = true := bne_iff_ne.mpr c68
                                    as_aux_lemma =>
                                      exact absurd ((Option.some.inj H).trans HQ_.out) (by decide)
                                · rw [if_neg c66] at H
                                  have c66b0 : decide (x24_4 < (wrap64 ((t710.length : Int) + 3))) = false := decide_eq_false c66
                                  clear c66
                                  replace H := Option.bind_eq_some_iff.mp H
                                  obtain ⟨⟨t719, t720⟩, A730, H⟩ := H
                                  replace H : (if 0 < (x23_4.length : Int) then (if x23_4.length < 70368744177664 then ((field_Through.f k4 (x23_4 ++ [(⟨(rd_T45 x23_4 0).f0, (rd_T45 x23_4 0).f1⟩ : S45)])).bind fun bt727 => (if x16_3 = (t686.length : Int) then (if t713 = 0 then (if t720 = 0 then ((foghornlaw18_same.f k4 t719 t710).bind fun t731 => (if t731 = true then (if bt727.2 = 1 then (if (bt727.1.length : Int) = 0 then ((foghornlaw18_awake.f k4).bind fun t732 => (some t732)) else (some false)) else (some false)) else (some false))) else (some false)) else (some false)) else (some false))) else (none)) else (none)) = some r := H
                                  have A73 := Aside0.mk A730
                                  clear A730
                                  by_cases c74 : 0 < (x23_4.length : Int)
                                  · rw [if_pos c74] at H
                                    have c74b0 : decide (0 < (x23_4.length : Int)) = true := decide_eq_true c74
                                    have c74b1 : decide (0 < x23_4.length) = true := decide_eq_true (by omega)
                                    clear c74
                                    by_cases c75 : x23_4.length < 70368744177664
                                    · rw [if_pos c75] at H
                                      have LMc75 := Aside0.mk c75
                                      clear c75
                                      obtain ⟨y724, hy724⟩ : ∃ y_ : List (S45), y_ = (x23_4 ++ [(⟨(rd_T45 x23_4 0).f0, (rd_T45 x23_4 0).f1⟩ : S45)]) := ⟨_, rfl⟩
                                      replace H : ((field_Through.f k4 y724).bind fun bt727 => (if x16_3 = (t686.length : Int) then (if t713 = 0 then (if t720 = 0 then ((foghornlaw18_same.f k4 t719 t710).bind fun t731 => (if t731 = true then (if bt727.2 = 1 then (if (bt727.1.length : Int) = 0 then ((foghornlaw18_awake.f k4).bind fun t732 => (some t732)) else (some false)) else (some false)) else (some false))) else (some false)) else (some false)) else (some false))) = some r := by first | (rw [hy724]; with_reducible exact H) | (have H2_ := (Option.bind_some _ _).symm.trans H; rw [hy724]; with_reducible exact H2_) | (have H2_ := (Option.bind_some _ _).symm.trans H; with_reducible exact H2_) | with_reducible exact H | (rw [hy724]; exact H) | exact H
                                      have Ny724 := Aside0.mk hy724
                                      clear hy724
                                      replace H := Option.bind_eq_some_iff.mp H
                                      obtain ⟨⟨t727, t728⟩, A760, H⟩ := H
                                      replace H : (if x16_3 = (t686.length : Int) then (if t713 = 0 then (if t720 = 0 then ((foghornlaw18_same.f k4 t719 t710).bind fun t731 => (if t731 = true then (if t728 = 1 then (if (t727.length : Int) = 0 then ((foghornlaw18_awake.f k4).bind fun t732 => (some t732)) else (some false)) else (some false)) else (some false))) else (some false)) else (some false)) else (some false)) = some r := H
                                      have A76 := Aside0.mk A760
                                      clear A760
                                      by_cases c77 : x16_3 = (t686.length : Int)
                                      · rw [if_pos c77] at H
                                        have c77b0 : (x16_3 == (t686.length : Int)) = true := beq_iff_eq.mpr c77
                                        have c77b1 : (x16_3 != (t686.length : Int)) = false := bne_eq_false_iff_eq.mpr c77
                                        clear c77
                                        by_cases c78 : t713 = 0
                                        · rw [if_pos c78] at H
                                          have c78b0 : (t713 == 0) = true := beq_iff_eq.mpr c78
                                          have c78b1 : (t713 != 0) = false := bne_eq_false_iff_eq.mpr c78
                                          clear c78
                                          by_cases c79 : t720 = 0
                                          · rw [if_pos c79] at H
                                            have c79b0 : (t720 == 0) = true := beq_iff_eq.mpr c79
                                            have c79b1 : (t720 != 0) = false := bne_eq_false_iff_eq.mpr c79
                                            clear c79
                                            replace H := Option.bind_eq_some_iff.mp H
                                            obtain ⟨t731, A800, H⟩ := H
                                            replace H : (if t731 = true then (if t728 = 1 then (if (t727.length : Int) = 0 then ((foghornlaw18_awake.f k4).bind fun t732 => (some t732)) else (some false)) else (some false)) else (some false)) = some r := H
                                            have A80 := Aside0.mk A800
                                            clear A800
                                            by_cases c81 : t731 = true
                                            · subst c81
                                              have H1 : (if t728 = 1 then (if (t727.length : Int) = 0 then ((foghornlaw18_awake.f k4).bind fun t732 => (some t732)) else (some false)) else (some false)) = some r := by rw [if_pos rfl] at H; exact H
                                              clear H
                                              have H := H1
                                              clear H1
                                              by_cases c82 : t728 = 1
                                              · rw [if_pos c82] at H
                                                have c82b0 : (t728 == 1) = true := beq_iff_eq.mpr c82
                                                have c82b1 : (t728 != 1) = false := bne_eq_false_iff_eq.mpr c82
                                                clear c82
                                                by_cases c83 : (t727.length : Int) = 0
                                                · rw [if_pos c83] at H
                                                  have c83b0 : ((t727.length : Int) == 0) = true := beq_iff_eq.mpr c83
                                                  have c83b1 : ((t727.length : Int) != 0) = false := bne_eq_false_iff_eq.mpr c83
                                                  clear c83
                                                  replace H := Option.bind_eq_some_iff.mp H
                                                  obtain ⟨t732, A840, H⟩ := H
                                                  replace H : (some t732) = some r := H
                                                  have A84 := Aside0.mk A840
                                                  clear A840
                                                  as_aux_lemma =>
                                                    obtain rfl := Option.some.inj H
                                                    obtain ⟨Ao85, co85, eo85⟩ := Kd.R_slice HO_21.out
                                                    subst eo85
                                                    obtain ⟨Ao86, co86, eo86⟩ := Kd.R_slice HO_23.out
                                                    subst eo86
                                                    go_wp2_with (first | ((with_reducible refine gate_callee (f := 33) rfl ?_); refine goesL_ (some 175) rfl rfl Try.func33 (by kernel_rfl) rfl #[.slice Ao86 x23_4.length co86] rfl (by (try simp only [List.map_toArray, List.map_cons, List.map_nil]); first | done | rfl | (simp only [List.length_drop, List.length_take]; rfl)) ?_; (with_reducible refine (field_Through.calls k4 _ _ x23_4 t719 t720 _ ?side1 ?side2 A73.out).mono ?_); (case side1 => repeat (first | exact (Kd.R_reads' HO_23.out).2.2 | (with_reducible refine Kd.C_alloc ?_ _) | (with_reducible refine Kd.C_drewN ?_ _) | (with_reducible refine Kd.C_drew ?_))); (case side2 => exact (Kd.R_reads' HO_23.out).2.1); rintro e w87 ⟨v721, rfl, ho0, hb⟩; refine ⟨_, rfl, ?_⟩; have n0_ := Aside0.mk (Kd.R_elder' (by (with_reducible repeat (first | apply Kd.R_alloc | apply Kd.R_drewN | apply Kd.R_drew)); exact HO_10.out) (Kd.R_base ho0) hb); have n1_ := Aside0.mk (Kd.R_elder' (by (with_reducible repeat (first | apply Kd.R_alloc | apply Kd.R_drewN | apply Kd.R_drew)); exact HO_21.out) (Kd.R_base ho0) hb); have n2_ := Aside0.mk (Kd.R_below (by (with_reducible repeat (first | apply Kd.R_alloc | apply Kd.R_drewN | apply Kd.R_drew)); exact HO_23.out) hb); have n3_ := Aside0.mk (Kd.R_lower (Kd.R_new' (Kd.R_new' ho0 (Kd.R_lt (by (with_reducible repeat (first | apply Kd.R_alloc | apply Kd.R_drewN | apply Kd.R_drew)); exact HO_10.out))) (Kd.R_lt (by (with_reducible repeat (first | apply Kd.R_alloc | apply Kd.R_drewN | apply Kd.R_drew)); exact HO_21.out))) (below_size (by repeat (first | (with_reducible first | exact HB.out | apply below_alloc | apply pw_below_drewN | apply below_drew1) | exact HB.out)))); have n4_ := Aside0.mk (below_step (by repeat (first | (with_reducible first | exact HB.out | apply below_alloc | apply pw_below_drewN | apply below_drew1) | exact HB.out)) hb); clear HO_10; clear HO_21; clear HO_23; clear HB; have HO_10 := n0_; have HO_21 := n1_; have HO_23 := n2_; have HO722 := n3_; have HB := n4_; clear n0_ n1_ n2_ n3_ n4_; (try clear hb); (try clear hb2); (try clear hk); (try clear hi); (try clear ho0); have p723 : 0 ≤ (0 : Int) := (by omega); have q723 : 0 < (x23_4.length : Int) := of_decide_eq_true (by first | (with_reducible assumption) | assumption); obtain ⟨ad723, e723, hx723_0, hx723_1⟩ := at_T45 (Kd.R_reads' HO_23.out).2.2 0 p723 q723; cases e723; have qi723 : (0 < x23_4.length) = True := eq_true (by omega); (try rw [show ((0 : Int)).toNat = 0 from rfl] at hx723_0); (try rw [show 0 * 2 = 0 from rfl] at hx723_0); (try rw [Addr.add_zero'] at hx723_0); (try rw [show ((0 : Int)).toNat = 0 from rfl] at hx723_1); (try rw [show 0 * 2 = 0 from rfl] at hx723_1); (try rw [Addr.add_zero'] at hx723_1); replace p723 := eq_true p723; replace q723 := eq_true q723) | ((with_reducible refine gate_builtin (b := .append) (xs := #[.tmp 179, .tmp 183]) rfl ?_); (try (refine gate_guard (by rfl) ?_; dsimp only)); at_builtin; refine Kd.R_append k45 (w0 := w) w.heap.size rfl (.tmp 179) (.tmp 183) 42 45 (.agg #[(.int .u8 0), (.int .u8 0)]) 2 rfl Try.underlying42 info45 rfl (by decide) (by omega) (.slice (some ad723) x23_4.length co86) x23_4 (⟨(rd_T45 x23_4 0).f0, (rd_T45 x23_4 0).f1⟩ : S45) [.int .u8 ((rd_T45 x23_4 0).f0), .int .u8 ((rd_T45 x23_4 0).f1)] (fun _ => True) (fun _ => False) rfl rfl ?aP (fun _ hk => hk.elim) ?aF ?aO ?aB ?aS ?aL ?_; (case aP => exact k45_mkM _ _ _ (⟨(rd_T45 x23_4 0).f0, (rd_T45 x23_4 0).f1⟩ : S45)); (case aB => exact (by repeat (first | (with_reducible first | exact HB.out | apply below_alloc | apply pw_below_drewN | apply below_drew1) | exact HB.out))); (case aF => exact (fun _ _ => trivial)); (case aO => exact (by (with_reducible repeat (first | apply Kd.R_alloc | apply Kd.R_drewN | apply Kd.R_drew)); exact HO_23.out)); (case aS => exact (below_size (by repeat (first | (with_reducible first | exact HB.out | apply below_alloc | apply pw_below_drewN | apply below_drew1) | exact HB.out)))); (case aL => have := LMc75.out; omega); intro v725 w88 ho hb hg hat; rw [← Ny724.out] at ho; have n0_ := Aside0.mk (Kd.R_over' (by (with_reducible repeat (first | apply Kd.R_alloc | apply Kd.R_drewN | apply Kd.R_drew)); exact HO_10.out) (Kd.R_typed (by (with_reducible repeat (first | apply Kd.R_alloc | apply Kd.R_drewN | apply Kd.R_drew)); exact HO_23.out)) (by decide) hg); have n1_ := Aside0.mk (Kd.R_over' (by (with_reducible repeat (first | apply Kd.R_alloc | apply Kd.R_drewN | apply Kd.R_drew)); exact HO_21.out) (Kd.R_typed (by (with_reducible repeat (first | apply Kd.R_alloc | apply Kd.R_drewN | apply Kd.R_drew)); exact HO_23.out)) (by decide) hg); have n2_ := Aside0.mk (Kd.R_over' (by (with_reducible repeat (first | apply Kd.R_alloc | apply Kd.R_drewN | apply Kd.R_drew)); exact HO722.out) (Kd.R_typed (by (with_reducible repeat (first | apply Kd.R_alloc | apply Kd.R_drewN | apply Kd.R_drew)); exact HO_23.out)) (by decide) hg); have n3_ := Aside0.mk (hb); have n4_ := Aside0.mk (ho); clear HO_10; clear HO_21; clear HO722; clear HB; clear HO_23; have HO_10 := n0_; have HO_21 := n1_; have HO722 := n2_; have HB := n3_; have HO726 := n4_; clear n0_ n1_ n2_ n3_ n4_; clear ho hb hg hat; obtain ⟨Ao89, co89, eo89⟩ := Kd.R_slice HO726.out; subst eo89) | ((with_reducible refine gate_callee (f := 33) rfl ?_); refine goesL_ (some 185) rfl rfl Try.func33 (by kernel_rfl) rfl #[.slice Ao89 y724.length co89] rfl (by (try simp only [List.map_toArray, List.map_cons, List.map_nil]); first | done | rfl | (simp only [List.length_drop, List.length_take]; rfl)) ?_; (with_reducible refine (field_Through.calls k4 _ _ y724 t727 t728 _ ?side1 ?side2 A76.out).mono ?_); (case side1 => repeat (first | exact (Kd.R_reads' HO726.out).2.2 | (with_reducible refine Kd.C_alloc ?_ _) | (with_reducible refine Kd.C_drewN ?_ _) | (with_reducible refine Kd.C_drew ?_))); (case side2 => exact (Kd.R_reads' HO726.out).2.1); rintro e w90 ⟨v729, rfl, ho0, hb⟩; refine ⟨_, rfl, ?_⟩; have n0_ := Aside0.mk (Kd.R_elder' (by (with_reducible repeat (first | apply Kd.R_alloc | apply Kd.R_drewN | apply Kd.R_drew)); exact HO_10.out) (Kd.R_base ho0) hb); have n1_ := Aside0.mk (Kd.R_elder' (by (with_reducible repeat (first | apply Kd.R_alloc | apply Kd.R_drewN | apply Kd.R_drew)); exact HO_21.out) (Kd.R_base ho0) hb); have n2_ := Aside0.mk (Kd.R_elder' (by (with_reducible repeat (first | apply Kd.R_alloc | apply Kd.R_drewN | apply Kd.R_drew)); exact HO722.out) (Kd.R_base ho0) hb); have n3_ := Aside0.mk (Kd.R_below (by (with_reducible repeat (first | apply Kd.R_alloc | apply Kd.R_drewN | apply Kd.R_drew)); exact HO726.out) hb); have n4_ := Aside0.mk (Kd.R_lower (Kd.R_new' (Kd.R_new' (Kd.R_new' ho0 (Kd.R_lt (by (with_reducible repeat (first | apply Kd.R_alloc | apply Kd.R_drewN | apply Kd.R_drew)); exact HO_10.out))) (Kd.R_lt (by (with_reducible repeat (first | apply Kd.R_alloc | apply Kd.R_drewN | apply Kd.R_drew)); exact HO_21.out))) (Kd.R_lt (by (with_reducible repeat (first | apply Kd.R_alloc | apply Kd.R_drewN | apply Kd.R_drew)); exact HO722.out))) (below_size (by repeat (first | (with_reducible first | exact HB.out | apply below_alloc | apply pw_below_drewN | apply below_drew1) | exact HB.out)))); have n5_ := Aside0.mk (below_step (by repeat (first | (with_reducible first | exact HB.out | apply below_alloc | apply pw_below_drewN | apply below_drew1) | exact HB.out)) hb); clear HO_10; clear HO_21; clear HO722; clear HO726; clear HB; have HO_10 := n0_; have HO_21 := n1_; have HO722 := n2_; have HO726 := n3_; have HO730 := n4_; have HB := n5_; clear n0_ n1_ n2_ n3_ n4_ n5_; (try clear hb); (try clear hb2); (try clear hk); (try clear hi); (try clear ho0); obtain ⟨Ao91, co91, eo91⟩ := Kd.R_slice HO_10.out; subst eo91; obtain ⟨Ao92, co92, eo92⟩ := Kd.R_slice HO722.out; subst eo92) | (go_at_call 54; (with_reducible refine (foghornlaw18_same.calls k4 _ _ t719 _ _ t710 true _ ?side1 ?side2 ?side3 ?side4 A80.out).mono ?_); (case side1 => repeat (first | exact (Kd.R_reads' HO722.out).2.2 | (with_reducible refine Kd.C_alloc ?_ _) | (with_reducible refine Kd.C_drewN ?_ _) | (with_reducible refine Kd.C_drew ?_))); (case side2 => exact (Kd.R_reads' HO722.out).2.1); (case side3 => repeat (first | exact (Kd.R_reads' HO_21.out).2.2 | (with_reducible refine Kd.C_alloc ?_ _) | (with_reducible refine Kd.C_drewN ?_ _) | (with_reducible refine Kd.C_drew ?_))); (case side4 => exact (Kd.R_reads' HO_21.out).2.1); rintro e w' ⟨rfl, ⟨nd, rfl⟩⟩; obtain ⟨Ao93, co93, eo93⟩ := Kd.R_slice HO730.out; subst eo93) | (go_at_call 32; (with_reducible refine (foghornlaw18_awake.calls k4  t732 _ A84.out).mono ?_); rintro e w94 ⟨rfl, hb⟩; have n0_ := Aside0.mk (Kd.R_below (by (with_reducible repeat (first | apply Kd.R_alloc | apply Kd.R_drewN | apply Kd.R_drew)); exact HO_10.out) hb); have n1_ := Aside0.mk (Kd.R_below (by (with_reducible repeat (first | apply Kd.R_alloc | apply Kd.R_drewN | apply Kd.R_drew)); exact HO_21.out) hb); have n2_ := Aside0.mk (Kd.R_below (by (with_reducible repeat (first | apply Kd.R_alloc | apply Kd.R_drewN | apply Kd.R_drew)); exact HO722.out) hb); have n3_ := Aside0.mk (Kd.R_below (by (with_reducible repeat (first | apply Kd.R_alloc | apply Kd.R_drewN | apply Kd.R_drew)); exact HO726.out) hb); have n4_ := Aside0.mk (Kd.R_below (by (with_reducible repeat (first | apply Kd.R_alloc | apply Kd.R_drewN | apply Kd.R_drew)); exact HO730.out) hb); have n5_ := Aside0.mk (below_step (by repeat (first | (with_reducible first | exact HB.out | apply below_alloc | apply pw_below_drewN | apply below_drew1) | exact HB.out)) hb); clear HO_10; clear HO_21; clear HO722; clear HO726; clear HO730; clear HB; have HO_10 := n0_; have HO_21 := n1_; have HO722 := n2_; have HO726 := n3_; have HO730 := n4_; have HB := n5_; clear n0_ n1_ n2_ n3_ n4_ n5_; (try clear hb); (try clear hb2); (try clear hk); (try clear hi)))
                                                    go_ret
                                                    exact ⟨by first | rfl | (simp [errW_none, errW_some] <;> rfl) | (simp only [← hji4, ← hji60]; first | rfl | (simp [errW_none, errW_some] <;> rfl)) | (simp [*, errW_none, errW_some] <;> rfl), by repeat (first | (with_reducible first | exact HB.out | apply below_alloc | apply pw_below_drewN | apply below_drew1) | exact HB.out)⟩
                                                · rw [if_neg c83] at H
                                                  have c83b0 : ((t727.length : Int) == 0) = false := beq_eq_false_iff_ne.mpr c83
                                                  have c83b1 : ((t727.length : Int) != 0) = true := bne_iff_ne.mpr c83
                                                  have c83b2 : ¬ (t727 = []) := fun h_ => c83 (by rw [h_]; rfl)
                                                  as_aux_lemma =>
                                                    exact absurd ((Option.some.inj H).trans HQ_.out) (by decide)
                                              · rw [if_neg c82] at H
                                                have c82b0 : (t728 == 1) = false := beq_eq_false_iff_ne.mpr c82
                                                have c82b1 : (t728 != 1) = true := bne_iff_ne.mpr c82
                                                as_aux_lemma =>
                                                  exact absurd ((Option.some.inj H).trans HQ_.out) (by decide)
                                            · replace c81 := Bool.eq_false_iff.mpr c81
                                              subst c81
                                              have H1 : (some false) = some r := by rw [if_neg (show ¬ (false = true) by decide)] at H; exact H
                                              clear H
                                              have H := H1
                                              clear H1
                                              as_aux_lemma =>
                                                exact absurd ((Option.some.inj H).trans HQ_.out) (by decide)
                                          · rw [if_neg c79] at H
                                            have c79b0 : (t720 == 0) = false := beq_eq_false_iff_ne.mpr c79
                                            have c79b1 : (t720 != 0) = true := bne_iff_ne.mpr c79
                                            as_aux_lemma =>
                                              exact absurd ((Option.some.inj H).trans HQ_.out) (by decide)
                                        · rw [if_neg c78] at H
                                          have c78b0 : (t713 == 0) = false := beq_eq_false_iff_ne.mpr c78
                                          have c78b1 : (t713 != 0) = true := bne_iff_ne.mpr c78
                                          as_aux_lemma =>
                                            exact absurd ((Option.some.inj H).trans HQ_.out) (by decide)
                                      · rw [if_neg c77] at H
                                        have c77b0 : (x16_3 == (t686.length : Int)) = false := beq_eq_false_iff_ne.mpr c77
                                        have c77b1 : (x16_3 != (t686.length : Int)) = true := bne_iff_ne.mpr c77
                                        as_aux_lemma =>
                                          exact absurd ((Option.some.inj H).trans HQ_.out) (by decide)
                                    · rw [if_neg c75] at H
                                      exact absurd H (by simp)
                                  · rw [if_neg c74] at H
                                    exact absurd H (by simp)
                          · rw [if_neg c62] at H
                            exact absurd H (by simp)
                        · rw [if_neg c61] at H
                          exact absurd H (by simp)
    · rw [if_neg c6] at H
      exact absurd H (by simp)
  · rw [if_neg c5] at H
    exact absurd H (by simp)

theorem foghornlaw18_FieldRoots.walk (P : foghornlaw18_FieldRoots.Pure) (a0 : Option Addr) (len0 cap0 : Nat) (z0 : List Int) (a1 : Option Addr) (len1 cap1 : Nat) (z1 : List Int) (a2 : Int) (w : World) (w0 : (a0 = none ∧ len0 = 0 ∧ cap0 = 0 ∧ z0 = []) ∨ ∃ x, a0 = some x ∧ len0 ≤ cap0 ∧ cap0 ≤ maxLen ∧ z0.length = cap0 ∧ (∀ i, i < z0.length → w.cell? (x.add i) = some (.int .u8 (z0.getD i 0))) ∧ ∀ n ∈ z0, (Lit.int .u8 n).wf = true) (y0 : len0 * 1 ≤ 140737488351232) (w1 : (a1 = none ∧ len1 = 0 ∧ cap1 = 0 ∧ z1 = []) ∨ ∃ x, a1 = some x ∧ len1 ≤ cap1 ∧ cap1 ≤ maxLen ∧ z1.length = cap1 ∧ (∀ i, i < z1.length → w.cell? (x.add i) = some (.int .u8 (z1.getD i 0))) ∧ ∀ n ∈ z1, (Lit.int .u8 n).wf = true) (y1 : len1 * 1 ≤ 140737488351232) (w2 : (Lit.int .u8 a2).wf = true) :
    Calls Try.prog 12 #[.slice a0 len0 cap0, .slice a1 len1 cap1, .int .u8 a2] w fun e w' => e = .returned (.bool true) ∧ Below w.heap.size w w' := by
  obtain ⟨l0, rfl, hr0, hm0, hw0, hc0⟩ := ReadsInt.ofRowC w0
  obtain ⟨l1, rfl, hr1, hm1, hw1, hc1⟩ := ReadsInt.ofRowC w1
  obtain ⟨k, h⟩ := P l0 l1 a2 hm0 y0 hw0 hm1 y1 hw1 w2
  refine (foghornlaw18_FieldRoots.calls k _ _ l0 _ _ l1 a2 true w (Kd.C_of_reads (d := (0 : Int)) (h1 := fun _ => rfl) hr0) hc0 (Kd.C_of_reads (d := (0 : Int)) (h1 := fun _ => rfl) hr1) hc1 h rfl).mono ?_
  rintro e w' ⟨rfl, hd⟩
  exact ⟨rfl, hd⟩

end Go.Proofs.Ytmdeldiocaofkaa.Q
